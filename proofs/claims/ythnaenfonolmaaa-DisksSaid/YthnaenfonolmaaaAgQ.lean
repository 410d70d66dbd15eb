/- Shares that come in: rows with a slice of ints in each. No condition. -/
import Derived.Test.YthnaenfonolmaaaAgP
import Derived.SizedLaws
namespace Go.AE
open Go Go.RowKit Go.ChangeShapes Go.WideShapes Go.Deep
set_option linter.unusedVariables false
set_option linter.unusedSimpArgs false

/-- the slice that stands at cell j of a t: its type, its elements' type -/
def nsAt (P : Program) : Nat → TypeId → Nat → Option (TypeId × TypeId)
  | 0, _, _ => none
  | n + 1, t, j => match P.underlying t with
    | some (.slice e) => cond (Nat.beq j 0) (some (t, e)) none
    | some (.struct fs) => match fs.toList.find? fun f => Nat.ble f.offset j && Nat.blt j (f.offset + P.cellsOf f.type) with
      | some f => nsAt P n f.type (j - f.offset)
      | none => none
    | _ => none
section
variable {H : Type} {enc : TypeId × Value → H} {P : Program} {w : World} {base : Nat} {spare : Nat → Bool} {held : Bool}
theorem nsAt_sound : ∀ (n : Nat) (t : TypeId) (j : Nat) {t' e : TypeId} {fuel : Nat} {cs : List Value} {x : DataW H × List MemPlace}, nsAt P n t j = some (t', e) → DataW.trod enc P w base spare held fuel t cs = some x →
    P.underlying t' = some (.slice e) ∧ ∃ u fuel' x', cs[j]? = some u ∧ DataW.trod enc P w base spare held fuel' t' [u] = some x' ∧ ((x.1.weights P t).all (· ≤ reachBytes) = true → (x'.1.weights P t').all (· ≤ reachBytes) = true)
  | 0, t, j, _, _, _, _, _, h, _ => by cases h
  | n + 1, t, j, t', e, fuel, cs, x, h, hx => by
    unfold nsAt at h
    split at h
    · rename_i e0 ht
      cases hb : Nat.beq j 0 with
      | false => rw [hb] at h; cases h
      | true =>
        rw [hb] at h; cases h
        obtain rfl := beq_t hb
        refine ⟨ht, ?_⟩
        rcases DataW.trod_slice ht hx with ⟨rfl, _⟩ | ⟨a, len, cap, _, _, _, _, rfl, _⟩
        · exact ⟨_, fuel, x, rfl, hx, id⟩
        · exact ⟨_, fuel, x, rfl, hx, id⟩
    · rename_i fs ht
      cases hf : fs.toList.find? fun f => Nat.ble f.offset j && Nat.blt j (f.offset + P.cellsOf f.type) with
      | none => rw [hf] at h; cases h
      | some f =>
        rw [hf] at h
        have hm := List.mem_of_find?_eq_some hf
        have hp := List.find?_some hf
        simp only [Bool.and_eq_true] at hp
        have h1 : f.offset ≤ j := by simpa [Nat.ble_eq] using hp.1
        have h2 : j < f.offset + P.cellsOf f.type := blt_t hp.2
        obtain ⟨i, hi⟩ := List.getElem?_of_mem hm
        obtain ⟨xs, m, _, rfl, hlen, hxl, hg⟩ := DataW.trod_struct ht hx
        have hi' : fs[i]? = some f := by simpa using hi
        have hlt : i < xs.length := by rw [hxl]; exact (Array.getElem?_eq_some_iff.1 hi').1
        have := hg i f hi'
        rw [List.getElem?_eq_getElem hlt] at this
        obtain ⟨hu', u, fuel', x', hu, ho, hw⟩ := nsAt_sound n f.type (j - f.offset) h this
        refine ⟨hu', u, fuel', x', ?_, ho, fun hall => hw ?_⟩
        · rw [List.getElem?_take, if_pos (by omega), List.getElem?_drop] at hu
          rw [← hu]; congr 1; omega
        · rw [List.all_eq_true] at hall ⊢
          intro b hb
          refine hall b ?_
          simp only [DataW.weights, ht]
          exact DataW.weights_mem_each (t := f.type) (d := xs[i].1) (j := i) (by simp [hi]) (by simp [List.getElem?_eq_getElem hlt]) b hb
    · cases h
theorem weights_all {e : TypeId} : ∀ {ds : List (DataW H)} {d : DataW H}, d ∈ ds → (DataW.weightsAll P e ds).all (· ≤ reachBytes) = true → (d.weights P e).all (· ≤ reachBytes) = true
  | d0 :: r, d, hd, h => by
    simp only [DataW.weightsAll, List.all_append, Bool.and_eq_true] at h
    rcases List.mem_cons.1 hd with rfl | hd
    · exact h.1
    · exact weights_all hd h.2
/-- a slice of ints that is there -/
theorem frz_in {t e : TypeId} (ht : P.underlying t = some (.slice e)) (he : P.underlying e = some (.int .i64)) (hc : P.cellsOf e = 1) (hk : P.bytesOf e = 8) {fuel : Nat} {u : Value} {x : DataW H × List MemPlace}
    (h : DataW.trod enc P w 0 (fun _ => true) held fuel t [u] = some x) (hs : (x.1.weights P t).all (· ≤ reachBytes) = true) : ∃ len z, Frz (fun r => w.heap[r]?) len z u ∧ len * 8 ≤ 140737488351232 := by
  have hb : ∀ {a : Option Addr} {len cap : Nat}, u = .slice a len cap → len ≤ cap → len * 8 ≤ 140737488351232 := fun {a len cap} hu hl => by
    subst hu
    have := trod_bytes (k := 8) ht hk (dd := x.1) (pl := x.2) hs ⟨fuel, h⟩
    omega
  rcases open_slice ht h with ⟨hcs, _⟩ | ⟨a, len, cap, m, n, D, Pl, hcs, _, hlc, hcm, hm, hd, hi⟩
  · simp at hcs; subst hcs
    exact ⟨0, fun _ => 0, ⟨none, 0, rfl, Nat.le_refl _, .inl ⟨rfl, rfl⟩⟩, by omega⟩
  · simp at hcs; subst hcs
    simp only [if_true] at hm
    rw [hm] at hi
    have cell : ∀ i, i < cap → ∃ z, w.cell? (a.add i) = some (.int .i64 z) := fun i hic => by
      obtain ⟨cs', h1, h2⟩ := hi i hic
      rw [hc, Nat.mul_one] at h1
      obtain ⟨_, hl, hat⟩ := World.cells?_some h1
      match cs', hl with
      | [v], _ =>
        obtain ⟨z, hv, _, _⟩ := DataW.trod_int he h2
        simp at hv; subst hv
        have := hat 0 (by omega)
        exact ⟨z, by rw [add_add] at this; simpa using this⟩
    by_cases h0 : cap = 0
    · subst h0
      exact ⟨len, fun _ => 0, ⟨_, _, rfl, hlc, .inl ⟨by omega, rfl⟩⟩, hb rfl hlc⟩
    have cz : ∀ i, ∃ z : Int, i < cap → w.cell? (a.add i) = some (.int .i64 z) := fun i => by
      by_cases h1 : i < cap
      · obtain ⟨z, hz⟩ := cell i h1; exact ⟨z, fun _ => hz⟩
      · exact ⟨0, fun h => absurd h h1⟩
    let z : Nat → Int := fun i => (cz i).choose
    have hz : ∀ i, i < cap → w.cell? (a.add i) = some (.int .i64 (z i)) := fun i => (cz i).choose_spec
    have c0 := hz 0 (by omega)
    have hsp : a.spot = none := spot_of (by simpa [Addr.add] using c0)
    obtain ⟨c, el, fr, hh, _⟩ := cell_at c0
    have hcc : ∀ i, i < cap → c[a.off + i]? = some (.int .i64 (z i)) := fun i hi => by
      obtain ⟨c', _, _, hh', g⟩ := cell_at (hz i hi)
      rw [hh] at hh'; cases hh'
      exact g
    refine ⟨len, z, ⟨_, _, rfl, hlc, .inr ⟨a.block, a.off, c, el, fr, ?_, hh, ?_, fun i hi => hcc i (by omega)⟩⟩, hb rfl hlc⟩
    · congr 1; cases a; simp_all
    · have := (Array.getElem?_eq_some_iff.1 (hcc (cap - 1) (by omega))).1
      omega
theorem in_parts {t e tn ti : TypeId} (ks : List Kd) (hks : ks = [.int .i64, .int .i64, .opq, .int .i64, .int .i64]) (ht : P.underlying t = some (.slice e)) (hd : P.cellsOf e = 5) (hk : ∀ j, j < 5 → ∃ k, ks[j]? = some k ∧ kdAt P 6 e j = some k)
    (hn : nsAt P 6 e 2 = some (tn, ti)) (he : P.underlying ti = some (.int .i64)) (hci : P.cellsOf ti = 1) (hbi : P.bytesOf ti = 8) {a : Option Addr} {len cap : Nat} {dd : DataW H} {pl : List MemPlace}
    (hs : (dd.weights P t).all (· ≤ reachBytes) = true) (h : DataW.Trod enc P w 0 (fun _ => true) held t (.slice a len cap) dd pl) :
    ∃ (z : Nat → Nat → Int) (L : Nat → Nat) (y : Nat → Nat → Int) (p : Pl), (∀ ρ, ρ 0 = some p → BX ρ w p (.fam 5 true len (rowP 0 z L y)) ∧ VR ρ (.sl 0 0 len len false) (.slice a len cap)) ∧ (∀ r o, p.fz r = some o → w.heap[r]? = some o) ∧ len ≤ cap ∧
      (∀ i j, i < len → (j = 0 ∨ j = 1 ∨ j = 3 ∨ j = 4) → (Lit.int .i64 (z i j)).wf = true) ∧ ∀ i, i < len → L i ≤ 17592186043904 := by
  subst hks
  have h' := h
  obtain ⟨z, zs, zb, hin, hle, _, hwf⟩ := in_slice [.int .i64, .int .i64, .opq, .int .i64, .int .i64] ht hd (by decide) hk rfl h
  have wf : ∀ i j, i < len → (j = 0 ∨ j = 1 ∨ j = 3 ∨ j = 4) → (Lit.int .i64 (z i j)).wf = true := fun i j hi hj => (hwf i j hi).1 .i64 (by rcases hj with rfl | rfl | rfl | rfl <;> rfl)
  rcases hin with ⟨rfl, rfl⟩ | ⟨p0, hp⟩
  · refine ⟨z, fun _ => 0, fun _ _ => 0, phPl 5, fun ρ _ => ⟨.inr ⟨rfl, rfl, rfl⟩, .sl0 _ _ _⟩, fun r o h => (by cases h), hle, wf, fun i hi => absurd hi (Nat.not_lt_zero _)⟩
  obtain ⟨fuel, hf⟩ := h'
  have each : ∀ i, i < len → ∃ u l y0, w.cell? (⟨p0.blk, p0.base + (i * 5 + 2), none⟩) = some u ∧ Frz (fun r => w.heap[r]?) l y0 u ∧ l * 8 ≤ 140737488351232 := fun i hi => by
    rcases open_slice ht hf with ⟨hcs, _⟩ | ⟨x, l, c, m, n, D, Pl, hcs, _, hlc, hcm, hm, hd2, hi2⟩
    · simp [Value.cells] at hcs; omega
    · simp [Value.cells] at hcs
      obtain ⟨hx, hl, hc⟩ := hcs
      simp only [if_true] at hm
      subst hl; subst hc
      rw [hm] at hi2
      obtain ⟨cs', h1, h2⟩ := hi2 i (by omega)
      obtain ⟨hu', u, fuel', x', hu, ho, hw⟩ := nsAt_sound 6 e 2 hn h2
      have hdd : dd = _ := congrArg Prod.fst hd2
      have hw1 : ((D i).weights P e).all (· ≤ reachBytes) = true := by
        rw [hdd] at hs
        simp only [DataW.weights, ht, List.all_cons, List.all_append, Bool.and_eq_true] at hs
        exact weights_all (List.mem_map.2 ⟨i, List.mem_range.2 hi, rfl⟩) hs.2.1
      obtain ⟨l0, y0, hfz, hb⟩ := frz_in hu' he hci hbi ho (hw hw1)
      refine ⟨u, l0, y0, ?_, hfz, hb⟩
      rw [hd] at h1
      obtain ⟨_, hlen, hat⟩ := World.cells?_some h1
      have hcell := hat 2 (by omega)
      rw [hu] at hcell
      rw [add_add] at hcell
      have hxa : x = ⟨p0.blk, p0.base, none⟩ := by
        have := hp.ad
        rw [hx] at this
        exact Option.some.inj this
      rw [hxa] at hcell
      rw [← hcell]
      congr 1
  have cz : ∀ i, ∃ (l : Nat) (y0 : Nat → Int), i < len → l * 8 ≤ 140737488351232 ∧ ∃ u, w.cell? (⟨p0.blk, p0.base + (i * 5 + 2), none⟩) = some u ∧ Frz (fun r => w.heap[r]?) l y0 u := fun i => by
    by_cases hi : i < len
    · obtain ⟨u, l, y0, h1, h2, h3⟩ := each i hi
      exact ⟨l, y0, fun _ => ⟨h3, u, h1, h2⟩⟩
    · exact ⟨0, fun _ => 0, fun h => absurd h hi⟩
  let L : Nat → Nat := fun i => (cz i).choose
  let y : Nat → Nat → Int := fun i => (cz i).choose_spec.choose
  have hLy : ∀ i, i < len → L i * 8 ≤ 140737488351232 ∧ ∃ u, w.cell? (⟨p0.blk, p0.base + (i * 5 + 2), none⟩) = some u ∧ Frz (fun r => w.heap[r]?) (L i) (y i) u := fun i => (cz i).choose_spec.choose_spec
  have hph : p0.ph = false := hp.nph
  refine ⟨z, L, y, { p0 with fz := fun r => w.heap[r]? }, fun ρ hρ => ⟨?_, ?_⟩, fun r o h => h, hle, wf, fun i hi => by have := (hLy i hi).1; omega⟩
  · have hbr := (hp.br ρ).real hph
    obtain ⟨d1, c, el, fr, hc1, hc2, hc3, hrow⟩ := hbr
    refine .inl ⟨hph, d1, c, el, fr, hc1, hc2, fun e => (by cases e), fun i hi => ⟨rfl, rfl, fun j v hv => ?_⟩⟩
    obtain ⟨_, _, hl⟩ := hrow i hi
    match j, hv with
    | 0, hv => cases hv; exact hl 0 _ rfl
    | 1, hv => cases hv; exact hl 1 _ rfl
    | 3, hv => cases hv; exact hl 3 _ rfl
    | 4, hv => cases hv; exact hl 4 _ rfl
    | 2, hv =>
      cases hv
      obtain ⟨_, u, hu, hfz⟩ := hLy i hi
      obtain ⟨c', _, _, hh', g⟩ := cell_at (x := ⟨p0.blk, p0.base + (i * 5 + 2), none⟩) (k := 0) (by simpa [Addr.add] using hu)
      rw [hc1] at hh'; cases hh'
      exact ⟨u, by rw [← g]; congr 1, .mp _ _ _ hρ hfz⟩
    | j + 5, hv => simp [rowP] at hv
  · have := (hp.vr (ρ := fun n => if n = 0 then some p0 else none) (b := 0) rfl).forget
    cases this with
    | sl r l c x cap' hq g1 g2 g3 g4 g5 =>
      have hq : some p0 = some _ := hq
      cases hq
      exact .sl (p := { p0 with fz := fun r => w.heap[r]? }) _ _ _ _ _ hρ g1 g2 g3 g4 g5
    | sl0 r x a => exact .sl0 _ _ _
end
end Go.AE
