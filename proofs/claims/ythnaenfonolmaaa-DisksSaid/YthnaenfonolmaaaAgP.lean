/- Rows with a slice of ints in each: loops that lay such slices by, lists that come in, calls that compare two of them. No condition. -/
import Derived.Test.YthnaenfonolmaaaAgO
namespace Go.AE
open Go Go.RowKit Go.ChangeShapes Go.WideShapes Go.Deep
set_option linter.unusedVariables false
set_option linter.unusedSimpArgs false

/-- a row of a share -/
def rowP (b : Nat) (z : Nat → Nat → Int) (L : Nat → Nat) (y : Nat → Nat → Int) (i : Nat) : List SV :=
  [.int .i64 (z i 0), .int .i64 (z i 1), .mp b (L i) (y i), .int .i64 (z i 3), .int .i64 (z i 4)]

/-! ### More that stays as it is -/
/-- below n: the same places, with more that stays -/
def Upz (n : Nat) (σ τ : Map) : Prop := ∀ i, i < n → ∀ p, σ i = some p → ∃ f, τ i = some { p with fz := f } ∧ ∀ r o, p.fz r = some o → f r = some o
theorem Frz.mono {f g : Nat → Option Obj} (h : ∀ r o, f r = some o → g r = some o) {len : Nat} {z : Nat → Int} {u : Value} (hu : Frz f len z u) : Frz g len z u := by
  obtain ⟨a, cap, e, h1, h2⟩ := hu
  exact ⟨a, cap, e, h1, h2.imp id fun ⟨blk, base, c, e, fr, h3, h4, h5⟩ => ⟨blk, base, c, e, fr, h3, h _ _ h4, h5⟩⟩
section
variable {σ τ : Map} {n : Nat}
mutual
theorem VR.upz (h : Upz n σ τ) : ∀ (v : SV) {u : Value}, low n v = true → VR σ v u → VR τ v u
  | .ptr b r c, u, hl, hv => by cases hv with | @ptr _ p r c hp => obtain ⟨f, h1, _⟩ := h _ (blt_t hl) _ hp; exact .ptr (p := { p with fz := f }) r c h1
  | .sl b r len cap x, u, hl, hv => by
    cases hv with
    | @sl _ p r len cap x cap' hp g1 g2 g3 g4 g5 => obtain ⟨f, h1, _⟩ := h _ (blt_t hl) _ hp; exact .sl (p := { p with fz := f }) r len cap x cap' h1 g1 g2 g3 g4 g5
    | sl0 r x a => exact .sl0 r x a
  | .mp b len z, u, hl, hv => by cases hv with | mp _ _ _ hp hu => obtain ⟨f, h1, h2⟩ := h _ (blt_t hl) _ hp; exact .mp _ _ _ h1 (hu.mono h2)
  | .fn f xs ys, u, hl, hv => by
    simp only [low, Bool.and_eq_true] at hl
    cases hv with | fn f h1 h2 => exact .fn f (VRs.upz h xs hl.1 h1) (VRs.upz h ys hl.2 h2)
  | .ifc t v, u, hl, hv => by cases hv with | ifc t h1 => exact .ifc t (VR.upz h v hl h1)
  | .agg l, u, hl, hv => by cases hv with | agg h1 => exact .agg (VRs.upz h l hl h1)
  | .tup l, u, hl, hv => by cases hv with | tup h1 => exact .tup (VRs.upz h l hl h1)
  | .int k m, u, hl, hv => by cases hv; exact .int k m
  | .bool b, u, hl, hv => by cases hv; exact .bool b
  | .str s, u, hl, hv => by cases hv; exact .str s
  | .nilp, u, hl, hv => by cases hv; exact .nilp
  | .z0, u, hl, hv => by cases hv; exact .z0 _
  | .one, u, hl, hv => by cases hv; exact .one _ (by assumption)
  | .nils, u, hl, hv => by cases hv; exact .nils
  | .nilf, u, hl, hv => by cases hv; exact .nilf
  | .nili, u, hl, hv => by cases hv; exact .nili
  | .nilm, u, hl, hv => by cases hv; exact .nilm
  | .junk, u, hl, hv => .junk u
theorem VRs.upz (h : Upz n σ τ) : ∀ (l : List SV) {us : List Value}, lowL n l = true → VRs σ l us → VRs τ l us
  | [], us, _, hv => by cases hv; exact .nil
  | v :: l, us, hl, hv => by
    simp only [lowL, Bool.and_eq_true] at hl
    cases hv with
    | cons h1 h2 => exact .cons (VR.upz h v hl.1 h1) (VRs.upz h l hl.2 h2)
end
theorem LR.upz {c : Array Value} {o : Nat} {cs : List SV} (h : Upz n σ τ) (hl : lowL n cs = true) (l : LR σ c o cs) : LR τ c o cs := fun j v e => by
  obtain ⟨u, hu, hv⟩ := l j v e
  exact ⟨u, hu, VR.upz h v (low_get hl e) hv⟩
theorem BR.upz {w : World} {p : Pl} (f : Nat → Option Obj) (h : Upz n σ τ) : ∀ {b : Bk}, lowB n b → BR σ w p b → BR τ w { p with fz := f } b
  | .flat d ro cs, hl, ⟨h1, c, e, fr, h2, h3, h4, h5, h6⟩ => ⟨h1, c, e, fr, h2, h3, h4, h5, h6.upz h hl⟩
  | .fam d ro m row, hl, ⟨h1, c, e, fr, h2, h3, h4, h5⟩ => ⟨h1, c, e, fr, h2, h3, h4, fun i hi => ⟨(h5 i hi).1, (h5 i hi).2.1, (h5 i hi).2.2.upz h (hl i hi)⟩⟩
  | .mapk es, hl, hb => hb.elim
theorem BX.upz {w : World} {p : Pl} (f : Nat → Option Obj) (h : Upz n σ τ) {b : Bk} (hl : lowB n b) (hb : BX σ w p b) : BX τ w { p with fz := f } b := by
  rcases hb with ⟨h1, h2⟩ | ⟨h1, h2⟩
  · exact .inl ⟨h1, h2.upz f h hl⟩
  · refine .inr ⟨h1, ?_⟩
    cases b with
    | fam d ro m row => exact h2
    | flat d ro cs => exact h2
    | mapk es => exact h2
end

/-- the last row's slice of a block of its own is laid by: what stays lies under the name 2 -/
theorem absorb {C : Cx} {σ : Map} {w : World} {c0 c1 c2 c0' c1' k k' : Nat} {b0 : Bk} {j m : Nat} {row row' : Nat → List SV} {y0 : Nat → Int} {x0 x1 x3 x4 : SV}
    (hb0 : lowB 1 b0) (hro : b0.ro = true) (hR : Rel C σ { h := [(0, c0, b0), (1, c1, .fam 5 false (j + 1) row'), (3, c2, .fam 1 false m fun i => [.int .i64 (y0 i)])], nx := 4, ck := k, st := 1 } w)
    (hold : ∀ i, i < j → row' i = row i) (hlow : ∀ i, i < j → lowL 3 (row i) = true)
    (hj : row' j = [x0, x1, .sl 3 0 m m false, x3, x4]) (hj2 : row j = [x0, x1, .mp 2 m y0, x3, x4]) (hx : lowL 3 [x0, x1, x3, x4] = true) :
    ∃ τ, τ 0 = σ 0 ∧ τ 1 = σ 1 ∧ (∀ i, 3 ≤ i → τ i = none) ∧ Rel C τ { h := [(0, c0', b0), (1, c1', .fam 5 false (j + 1) row)], nx := 3, ck := k', st := 1 } w := by
  obtain ⟨p0, hp0, hb0'⟩ := hR.blk 0 c0 b0 rfl
  obtain ⟨p1, hp1, hb1⟩ := hR.blk 1 c1 _ rfl
  obtain ⟨p2, hp2, hb2⟩ := hR.blk 3 c2 _ rfl
  have hph1 : p1.ph = false := by
    rcases hb1 with h | h
    · exact h.1
    · have := h.2.1; omega
  have hb1r := hb1.real hph1
  obtain ⟨d1, c, el0, fr, hc1, hc2, hc3, hrow⟩ := hb1r
  let g : Nat → Option Obj := fun r => match σ 2 with | some p => p.fz r | none => none
  let f : Nat → Option Obj := fun r => if p2.ph = false ∧ r = p2.blk then w.heap[r]? else g r
  have hg : ∀ r o, g r = some o → ∃ p, σ 2 = some p ∧ p.fz r = some o := fun r o h => by
    have h : (match σ 2 with | some p => p.fz r | none => none) = some o := h
    cases hs : σ 2 with
    | none => rw [hs] at h; cases h
    | some p => rw [hs] at h; exact ⟨p, rfl, h⟩
  have hf : ∀ r o, g r = some o → f r = some o := fun r o h => by
    show (if p2.ph = false ∧ r = p2.blk then w.heap[r]? else g r) = some o
    split
    · obtain ⟨p, h1, h2⟩ := hg r o h
      exact (hR.frz 2 p r o h1 h2).1
    · exact h
  let q2 : Pl := match σ 2 with | some p => { p with fz := f } | none => { blk := 0, base := 0, w := 1, size := 0, ph := true, fz := f }
  have q2f : q2.fz = f := by
    show (match σ 2 with | some p => { p with fz := f } | none => ({ blk := 0, base := 0, w := 1, size := 0, ph := true, fz := f } : Pl)).fz = f
    cases σ 2 <;> rfl
  have q2b : q2.ph = false → q2.blk < w.heap.size := fun h => by
    have e : q2 = (match σ 2 with | some p => { p with fz := f } | none => ({ blk := 0, base := 0, w := 1, size := 0, ph := true, fz := f } : Pl)) := rfl
    cases hs : σ 2 with
    | none => rw [hs] at e; rw [e] at h; cases h
    | some p => rw [hs] at e; rw [e] at h ⊢; exact hR.inb 2 p hs h
  let τ : Map := fun i => if i = 2 then some q2 else if i < 2 then σ i else none
  have t2 : τ 2 = some q2 := rfl
  have t1 : τ 1 = some p1 := hp1
  have t0 : τ 0 = σ 0 := rfl
  have th : ∀ i, 3 ≤ i → τ i = none := fun i hi => by show (if i = 2 then _ else if i < 2 then σ i else none) = none; rw [if_neg (by omega), if_neg (by omega)]
  have up : Upz 3 σ τ := fun i hi p hp => by
    by_cases h : i = 2
    · subst h
      refine ⟨f, ?_, fun r o hz => hf r o ?_⟩
      · rw [t2]
        show some (match σ 2 with | some p => { p with fz := f } | none => ({ blk := 0, base := 0, w := 1, size := 0, ph := true, fz := f } : Pl)) = _
        rw [hp]
      · show (match σ 2 with | some p => p.fz r | none => none) = some o
        rw [hp]; exact hz
    · refine ⟨p.fz, ?_, fun _ _ h => h⟩
      show (if i = 2 then _ else if i < 2 then σ i else none) = _
      rw [if_neg h, if_pos (by omega), hp]
  have inv : ∀ {i p}, τ i = some p → (i = 0 ∧ σ 0 = some p) ∨ (i = 1 ∧ p = p1) ∨ (i = 2 ∧ p = q2) := fun {i p} hp => by
    rcases Nat.lt_or_ge i 3 with h | h
    · match i, h with
      | 0, _ => exact .inl ⟨rfl, hp⟩
      | 1, _ => rw [t1] at hp; cases hp; exact .inr (.inl ⟨rfl, rfl⟩)
      | 2, _ => rw [t2] at hp; cases hp; exact .inr (.inr ⟨rfl, rfl⟩)
    · rw [th i h] at hp; cases hp
  have hx' : low 3 x0 = true ∧ low 3 x1 = true ∧ low 3 x3 = true ∧ low 3 x4 = true := by
    simp only [lowL, Bool.and_eq_true] at hx
    exact ⟨hx.1, hx.2.1, hx.2.2.1, hx.2.2.2.1⟩
  have find0 : ∀ {m' : Nat} {v : Nat} {b : Bk}, find [(0, c0', b0), (1, c1', Bk.fam 5 false (j + 1) row)] m' = some (v, b) → (m' = 0 ∧ b = b0) ∨ (m' = 1 ∧ b = .fam 5 false (j + 1) row) := by
    intro m' v b e
    match m', e with
    | 0, e => cases e; exact .inl ⟨rfl, rfl⟩
    | 1, e => cases e; exact .inr ⟨rfl, rfl⟩
    | m'' + 2, e => cases e
  refine ⟨τ, t0, t1.trans hp1.symm, th, hR.os, hR.tape, hR.output, hR.size, hR.out, fun i v b e => ?_, fun i i' vi bi vj bj p q ei ej hne hr hp hq g1 g2 => ?_, fun i v b p e hr hp g1 => ?_, fun q => th _ (by show 3 ≤ 3 + q * 1; omega), Nat.zero_lt_one, fun i p hp g1 => ?_, fun i p r o hp hz => ?_⟩
  · rcases find0 e with ⟨rfl, rfl⟩ | ⟨rfl, rfl⟩
    · refine ⟨p0, by rw [t0]; exact hp0, ?_⟩
      have := BX.upz (n := 1) (τ := τ) p0.fz (fun i hi p hp => up i (by omega) p hp) hb0 hb0'
      exact this
    · refine ⟨_, t1, .inl ⟨hph1, d1, c, el0, fr, hc1, hc2, hc3, fun i hi => ?_⟩⟩
      by_cases hij : i = j
      · subst hij
        obtain ⟨a1, a2, a3⟩ := hrow i hi
        rw [hj] at a2 a3
        rw [hj2]
        refine ⟨rfl, ?_, fun l v el => ?_⟩
        · simp only [List.all_cons, List.all_nil, Bool.and_eq_true] at a2 ⊢
          exact ⟨a2.1, a2.2.1, rfl, a2.2.2.2.1, a2.2.2.2.2.1, trivial⟩
        · match l, el with
          | 0, el => obtain ⟨u, b1, b2⟩ := a3 0 _ rfl; cases el; exact ⟨u, b1, VR.upz up _ hx'.1 b2⟩
          | 1, el => obtain ⟨u, b1, b2⟩ := a3 1 _ rfl; cases el; exact ⟨u, b1, VR.upz up _ hx'.2.1 b2⟩
          | 3, el => obtain ⟨u, b1, b2⟩ := a3 3 _ rfl; cases el; exact ⟨u, b1, VR.upz up _ hx'.2.2.1 b2⟩
          | 4, el => obtain ⟨u, b1, b2⟩ := a3 4 _ rfl; cases el; exact ⟨u, b1, VR.upz up _ hx'.2.2.2 b2⟩
          | 2, el =>
            obtain ⟨u, b1, b2⟩ := a3 2 _ rfl
            cases el
            refine ⟨u, b1, .mp _ _ _ t2 ?_⟩
            rw [q2f]
            cases b2 with
            | sl0 r x a => exact ⟨a, 0, rfl, Nat.le_refl _, .inl ⟨rfl, rfl⟩⟩
            | @sl _ p r len cap x cap' hp g1 g2 g3 g4 g5 =>
              rw [hp2] at hp; cases hp
              obtain ⟨d2, c', e', fr', hh, hs2, _, hr2⟩ := hb2.real g5
              refine ⟨_, cap', rfl, Nat.le_trans g1 g2, .inr ⟨_, _, c', e', fr', rfl, ?_, ?_, fun i' hi' => ?_⟩⟩
              · show (if p2.ph = false ∧ p2.blk = p2.blk then w.heap[p2.blk]? else g p2.blk) = _
                rw [if_pos ⟨g5, rfl⟩]; exact hh
              · rw [hs2]; rw [d2] at g4 ⊢; omega
              · obtain ⟨_, _, hl⟩ := hr2 i' hi'
                obtain ⟨u', hu', hv'⟩ := hl 0 _ rfl
                cases hv'
                rw [← hu']; congr 1; rw [d2]; omega
          | l + 5, el => simp at el
      · have hi' : i < j := by omega
        obtain ⟨a1, a2, a3⟩ := hrow i hi
        rw [hold i hi'] at a1 a2 a3
        exact ⟨a1, a2, a3.upz up (hlow i hi')⟩
  · rcases find0 ei with ⟨rfl, rfl⟩ | ⟨rfl, rfl⟩
    · rw [hro] at hr; cases hr
    · rcases find0 ej with ⟨rfl, rfl⟩ | ⟨rfl, rfl⟩
      · rw [t1] at hp; cases hp
        exact hR.sep 1 0 c1 _ c0 _ p1 q rfl rfl (by omega) rfl hp1 hq g1 g2
      · exact absurd rfl hne
  · rcases find0 e with ⟨rfl, rfl⟩ | ⟨rfl, rfl⟩
    · rw [hro] at hr; cases hr
    · rw [t1] at hp; cases hp
      exact hR.own 1 c1 _ p1 rfl rfl hp1 hph1
  · rcases inv hp with ⟨rfl, h⟩ | ⟨rfl, rfl⟩ | ⟨rfl, rfl⟩
    · exact hR.inb 0 p h g1
    · exact hR.inb 1 p hp1 hph1
    · exact q2b g1
  · have third : ∀ r', (∀ q, σ 1 = some q → q.ph = false → q.blk ≠ r') → ∀ m' v b q, find [(0, c0', b0), (1, c1', Bk.fam 5 false (j + 1) row)] m' = some (v, b) → b.ro = false → τ m' = some q → q.ph = false → q.blk ≠ r' := by
      intro r' h m' v b q e hr hq g1
      rcases find0 e with ⟨rfl, rfl⟩ | ⟨rfl, rfl⟩
      · rw [hro] at hr; cases hr
      · rw [t1] at hq; cases hq; exact h p1 hp1 hph1
    rcases inv hp with ⟨rfl, h⟩ | ⟨rfl, rfl⟩ | ⟨rfl, rfl⟩
    · obtain ⟨f1, f2, f3⟩ := hR.frz 0 p r o h hz
      exact ⟨f1, f2, third r fun q hq g => f3 1 c1 _ q rfl rfl hq g⟩
    · obtain ⟨f1, f2, f3⟩ := hR.frz 1 p r o hp1 hz
      exact ⟨f1, f2, third r fun q hq g => f3 1 c1 _ q rfl rfl hq g⟩
    · rw [q2f] at hz
      have hz : (if p2.ph = false ∧ r = p2.blk then w.heap[r]? else g r) = some o := hz
      split at hz
      · rename_i hc
        refine ⟨hz, .inr ?_, third r fun q hq g => ?_⟩
        · rw [hc.2]; exact hR.own 3 c2 _ p2 rfl rfl hp2 hc.1
        · rw [hc.2]; exact hR.sep 1 3 c1 _ c2 _ q p2 rfl rfl (by omega) rfl hq hp2 g hc.1
      · obtain ⟨p, h1, h2⟩ := hg r o hz
        obtain ⟨f1, f2, f3⟩ := hR.frz 2 p r o h1 h2
        exact ⟨f1, f2, third r fun q hq g => f3 1 c1 _ q rfl rfl hq g⟩

open Classical in
/-- a loop whose rounds end with words T', S', which are told on as T, S -/
theorem loop_abs {P : Program} {eqt : List TypeId} {ctr : Ctr} (hP : PK P eqt) (okc : okC P ctr) {b : Code} (hf : cfits b = true) (N : Nat) (T : Nat → List SV) (S : Nat → St) (T' : Nat → List SV) (S' : Nat → St) (μ : Nat → Nat) (I : Nat → Prop) (q : Nat → Prop) (o : Nat → Out)
    (round : ∀ j, I j → ∃ r, exec (HS P eqt ctr) P b (T j) (S j) (kN N T' S' μ I j) (kX N q o) (kR N q o) r) {j0 : Nat} (h0 : I j0) {t0 : List SV} {s0 : St} (h1 : s0.st = 1) (hN : s0.nx = N) {π : List (Nat × Nat)} (ht0 : tells N π t0 s0 (T j0) (S j0))
    (ab : ∀ j j', I j → I j' → μ j' < μ j → ∀ (C : Cx) (ρ σ : Map) (w : World) (us : List Value), Ext s0 (S' j') ρ σ → (∀ q, ρ (s0.nx + q * s0.st) = none) → Rel C σ (S' j') w → VRs σ (T' j') us → ∃ σ', Ext s0 (S j') ρ σ' ∧ Rel C σ' (S j') w ∧ VRs σ' (T j') us) : LQ P b t0 s0 q o := by
  intro C ρ a w hR ht hd
  subst hN
  obtain ⟨σ0, hE0, hR0, hv0⟩ := tells.rel ht0 h1 hR.fresh (Ext.refl _ _) hR ht
  let J : Nat → Act → World → Prop := fun n a' w' => ∃ j σ, n = μ j ∧ Ext s0 (S j) ρ σ ∧ VRs σ (T j) a'.tmps.toList ∧ a'.defers = [] ∧ Rel C σ (S j) w' ∧ I j
  let ν : Act → World → Nat := fun a' w' => if h : ∃ n, J n a' w' then Classical.choose (least h) else 0
  have hν : ∀ {a' w'} (h : ∃ n, J n a' w'), J (ν a' w') a' w' ∧ ∀ m, J m a' w' → ν a' w' ≤ m := by
    intro a' w' h
    have e : ν a' w' = Classical.choose (least h) := dif_pos h
    rw [e]
    exact Classical.choose_spec (least h)
  refine wp_loop (fun a' w' => ∃ n, J n a' w') ν ⟨_, j0, σ0, rfl, hE0, hv0, hd, hR0, h0⟩ fun a' w' hI => ?_
  obtain ⟨j, σ, hj, hE, ht', hd', hR', hIj⟩ := (hν hI).1
  obtain ⟨r, hr⟩ := round j hIj
  have key := scr_exec hP okc hf (kn' := fun t' s' => ∃ j' π, I j' ∧ μ j' < μ j ∧ tells s0.nx π t' s' (T' j') (S' j')) (kx' := fun i t' s' => ∃ e π, q e ∧ isX s0.nx (o e) i t' s' π) (kr' := fun t' s' => ∃ e π, q e ∧ isR s0.nx (o e) t' s' π)
    (fun t s r h => by cases r <;> simp only [kN] at h; exact ⟨_, _, h⟩) (fun i t s r h => by cases r <;> simp only [kX] at h; exact ⟨_, _, h⟩) (fun t s r h => by cases r <;> simp only [kR] at h; exact ⟨_, _, h⟩) _ hr
  refine wp_mono (key C σ a' w' hR' ht' hd') ?_
  intro e a'' w'' hp
  cases e with
  | normal =>
    obtain ⟨t3, s3, σ3, hE3, ht3, hd3, hR3, j', π, hI', hm, hcn⟩ := hp
    obtain ⟨σ4, hE4, hR4, ht4⟩ := hcn.rel h1 hR.fresh (hE.trans hE3) hR3 ht3
    obtain ⟨σ5, hE5, hR5, ht5⟩ := ab j j' hIj hI' hm C ρ σ4 w'' _ hE4 hR.fresh hR4 ht4
    have hJ : J (μ j') a'' w'' := ⟨j', σ5, rfl, hE5, ht5, hd3, hR5, hI'⟩
    have := (hν ⟨_, hJ⟩).2 _ hJ
    exact ⟨⟨_, hJ⟩, by omega⟩
  | exit i =>
    obtain ⟨t3, s3, σ3, hE3, ht3, hd3, hR3, e, π, hq, hx⟩ := hp
    unfold isX at hx
    cases ho : o e with
    | x i' t' s' =>
      rw [ho] at hx
      obtain ⟨hi, hcn⟩ := condF hx
      have := beq_t hi
      subst this
      obtain ⟨σ4, hE4, hR4, ht4⟩ := hcn.rel h1 hR.fresh (hE.trans hE3) hR3 ht3
      exact ⟨t', s', σ4, hE4, ht4, hd3, hR4, e, hq, ho⟩
    | n _ _ => rw [ho] at hx; exact hx.elim
    | r _ _ => rw [ho] at hx; exact hx.elim
  | ret =>
    obtain ⟨t3, s3, σ3, hE3, ht3, hd3, hR3, e, π, hq, hx⟩ := hp
    unfold isR at hx
    cases ho : o e with
    | r t' s' =>
      rw [ho] at hx
      obtain ⟨σ4, hE4, hR4, ht4⟩ := tells.rel hx h1 hR.fresh (hE.trans hE3) hR3 ht3
      exact ⟨t', s', σ4, hE4, ht4, hd3, hR4, e, hq, ho⟩
    | n _ _ => rw [ho] at hx; exact hx.elim
    | x _ _ _ => rw [ho] at hx; exact hx.elim
  | _ => exact hp.elim

/-- absorb, with what a loop over rows asks -/
theorem absorb_ext {ρ σ : Map} {s0 s1 s2 : St} (hE : Ext s0 s1 ρ σ) (hfr : ∀ q, ρ (s0.nx + q * s0.st) = none) (h0 : s0.st = 1) (hn0 : s0.nx = 1) (h2 : s2.nx = 3) (h2s : s2.st = 1) {τ : Map} (t0 : τ 0 = σ 0) (th : ∀ i, 3 ≤ i → τ i = none) : Ext s0 s2 ρ τ := by
  have rn : ∀ i, 1 ≤ i → ρ i = none := fun i hi => by
    have := hfr (i - 1)
    rwa [hn0, h0, Nat.mul_one, show 1 + (i - 1) = i by omega] at this
  have r0 : σ 0 = ρ 0 := by
    rcases hE.2.1 0 with h | ⟨q, h, _⟩
    · exact h
    · omega
  refine ⟨fun i p hp => ?_, fun i => ?_, by rw [h2s, h0], 2, by rw [h2, hn0, h0]⟩
  · match i with
    | 0 => rw [t0, r0]; exact hp
    | i + 1 => rw [rn _ (by omega)] at hp; cases hp
  · match i with
    | 0 => exact .inl (by rw [t0, r0])
    | 1 => exact .inr ⟨0, by rw [hn0, h0], by rw [h2]; omega⟩
    | 2 => exact .inr ⟨1, by rw [hn0, h0], by rw [h2]; omega⟩
    | i + 3 => exact .inl (by rw [th _ (by omega), rn _ (by omega)])

/-! ### A call that compares two of them -/
theorem frz_place {f : Nat → Option Obj} {len : Nat} {z : Nat → Int} {u : Value} {w : World} (hu : Frz f len z u) (hw : ∀ r o, f r = some o → w.heap[r]? = some o) :
    ∃ q : Pl, (∀ ρ, BX ρ w q (.fam 1 true len fun i => [.int .i64 (z i)])) ∧ (∀ ρ b, ρ b = some q → VR ρ (.sl b 0 len len false) u) ∧ ∀ r, q.fz r = none := by
  obtain ⟨a, cap, rfl, h1, ⟨rfl, rfl⟩ | ⟨blk, base, c, e, fr, rfl, h3, h4, h5⟩⟩ := hu
  · exact ⟨phPl 1, fun _ => .inr ⟨rfl, rfl, rfl⟩, fun ρ b _ => .sl0 _ _ _, fun _ => rfl⟩
  · refine ⟨{ blk := blk, base := base, w := 1, size := c.size }, fun ρ => .inl ⟨rfl, rfl, c, e, fr, hw _ _ h3, rfl, fun e => (by cases e), fun i hi => ⟨rfl, rfl, fun j v hj => ?_⟩⟩, fun ρ b hb => ?_, fun _ => rfl⟩
    · cases j with
      | zero => cases hj; exact ⟨_, by rw [← h5 i hi]; congr 1; show base + i * 1 + 0 = _; omega, .int _ _⟩
      | succ j => simp at hj
    · have := VR.sl (ρ := ρ) 0 len len false cap hb (Nat.le_refl _) h1 (fun e => by cases e) (by show base + (0 + cap) * 1 ≤ c.size; omega) rfl
      simpa using this
theorem VR.mp_inv {ρ : Map} {b l : Nat} {z : Nat → Int} {u : Value} (h : VR ρ (.mp b l z) u) : ∃ p, ρ b = some p ∧ Frz p.fz l z u := by
  cases h with
  | mp _ _ _ hp hu => exact ⟨_, hp, hu⟩
theorem CL.mp2 {P : Program} {f : FuncId} {b1 b2 l1 l2 : Nat} {z1 z2 : Nat → Int} {v : SV} (hv0 : (∀ π, ren π v = v) ∧ low 0 v = true)
    (hc : CL P f [.sl 0 0 l1 l1 false, .sl 1 0 l2 l2 false] (SR2 1 (fun i _ => z1 i) l1 (fun i _ => z2 i) l2) fun v' s' => v' = v ∧ s' = SR2 1 (fun i _ => z1 i) l1 (fun i _ => z2 i) l2) (s : St) :
    CL P f [.mp b1 l1 z1, .mp b2 l2 z2] s fun v' s' => v' = v ∧ s' = s := by
  intro C ρ w us hR hv
  obtain ⟨u1, u2, rfl, hv1, hv2⟩ : ∃ u1 u2, us = [u1, u2] ∧ VR ρ (.mp b1 l1 z1) u1 ∧ VR ρ (.mp b2 l2 z2) u2 := by
    cases hv with
    | cons hv1 hv => cases hv with
      | cons hv2 hv => cases hv; exact ⟨_, _, rfl, hv1, hv2⟩
  obtain ⟨p1, hp1, hu1⟩ := hv1.mp_inv
  obtain ⟨p2, hp2, hu2⟩ := hv2.mp_inv
  obtain ⟨q1, B1, V1, Z1⟩ := frz_place hu1 fun r o h => (hR.frz _ _ r o hp1 h).1
  obtain ⟨q2, B2, V2, Z2⟩ := frz_place hu2 fun r o h => (hR.frz _ _ r o hp2 h).1
  have hl : ∀ {p b}, (p, b) ∈ [(q1, Bk.fam 1 true l1 fun i => [.int .i64 (z1 i)]), (q2, Bk.fam 1 true l2 fun i => [.int .i64 (z2 i)])] → (p = q1 ∧ b = Bk.fam 1 true l1 fun i => [.int .i64 (z1 i)]) ∨ (p = q2 ∧ b = Bk.fam 1 true l2 fun i => [.int .i64 (z2 i)]) := fun h => by simpa using h
  have hRs := rel_inZ w [(q1, Bk.fam 1 true l1 fun i => [.int .i64 (z1 i)]), (q2, Bk.fam 1 true l2 fun i => [.int .i64 (z2 i)])] (fun p b h => by
      rcases hl h with ⟨rfl, rfl⟩ | ⟨rfl, rfl⟩
      · exact ⟨B1 _, rfl⟩
      · exact ⟨B2 _, rfl⟩)
    (fun p b h r o hz => by
      rcases hl h with ⟨rfl, rfl⟩ | ⟨rfl, rfl⟩
      · rw [Z1] at hz; cases hz
      · rw [Z2] at hz; cases hz)
  refine Calls.mono (hc _ _ w _ hRs (.cons (V1 _ 0 rfl) (.cons (V2 _ 1 rfl) .nil))) ?_
  rintro e w' ⟨v', s', σ, u, ⟨rfl, rfl⟩, he, hE, hu, hR'⟩
  have hh : ∀ r, r < w.heap.size → w'.heap[r]? = w.heap[r]? := fun r hr => hR'.out r hr fun h => h
  refine ⟨_, s, ρ, u, ⟨rfl, rfl⟩, he, Ext.refl _ _, VR.small (π := fun i => i) (n := 0) (ρ := σ) (τ := ρ) (fun i hi => absurd hi (Nat.not_lt_zero _)) v' hv0.2 (by rw [hv0.1]; exact hu), ?_⟩
  refine ⟨hR'.os.trans hR.os, hR'.tape.trans hR.tape, hR'.output.trans hR.output, Nat.le_trans hR.size hR'.size, fun r hr hS => (hh r (Nat.lt_of_lt_of_le hr hR.size)).trans (hR.out r hr hS), fun i v b e => ?_, hR.sep, hR.own, hR.fresh, hR.stp, fun i p hp hx => Nat.lt_of_lt_of_le (hR.inb i p hp hx) hR'.size, fun n p r o hn hf => let ⟨a, b, c⟩ := hR.frz n p r o hn hf; ⟨(hh r (Array.getElem?_eq_some_iff.1 a).1).trans a, b, c⟩⟩
  obtain ⟨p, hp, hb⟩ := hR.blk i v b e
  exact ⟨p, hp, hb.keep fun hx => hh _ (hR.inb i p hp hx)⟩
/-- two slices that hold the same -/
def cMp2 : C1 := fun xs s => match xs with
  | [.mp _ l1 z1, .mp _ l2 z2] => some (l1 = l2 ∧ l1 ≤ 9223372036854775807 ∧ ∀ i, i < l1 → z1 i = z2 i, .bool true, s)
  | _ => none
theorem ok_mp2 {P : Program} {f : FuncId} (h : ok1 P f (cSl2 1 (rSame 1))) : ok1 P f cMp2 := fun xs s p v s' hc hp => by
  unfold cMp2 at hc
  split at hc
  · rename_i b1 l1 z1 b2 l2 z2
    simp only [Option.some.injEq, Prod.mk.injEq] at hc
    obtain ⟨rfl, rfl, rfl⟩ := hc
    obtain ⟨rfl, hb, he⟩ := hp
    refine CL.mp2 ⟨fun _ => rfl, rfl⟩ ?_ s
    have := h [.sl 0 0 l1 l1 false, .sl 1 0 l1 l1 false] (SR2 1 (fun i _ => z1 i) l1 (fun i _ => z2 i) l1) _ _ _ rfl ⟨rfl, rfl, rfl, rfl, Nat.le_refl _, Nat.le_refl _, rfl, rfl, ?_⟩
    · refine this.imp fun v' s' h => ⟨?_, h.2⟩
      rw [h.1]
      exact congrArg SV.bool (sameF_yes rfl fun i hi j hj => by
        obtain rfl : j = 0 := by omega
        exact he i hi)
    · exact hb
  · cases hc
end Go.AE
