/- Named memory and its walk, part 2: values, operations, that they are what the model does. No condition. -/
import Derived.Test.YtkekeomkbcghnaaE1
set_option linter.unusedVariables false
set_option linter.unusedSimpArgs false
/- Least and greatest, checks for nil, make of a slice: what the walk says of them is what the model does. No condition. -/
namespace Go.AE
open Go
section
variable {P : Program} {C : Cx} {ρ : Map} {s : St} {w : World} {K : SV → St → Prop}

theorem max_sound {x y : SV} {u v : Value} {k : SV → Prop} (hx : VR ρ x u) (hy : VR ρ y v) (h : aMax2 False x y k) : ∃ z r, k z ∧ VR ρ z r ∧ (Builtin.max2 u v).run P w = .ok r w := by
  cases hx with
  | int i a =>
    cases hy with
    | int j b =>
      refine ⟨_, _, h, .int _ _, ?_⟩
      simp only [Builtin.max2, Sem.run_pure]
      congr 2
      by_cases hb : b > a
      · rw [if_pos hb]; omega
      · rw [if_neg hb]; omega
    | _ => exact h.elim
  | _ => exact h.elim
theorem min_sound {x y : SV} {u v : Value} {k : SV → Prop} (hx : VR ρ x u) (hy : VR ρ y v) (h : aMin2 False x y k) : ∃ z r, k z ∧ VR ρ z r ∧ (Builtin.min2 u v).run P w = .ok r w := by
  cases hx with
  | int i a =>
    cases hy with
    | int j b =>
      refine ⟨_, _, h, .int _ _, ?_⟩
      simp only [Builtin.min2, Sem.run_pure]
      congr 2
      by_cases hb : b < a
      · rw [if_pos hb]; omega
      · rw [if_neg hb]; omega
    | _ => exact h.elim
  | _ => exact h.elim
theorem fold_sound {f : SV → SV → (SV → Prop) → Prop} {g : Value → Value → Sem Value} (hf : ∀ x y u v (k : SV → Prop), VR ρ x u → VR ρ y v → f x y k → ∃ z r, k z ∧ VR ρ z r ∧ (g u v).run P w = .ok r w) {k : SV → Prop} :
    ∀ {l : List SV} {us : List Value} {x : SV} {u : Value}, VR ρ x u → VRs ρ l us → aFold f x l k → ∃ z r, k z ∧ VR ρ z r ∧ (us.foldlM g u).run P w = .ok r w
  | _, _, x, u, hx, .nil, h => ⟨x, u, h, hx, by simp⟩
  | _, _, x, u, hx, .cons hy ht, h => by
    simp only [aFold] at h
    obtain ⟨z, r, hk, hz, hr⟩ := hf _ _ _ _ _ hx hy h
    obtain ⟨z', r', hk', hz', hr'⟩ := fold_sound hf hz ht hk
    exact ⟨z', r', hk', hz', by simp [List.foldlM_cons, hr, hr']⟩
theorem aMax_sound {x : SV} {l : List SV} {u : Value} {us : List Value} {t : TypeId} {tys : Array TypeId} (hR : Rel C ρ s w) (hx : VR ρ x u) (hl : VRs ρ l us) (h : aFold (aMax2 False) x l fun v => K v s) :
    RV C ρ s K ((Builtin.max_ tys t (u :: us).toArray).run P w) := by
  obtain ⟨z, r, hk, hz, hr⟩ := fold_sound (fun _ _ _ _ _ a b c => max_sound (P := P) a b c) hx hl h
  exact .same hR hk (by simpa [Builtin.max_] using hr) hz
theorem aMin_sound {x : SV} {l : List SV} {u : Value} {us : List Value} {t : TypeId} {tys : Array TypeId} (hR : Rel C ρ s w) (hx : VR ρ x u) (hl : VRs ρ l us) (h : aFold (aMin2 False) x l fun v => K v s) :
    RV C ρ s K ((Builtin.min_ tys t (u :: us).toArray).run P w) := by
  obtain ⟨z, r, hk, hz, hr⟩ := fold_sound (fun _ _ _ _ _ a b c => min_sound (P := P) a b c) hx hl h
  exact .same hR hk (by simpa [Builtin.min_] using hr) hz

theorem get_made (z : Array Value) (hs : 0 < z.size) (n j : Nat) (hj : j < n) : (madeCells z n)[j]? = z[j % z.size]? := by
  have hm : j % z.size < z.size := Nat.mod_lt _ hs
  simp [madeCells, hj, hm]
theorem aMakeSlice_sound {t : TypeId} {lit : Bool} {l c : SV} {ul uc : Value} (hR : Rel C ρ s w) (hl : VR ρ l ul) (hc : VR ρ c uc) (h : aMakeSlice False cond P t lit l c s K) : RV C ρ s K ((Instr.makeSlice t ul uc).run P w) := by
  simp only [aMakeSlice] at h
  cases hd : P.underlying t with
  | none => simp only [hd] at h
  | some d =>
    cases d with
    | slice e =>
      cases hl with
      | int kl l =>
        cases hc with
        | int kc c =>
          cases hj : P.info? e with
          | none => simp only [hd, hj] at h
          | some j =>
            cases hz : j.zero with
            | none => simp only [hd, hj, hz] at h
            | some z =>
              simp only [hd, hj, hz] at h
              obtain ⟨hq, h⟩ := cond_t h
              simp only [Bool.and_eq_true] at hq
              obtain ⟨⟨⟨⟨h1, h2⟩, h3⟩, h4⟩, h5⟩ := hq
              have h1 := ble_t h1; have h2 := ble_t h2; have h3 := beq_t h3; have h4 := beq_t h4
              obtain ⟨hq, h⟩ := cond_t h
              simp only [Bool.and_eq_true, decide_eq_true_eq] at hq
              obtain ⟨⟨⟨g1, g2⟩, g3⟩, g4⟩ := hq
              have hzr := (ofN_rel ρ 3 z).cells h5
              have hzs : z.cells.size = j.size := by have := hzr.length; simp at this; omega
              have hrun := run_make (P := P) w t e j z hd hj hz kl kc l c g1 g2 (by rw [Int.mul_comm]; exact g3) g4
              have hdiv : width P 5 e * (j.size / width P 5 e) = j.size := Nat.mul_div_cancel' (Nat.dvd_of_mod_eq_zero h3)
              have hk1 : 1 ≤ j.size / width P 5 e := by
                rcases Nat.eq_zero_or_pos (j.size / width P 5 e) with e0 | e0
                · rw [e0] at hdiv; omega
                · exact e0
              have hwle : width P 5 e ≤ j.size := by
                calc width P 5 e = width P 5 e * 1 := (Nat.mul_one _).symm
                  _ ≤ width P 5 e * (j.size / width P 5 e) := Nat.mul_le_mul_left _ hk1
                  _ = j.size := hdiv
              have hsl : ∀ (σ : Map), σ s.nx = some { blk := w.heap.size, base := 0, w := width P 5 e, size := (madeCells z.cells (c.toNat * j.size)).size } → VR σ (.sl s.nx 0 l.toNat c.toNat true) (.slice (some ⟨w.heap.size, 0, none⟩) l.toNat c.toNat) := by
                intro σ hq
                have := VR.sl (ρ := σ) 0 l.toNat c.toNat true c.toNat hq (by omega) (Nat.le_refl _) (fun _ => rfl) (by
                  simp only [Nat.zero_add, size_madeCells]
                  exact Nat.mul_le_mul_left _ hwle) rfl
                simpa using this
              have hget : ∀ j', j' < c.toNat * j.size → (madeCells z.cells (c.toNat * j.size))[j']? = z.cells[j' % j.size]? := fun j' hj' => by rw [← hzs]; exact get_made z.cells (by omega) _ j' (by rw [hzs]; exact hj')
              cases lit with
              | true =>
                simp only [cond_true, repK_eq, listK_eq, St.newK_eq] at h
                have hlr : LR ρ (madeCells z.cells (c.toNat * j.size)) 0 (List.replicate c.toNat (ofN 3 z).cells).flatten := by
                  have hm : madeCells z.cells (c.toNat * j.size) = (List.replicate c.toNat z.cells.toList).flatten.toArray := by
                    rw [← hzs]; exact rep_range z.cells (by omega) c.toNat
                  rw [hm]
                  exact LR.of (hzr.rep _)
                obtain ⟨σ, hσ, hq, hR'⟩ := newFlat hR (madeCells z.cells (c.toNat * j.size)) e (width P 5 e) (w' := w.alloc (.cells (madeCells z.cells (c.toNat * j.size)) e)) rfl rfl rfl rfl (by rw [List.all_eq_true] at *; intro x hx; simp only [List.mem_flatten, List.mem_replicate] at hx; obtain ⟨l, ⟨_, rfl⟩, hx⟩ := hx; exact h5 x hx) hlr
                exact ⟨_, _, σ, _, _, h, hrun, hσ, hsl σ hq, hR'⟩
              | false =>
                simp only [cond_false] at h
                cases he : Nat.beq j.size (width P 5 e) with
                | true =>
                  rw [he, cond_true] at h
                  have he := beq_t he
                  simp only [St.newK_eq] at h
                  obtain ⟨σ, hσ, hq, hR'⟩ := newFam hR (madeCells z.cells (c.toNat * j.size)) e (width P 5 e) (w' := w.alloc (.cells (madeCells z.cells (c.toNat * j.size)) e)) rfl rfl rfl rfl (n := c.toNat) (row := fun _ => (ofN 3 z).cells) (fun i hi => by
                    refine ⟨by rw [h4, he], h5, fun q v hv => ?_⟩
                    obtain ⟨u, hu, hx⟩ := hzr.get hv
                    have hql : q < j.size := by rw [← h4]; exact (List.getElem?_eq_some_iff.1 hv).1
                    refine ⟨u, ?_, hx⟩
                    have hb : i * width P 5 e + q < c.toNat * j.size := by
                      rw [← he]
                      have : (i + 1) * j.size ≤ c.toNat * j.size := Nat.mul_le_mul_right _ hi
                      have hm := Nat.succ_mul i j.size
                      simp only [Nat.succ_eq_add_one] at hm
                      omega
                    rw [hget _ hb, ← he, Nat.add_comm, Nat.add_mul_mod_self_right, Nat.mod_eq_of_lt hql]
                    simpa using hu)
                  exact ⟨_, _, σ, _, _, h, hrun, hσ, hsl σ hq, hR'⟩
                | false =>
                  rw [he, cond_false] at h
                  cases hcs : (ofN 3 z).cells with
                  | nil => simp only [hcs] at h
                  | cons v vs =>
                    simp only [hcs] at h
                    obtain ⟨hq, h⟩ := cond_t h
                    simp only [Bool.and_eq_true] at hq
                    obtain ⟨hw1, hall⟩ := hq
                    have hw1 := beq_t hw1
                    have hsame : ∀ u ∈ (ofN 3 z).cells, u = v := fun u hu => by
                      have := List.all_eq_true.1 hall u (by rw [← hcs]; exact hu)
                      split at this
                      · simp only [Bool.and_eq_true, decide_eq_true_eq] at this; rw [this.1, this.2]
                      · simp only [decide_eq_true_eq] at this; rw [this]
                      · cases this
                    simp only [St.newK_eq] at h
                    obtain ⟨σ, hσ, hq, hR'⟩ := newFam hR (madeCells z.cells (c.toNat * j.size)) e (width P 5 e) (w' := w.alloc (.cells (madeCells z.cells (c.toNat * j.size)) e)) rfl rfl rfl rfl (n := c.toNat * j.size) (row := fun _ => [v]) (fun i hi => by
                      refine ⟨by rw [hw1]; rfl, by rw [hcs, List.all_cons] at h5; simp only [Bool.and_eq_true] at h5; simp [h5.1], fun q x hx => ?_⟩
                      cases q with
                      | succ q => simp at hx
                      | zero =>
                        simp at hx; subst hx
                        have hmod : i % j.size < (ofN 3 z).cells.length := by rw [h4]; exact Nat.mod_lt _ (by omega)
                        obtain ⟨u, hu, hx⟩ := hzr.get (List.getElem?_eq_getElem hmod)
                        rw [hsame _ (List.getElem_mem _)] at hx
                        refine ⟨u, ?_, hx⟩
                        rw [Nat.add_zero, hw1, Nat.mul_one, hget _ hi]
                        simpa using hu)
                    exact ⟨_, _, σ, _, _, h, hrun, hσ, hsl σ hq, hR'⟩
        | _ => simp only [hd] at h
      | _ => simp only [hd] at h
    | _ => simp only [hd] at h
end
end Go.AE

/- Append, copy, clear: what the walk says of them is what the model does. No condition. -/
namespace Go.AE
open Go
/-- m rows of d cells read as the cells us -/
def RR (ρ : Map) (d m : Nat) (us : List Value) : Rows → Prop
  | .lst cs => cs.length = m * d ∧ cs.all sc = true ∧ VRs ρ cs us
  | .fam m' row => m' = m ∧ ∀ i, i < m → (row i).length = d ∧ (row i).all sc = true ∧ ∀ (j : Nat) (v : SV), (row i)[j]? = some v → ∃ u, us[i * d + j]? = some u ∧ VR ρ v u
def BL (ρ : Map) (d m : Nat) (us : List Value) : Bk → Prop
  | .flat d' ro cs => d' = d ∧ ro = false ∧ cs.all sc = true ∧ VRs ρ cs us
  | .fam d' ro m' row => d' = d ∧ ro = false ∧ m' = m ∧ ∀ i, i < m → (row i).length = d ∧ (row i).all sc = true ∧ ∀ (j : Nat) (v : SV), (row i)[j]? = some v → ∃ u, us[i * d + j]? = some u ∧ VR ρ v u
  | .mapk _ => False
section
variable {P : Program} {C : Cx} {ρ : Map} {s : St} {w : World} {K : SV → St → Prop}

theorem BL.ro {d m us b} (h : BL ρ d m us b) : b.ro = false := by cases b <;> first | exact h.2.1 | exact h.elim
theorem BL.br {d m : Nat} {us : List Value} {b : Bk} (h : BL ρ d m us b) {p : Pl} {w : World} {c : Array Value} {e : TypeId} (hw : p.w = d) (hh : w.heap[p.blk]? = some (.cells c e)) (hs : c.size = p.size)
    (hc : ∀ (j : Nat) (u : Value), us[j]? = some u → c[p.base + j]? = some u) : BR ρ w p b := by
  cases b with
  | flat d' ro cs =>
    obtain ⟨rfl, rfl, h1, h2⟩ := h
    exact ⟨hw, c, e, (0, 0), hh, hs, fun _ => rfl, h1, fun j v e => by obtain ⟨u, hu, hv⟩ := h2.get e; exact ⟨u, hc j u hu, hv⟩⟩
  | fam d' ro m' row =>
    obtain ⟨rfl, rfl, rfl, h1⟩ := h
    exact ⟨hw, c, e, (0, 0), hh, hs, fun _ => rfl, fun i hi => ⟨(h1 i hi).1, (h1 i hi).2.1, fun j v e => by
      obtain ⟨u, hu, hv⟩ := (h1 i hi).2.2 j v e
      exact ⟨u, by rw [Nat.add_assoc]; exact hc _ u hu, hv⟩⟩⟩
  | mapk _ => exact h.elim
theorem BL.mono {σ : Map} (hσ : Le ρ σ) {d m us b} (h : BL ρ d m us b) : BL σ d m us b := by
  cases b with
  | flat d' ro cs => exact ⟨h.1, h.2.1, h.2.2.1, h.2.2.2.mono hσ⟩
  | fam d' ro m' row => exact ⟨h.1, h.2.1, h.2.2.1, fun i hi => ⟨(h.2.2.2 i hi).1, (h.2.2.2 i hi).2.1, fun j v e => let ⟨u, a, b⟩ := (h.2.2.2 i hi).2.2 j v e; ⟨u, a, b.mono hσ⟩⟩⟩
  | mapk _ => exact h.elim
theorem ofRows_bl {d m us rs} (h : RR ρ d m us rs) : BL ρ d m us (ofRows d rs) := by
  cases rs with
  | lst cs => exact ⟨rfl, rfl, h.2.1, h.2.2⟩
  | fam m' row => exact ⟨rfl, rfl, h.1, h.2⟩

theorem rows_sound {p : Pl} {bk : Bk} (hb : BR ρ w p bk) {r m : Nat} {k : Rows → Prop} (h : bk.rows False cond r m k) :
    ∃ (rs : Rows) (us : List Value), k rs ∧ RR ρ p.w m us rs ∧ us.length = m * p.w ∧ ∀ (j : Nat) (u : Value), us[j]? = some u → w.cell? ⟨p.blk, p.base + r * p.w + j, none⟩ = some u := by
  cases bk with
  | flat d ro cs =>
    obtain ⟨rfl, a, e, fr, h1, _, _, h5, h4⟩ := hb
    simp only [Bk.rows, listK_eq] at h
    obtain ⟨hle, hk⟩ := cond_t h
    have hle := ble_t hle
    obtain ⟨us, hu, hc⟩ := (h4.sub (r * p.w) (m * p.w)).list
    have hl := hu.length
    have hlen : ((cs.drop (r * p.w)).take (m * p.w)).length = m * p.w := by
      rw [List.length_take, List.length_drop]
      rw [Nat.add_mul] at hle
      omega
    refine ⟨_, us, hk, ⟨hlen, ?_, hu⟩, by omega, fun j u hj => by rw [cell_of h1]; have := hc j u hj; simpa [Nat.add_assoc] using this⟩
    rw [List.all_eq_true] at h5 ⊢
    exact fun x hx => h5 x (List.mem_of_mem_drop (List.mem_of_mem_take hx))
  | fam d ro n row =>
    obtain ⟨rfl, a, e, fr, h1, _, _, h4⟩ := hb
    simp only [Bk.rows] at h
    obtain ⟨hle, hk⟩ := cond_t h
    have hle : r + m ≤ n := by simpa using hle
    refine ⟨_, (List.range (m * p.w)).map fun j => (a[p.base + r * p.w + j]?).getD undef, hk, ⟨rfl, fun i hi => ?_⟩, by simp, fun j u hj => ?_⟩
    · obtain ⟨g1, g2, g3⟩ := h4 (r + i) (by omega)
      refine ⟨g1, g2, fun j v e => ?_⟩
      obtain ⟨u, hu, hv⟩ := g3 j v e
      have hj : j < p.w := by rw [← g1]; exact (List.getElem?_eq_some_iff.1 e).1
      refine ⟨u, ?_, hv⟩
      have hb : i * p.w + j < m * p.w := by
        have : (i + 1) * p.w ≤ m * p.w := Nat.mul_le_mul_right _ hi
        have hm := Nat.succ_mul i p.w
        simp only [Nat.succ_eq_add_one] at hm
        omega
      rw [List.getElem?_map, List.getElem?_range hb, Option.map_some]
      rw [show p.base + r * p.w + (i * p.w + j) = p.base + (r + i) * p.w + j by rw [Nat.add_mul]; omega, hu]
      rfl
    · rw [List.getElem?_map] at hj
      rcases Nat.lt_or_ge j (m * p.w) with hjl | hjl
      · rw [List.getElem?_range hjl] at hj
        have hw0 : 0 < p.w := by
          rcases Nat.eq_zero_or_pos p.w with h0 | h0
          · rw [h0] at hjl; simp at hjl
          · exact h0
        have hi : j / p.w < m := Nat.div_lt_of_lt_mul (by rw [Nat.mul_comm]; exact hjl)
        obtain ⟨g1, g2, g3⟩ := h4 (r + j / p.w) (by omega)
        have hq : j % p.w < (row (r + j / p.w)).length := by rw [g1]; exact Nat.mod_lt _ hw0
        obtain ⟨u', hu', _⟩ := g3 (j % p.w) _ (List.getElem?_eq_getElem hq)
        have he : p.base + (r + j / p.w) * p.w + j % p.w = p.base + r * p.w + j := by
          have := Nat.div_add_mod j p.w
          rw [Nat.mul_comm] at this
          rw [Nat.add_mul]
          omega
        rw [he] at hu'
        rw [cell_of h1, hu']
        simp [hu'] at hj
        rw [hj]
      · rw [List.getElem?_eq_none (by simpa using hjl)] at hj
        cases hj
  | mapk es => exact hb.elim

theorem RR.row {d m : Nat} {us : List Value} {rs : Rows} (h : RR ρ d m us rs) {i : Nat} (hi : i < m) : (rs.row d i).length = d ∧ (rs.row d i).all sc = true ∧ ∀ (j : Nat) (v : SV), (rs.row d i)[j]? = some v → ∃ u, us[i * d + j]? = some u ∧ VR ρ v u := by
  cases rs with
  | fam m' row => exact h.2 i hi
  | lst cs =>
    obtain ⟨h1, h2, h3⟩ := h
    simp only [Rows.row]
    cases hc : Nat.beq cs.length d with
    | true =>
      have hc := beq_t hc
      rw [cond_true]
      refine ⟨hc, h2, fun j v e => ?_⟩
      have hj : j < cs.length := (List.getElem?_eq_some_iff.1 e).1
      have hi0 : i = 0 := by
        rcases Nat.eq_zero_or_pos i with h0 | h0
        · exact h0
        · have : 2 * d ≤ m * d := Nat.mul_le_mul_right _ (by omega)
          omega
      subst hi0
      obtain ⟨u, hu, hv⟩ := h3.get e
      exact ⟨u, by simpa using hu, hv⟩
    | false =>
      rw [cond_false]
      have hb : i * d + d ≤ cs.length := by
        have : (i + 1) * d ≤ m * d := Nat.mul_le_mul_right _ hi
        have hm := Nat.succ_mul i d
        simp only [Nat.succ_eq_add_one] at hm
        omega
      refine ⟨by simp; omega, ?_, fun j v e => ?_⟩
      · rw [List.all_eq_true] at h2 ⊢
        exact fun x hx => h2 x (List.mem_of_mem_drop (List.mem_of_mem_take hx))
      · rw [List.getElem?_take] at e
        split at e
        · rw [List.getElem?_drop] at e
          exact h3.get e
        · cases e
theorem RR.one {d m : Nat} {us : List Value} {rs : Rows} (h : RR ρ d m us rs) (hl : us.length = m * d) : ∀ u ∈ us, u.oneCell' = true := by
  intro u hu
  obtain ⟨j, hj, rfl⟩ := List.getElem_of_mem hu
  have hd : 0 < d := by
    rcases Nat.eq_zero_or_pos d with h0 | h0
    · rw [h0] at hl; omega
    · exact h0
  have hi : j / d < m := Nat.div_lt_of_lt_mul (by rw [Nat.mul_comm]; omega)
  obtain ⟨g1, g2, g3⟩ := h.row hi
  have hq : j % d < (rs.row d (j / d)).length := by rw [g1]; exact Nat.mod_lt _ hd
  obtain ⟨u', hu', hv⟩ := g3 (j % d) _ (List.getElem?_eq_getElem hq)
  have he : j / d * d + j % d = j := by rw [Nat.mul_comm]; exact Nat.div_add_mod j d
  rw [he, List.getElem?_eq_getElem hj] at hu'
  simp at hu'; subst hu'
  exact sc_one hv (List.all_eq_true.1 g2 _ (List.getElem_mem _))

theorem rows_ph {p : Pl} {bk : Bk} (hb : PH p bk) {r m : Nat} {k : Rows → Prop} (h : bk.rows False cond r m k) : m = 0 ∧ ∃ f, k (.fam 0 f) := by
  cases bk with
  | fam d ro n row =>
    obtain ⟨rfl, _⟩ := hb
    simp only [Bk.rows] at h
    obtain ⟨hr, h⟩ := cond_t h
    simp only [decide_eq_true_eq] at hr
    have hm : m = 0 := by omega
    subst hm
    exact ⟨rfl, _, h⟩
  | _ => exact hb.elim
/-- rows of a block, be it there or not -/
theorem rows_bx {p : Pl} {bk : Bk} (hb : BX ρ w p bk) {r m : Nat} {k : Rows → Prop} (h : bk.rows False cond r m k) :
    ∃ rs us, k rs ∧ RR ρ p.w m us rs ∧ us.length = m * p.w ∧ ∀ (j : Nat) (u : Value), us[j]? = some u → w.cell? ⟨p.blk, p.base + r * p.w + j, none⟩ = some u := by
  rcases hb with hb | hb
  · exact rows_sound hb.2 h
  · obtain ⟨rfl, f, hk⟩ := rows_ph hb.2 h
    exact ⟨_, [], hk, ⟨rfl, fun i hi => absurd hi (by omega)⟩, by simp, fun j u e => by simp at e⟩
theorem srcK_sound {d : Nat} {x : SV} {u : Value} {tx : TypeId} (hR : Rel C ρ s w) (hx : VR ρ x u) (htx : (∃ e', P.underlying tx = some (.slice e')) ∧ (∀ b, x ≠ .str b) ∨ P.underlying tx = some .string ∧ ∃ b, x = .str b) {k : Nat → Rows → Prop} (h : srcK False cond d x s k) :
    ∃ n rs us, k n rs ∧ RR ρ d n us rs ∧ us.length = n * d ∧ Src P d tx u n us w := by
  cases hx with
  | nils =>
    rcases htx with ⟨⟨e', ht⟩, _⟩ | ⟨_, b, hb⟩
    · exact ⟨0, _, [], h, ⟨by simp, rfl, .nil⟩, by simp, Src.ofNil w ht 0⟩
    · cases hb
  | z0 a =>
    rcases htx with ⟨⟨e', ht⟩, _⟩ | ⟨_, b, hb⟩
    · cases a with
      | some a => exact ⟨0, .lst [], [], h, ⟨by simp, rfl, .nil⟩, by simp, Src.ofSlice w ht _ 0 0 [] (by simp) (fun j v e => by simp at e) (fun u hu => by cases hu)⟩
      | none => exact ⟨0, _, [], h, ⟨by simp, rfl, .nil⟩, by simp, Src.ofNil w ht 0⟩
    · cases hb
  | str b =>
    rcases htx with ⟨_, hn⟩ | ⟨ht, _⟩
    · exact absurd rfl (hn b)
    · simp only [srcK] at h
      obtain ⟨hd, hk⟩ := cond_t h
      obtain rfl := beq_t hd
      refine ⟨_, _, byteCells b, hk, ⟨rfl, fun i hi => ⟨rfl, rfl, fun j v e => ?_⟩⟩, by rw [byteCells_length, Nat.mul_one], Src.ofString w ht b⟩
      cases j with
      | succ j => simp at e
      | zero =>
        simp at e; subst e
        refine ⟨.int .u8 (byteAt b i), ?_, .int _ _⟩
        obtain ⟨_, e2⟩ := byteAt_eq b i hi
        simp only [byteCells, Nat.mul_one, Nat.add_zero, List.getElem?_map]
        rw [List.getElem?_eq_getElem (by simpa using hi), e2]
        rfl
  | @sl b p r len cap x cap' hp hl hcp hxx hss hph =>
    rcases htx with ⟨⟨e', ht⟩, _⟩ | ⟨_, b, hb⟩
    · simp only [srcK] at h
      cases hf : find s.h b with
      | none => simp only [hf] at h
      | some y =>
        obtain ⟨ver, bk⟩ := y
        simp only [hf] at h
        obtain ⟨q, hq, hb⟩ := hR.blk b ver bk hf
        rw [hp] at hq; cases hq
        have hb := hb.real hph
        obtain ⟨hd, h2⟩ := cond_t h
        have hd := beq_t hd
        rw [← hb.wd] at hd
        clear h
        subst hd
        obtain ⟨rs, us, hk, hrr, hul, hc⟩ := rows_sound hb h2
        exact ⟨len, rs, us, hk, hrr, hul, Src.ofSlice w ht _ len cap' us hul (fun j v e => by rw [add_eq]; exact hc j v e) (hrr.one hul)⟩
    · cases hb
  | @sl0 b r x a =>
    rcases htx with ⟨⟨e', ht⟩, _⟩ | ⟨_, b, hb⟩
    · simp only [srcK] at h
      cases hf : find s.h b with
      | none => simp only [hf] at h
      | some y =>
        obtain ⟨ver, bk⟩ := y
        simp only [hf] at h
        obtain ⟨q, hq, hb⟩ := hR.blk b ver bk hf
        obtain ⟨hd, h2⟩ := cond_t h
        have hd := beq_t hd
        rw [← hb.wd] at hd
        clear h
        subst hd
        obtain ⟨rs, us, hk, hrr, hul, hc⟩ := rows_bx hb h2
        have hus : us = [] := List.length_eq_zero_iff.1 (by rw [hul]; simp)
        subst hus
        cases a with
        | some a => exact ⟨0, rs, [], hk, hrr, by simp, Src.ofSlice w ht _ 0 0 [] (by simp) (fun j v e => by simp at e) (fun u hu => by cases hu)⟩
        | none => exact ⟨0, rs, [], hk, hrr, by simp, Src.ofNil w ht 0⟩
    · cases hb
  | mp len z u h0 hu =>
    rcases htx with ⟨⟨e', ht⟩, _⟩ | ⟨_, b, hb⟩
    · simp only [srcK] at h
      obtain ⟨hd, hk⟩ := cond_t h
      obtain rfl := beq_t hd
      obtain ⟨a, cap, rfl, h1, h2⟩ := hu
      refine ⟨len, _, (List.range len).map fun i => Value.int .i64 (z i), hk, ⟨rfl, fun i hi => ⟨rfl, rfl, fun j v e => ?_⟩⟩, by simp, ?_⟩
      · cases j with
        | succ j => simp at e
        | zero =>
          simp at e; subst e
          exact ⟨.int .i64 (z i), by simp [hi], .int _ _⟩
      · rcases h2 with ⟨rfl, rfl⟩ | ⟨blk, base, c, e, fr, rfl, hz, hsz, hc⟩
        · cases a with
          | some a => exact Src.ofSlice w ht _ 0 0 [] (by simp) (fun j v e => by simp at e) (fun u hu => by cases hu)
          | none => exact Src.ofNil w ht 0
        · refine Src.ofSlice w ht _ len cap _ (by simp) (fun j v e => ?_) (fun u hu => ?_)
          · rw [add_eq]
            have hh := (hR.frz _ _ _ _ h0 hz).1
            simp only [List.getElem?_map] at e
            rcases Nat.lt_or_ge j len with hj | hj
            · rw [List.getElem?_range hj] at e
              simp at e; subst e
              simp [World.cell?, hh, hc j hj]
            · rw [List.getElem?_eq_none (by simpa using hj)] at e; cases e
          · simp at hu; obtain ⟨i, _, rfl⟩ := hu; rfl
    · cases hb
  | _ => exact h.elim

theorem catK_sound {d m m2 : Nat} {us vs : List Value} {a b : Rows} {k : Bk → Prop} (ha : RR ρ d m us a) (hul : us.length = m * d) (hb : RR ρ d m2 vs b) (hvl : vs.length = m2 * d) (h : catK d m a b m2 k) :
    ∃ bk, k bk ∧ BL ρ d (m + m2) (us ++ vs) bk := by
  have gen : BL ρ d (m + m2) (us ++ vs) (.fam d false (m + m2) fun i => selL (decide (i < m)) (a.row d i) (b.row d (i - m))) := by
    refine ⟨rfl, rfl, rfl, fun i hi => ?_⟩
    dsimp only
    rw [selL_eq]
    by_cases him : i < m
    · simp only [decide_eq_true him, cond_true]
      obtain ⟨g1, g2, g3⟩ := ha.row him
      refine ⟨g1, g2, fun j v e => ?_⟩
      obtain ⟨u, hu, hv⟩ := g3 j v e
      exact ⟨u, by rw [List.getElem?_append_left (List.getElem?_eq_some_iff.1 hu).1]; exact hu, hv⟩
    · simp only [decide_eq_false him, cond_false]
      obtain ⟨g1, g2, g3⟩ := hb.row (i := i - m) (by omega)
      refine ⟨g1, g2, fun j v e => ?_⟩
      obtain ⟨u, hu, hv⟩ := g3 j v e
      refine ⟨u, ?_, hv⟩
      have he : i * d = m * d + (i - m) * d := by rw [← Nat.add_mul]; congr 1; omega
      rw [List.getElem?_append_right (by rw [hul]; omega), hul]
      rw [show i * d + j - m * d = (i - m) * d + j by omega]
      exact hu
  cases a with
  | lst l1 =>
    cases b with
    | lst l2 =>
      simp only [catK, listK_eq] at h
      exact ⟨_, h, rfl, rfl, by rw [List.all_append, ha.2.1, hb.2.1]; rfl, ha.2.2.append hb.2.2⟩
    | fam m' row => exact ⟨_, h, gen⟩
  | fam m' row =>
    cases b with
    | lst l2 => exact ⟨_, h, gen⟩
    | fam m'' row' => exact ⟨_, h, gen⟩
theorem ov_sound {p : Pl} {bk : Bk} (hb : BR ρ w p bk) {r m : Nat} {us : List Value} {rs : Rows} (hr : RR ρ p.w m us rs) (hul : us.length = m * p.w) {k : Bk → Prop} (h : ovK False cond bk r m rs k) :
    bk.ro = false ∧ (∀ j, j < us.length → (w.cell? ⟨p.blk, p.base + r * p.w + j, none⟩).isSome = true) ∧ (∀ j, w.frozen? ⟨p.blk, j, none⟩ = false) ∧
      ∃ bk', k bk' ∧ bk'.ro = false ∧ BR ρ (w.setCells p.blk (p.base + r * p.w) us) p bk' := by
  cases bk with
  | mapk es => exact hb.elim
  | flat d ro cs =>
    cases ro with
    | true => cases rs <;> exact h.elim
    | false =>
      cases rs with
      | fam m' f => exact h.elim
      | lst l =>
        have hd : p.w = d := hb.1
        simp only [ovK, listK_eq] at h
        obtain ⟨hc, hk⟩ := cond_t h
        simp only [Bool.and_eq_true] at hc
        have h1 := ble_t hc.1
        have h2 := beq_t hc.2
        have := wr_sound hb hr.2.2 hr.2.1 (r := r) (c := 0) (k := k) (by
          simp only [wr, listK_eq]
          rw [Nat.add_mul] at h1
          have : Nat.ble (r * d + 0 + l.length) cs.length = true := Nat.ble_eq_true_of_le (by omega)
          rw [this, cond_true]
          simpa using hk)
        simpa using this
  | fam d ro n row =>
    obtain ⟨rfl, a, e, fr, h1, h2, h3, h4⟩ := hb
    cases ro with
    | true => cases rs <;> exact h.elim
    | false =>
      have h : cond (decide (r + m ≤ n)) (k (.fam p.w false n fun i => selL (decide (r ≤ i) && decide (i < r + m)) (rs.row p.w (i - r)) (row i))) False := by cases rs <;> exact h
      obtain ⟨hle, hk⟩ := cond_t h
      have hle : r + m ≤ n := by simpa using hle
      obtain rfl := h3 rfl
      have hex : ∀ j, j < us.length → ∃ u, a[p.base + r * p.w + j]? = some u := fun j hj => by
        have hw0 : 0 < p.w := by
          rcases Nat.eq_zero_or_pos p.w with h0 | h0
          · rw [hul, h0] at hj; simp at hj
          · exact h0
        have hi : j / p.w < m := Nat.div_lt_of_lt_mul (by rw [Nat.mul_comm]; omega)
        obtain ⟨g1, g2, g3⟩ := h4 (r + j / p.w) (by omega)
        have hq : j % p.w < (row (r + j / p.w)).length := by rw [g1]; exact Nat.mod_lt _ hw0
        obtain ⟨u', hu', _⟩ := g3 (j % p.w) _ (List.getElem?_eq_getElem hq)
        have he : p.base + (r + j / p.w) * p.w + j % p.w = p.base + r * p.w + j := by
          have := Nat.div_add_mod j p.w
          rw [Nat.mul_comm] at this
          rw [Nat.add_mul]
          omega
        rw [he] at hu'
        exact ⟨u', hu'⟩
      have hbound : 0 < us.length → p.base + r * p.w + us.length ≤ a.size := fun h0 => by
        obtain ⟨u, hu⟩ := hex (us.length - 1) (by omega)
        have := (Array.getElem?_eq_some_iff.1 hu).1
        omega
      obtain ⟨c', hc, hs, ho, hi⟩ := heap_setCells p.blk us (p.base + r * p.w) w a e (0, 0) h1
      refine ⟨rfl, fun j hj => ?_, fun j => frozen_of_row w p.blk j a e h1, _, hk, rfl, rfl, c', e, (0, 0), hc, hs.trans h2, fun _ => rfl, fun i hi' => ?_⟩
      · obtain ⟨u, hu⟩ := hex j hj
        rw [cell_of h1, hu]; rfl
      · dsimp only
        rw [selL_eq]
        by_cases hin : r ≤ i ∧ i < r + m
        · simp only [hin.1, hin.2, decide_true, Bool.and_true, cond_true]
          obtain ⟨g1, g2, g3⟩ := hr.row (i := i - r) (by omega)
          refine ⟨g1, g2, fun j v e => ?_⟩
          obtain ⟨u, hu, hv⟩ := g3 j v e
          have hlt := (List.getElem?_eq_some_iff.1 hu).1
          refine ⟨u, ?_, hv⟩
          have := hi (hbound (by omega)) _ u hu
          have he : i * p.w = r * p.w + (i - r) * p.w := by rw [← Nat.add_mul]; congr 1; omega
          rw [← this]
          congr 1
          omega
        · have hb : (decide (r ≤ i) && decide (i < r + m)) = false := by
            simp only [Bool.and_eq_false_iff, decide_eq_false_iff_not]
            omega
          rw [hb, cond_false]
          obtain ⟨g1, g2, g3⟩ := h4 i hi'
          refine ⟨g1, g2, fun j v e => ?_⟩
          obtain ⟨u, hu, hv⟩ := g3 j v e
          refine ⟨u, ?_, hv⟩
          rw [ho _ ?_]
          · exact hu
          · have hj : j < p.w := by rw [← g1]; exact (List.getElem?_eq_some_iff.1 e).1
            rcases Nat.lt_or_ge i r with hlt | hge
            · left
              have : (i + 1) * p.w ≤ r * p.w := Nat.mul_le_mul_right _ hlt
              have hm := Nat.succ_mul i p.w
              simp only [Nat.succ_eq_add_one] at hm
              omega
            · right
              have : (r + m) * p.w ≤ i * p.w := Nat.mul_le_mul_right _ (by omega)
              rw [Nat.add_mul] at this
              omega

end
end Go.AE

/- Append, copy, clear: the operations. No condition. -/
namespace Go.AE
open Go
section
variable {P : Program} {C : Cx} {ρ : Map} {s : St} {w : World} {K : SV → St → Prop}

theorem aAppend_sound {t tx ty : TypeId} {old x : SV} {uo ux : Value} (hR : Rel C ρ s w) (ho : VR ρ old uo) (hx : VR ρ x ux)
    (htx : (∃ e', P.underlying tx = some (.slice e')) ∧ (∀ b, x ≠ .str b) ∨ P.underlying tx = some .string ∧ ∃ b, x = .str b) (h : aAppend False cond P t old x s K) :
    RV C ρ s K ((Builtin.append_ #[t, tx] ty #[uo, ux]).run P w) := by
  simp only [aAppend] at h
  cases hd : P.underlying t with
  | none => simp only [hd] at h
  | some dd =>
    cases dd with
    | slice e =>
      cases hj : P.info? e with
      | none => simp only [hd, hj] at h
      | some j =>
        cases hz : j.zero with
        | none => simp only [hd, hj, hz] at h
        | some z =>
          simp only [hd, hj, hz] at h
          obtain ⟨hq, h⟩ := cond_t h
          simp only [Bool.and_eq_true] at hq
          obtain ⟨⟨⟨⟨q1, q2⟩, q3⟩, q4⟩, q5⟩ := hq
          have q1 := beq_t q1; have q2 := ble_t q2; have q3 := ble_t q3; have q5 := beq_t q5
          have hzs : z.cells.size = j.size := by have := ((ofN_rel ρ 3 z).cellsN q4).length; simp at this; omega
          obtain ⟨n, rs, us, h, hrr, hul, hsrc⟩ := srcK_sound hR hx htx h
          -- a new row
          have grow : ∀ (base : Option Addr) (sLen sCap : Nat) (olds : List Value) (bk : Bk), uo = .slice base sLen sCap → olds.length = sLen * j.size → (Builtin.firstCells j.size sLen (.slice base sLen sCap)).run P w.drew = .ok olds.toArray w.drew → sCap < sLen + n →
              (sLen + n) * j.bytes ≤ 140737488355328 → BL ρ j.size (sLen + n) (olds ++ us) bk → K (.sl s.nx 0 (sLen + n) (sLen + n) false) { h := (s.nx, s.ck, bk) :: s.h, nx := s.nx + s.st, ck := s.ck, st := s.st } →
              RV C ρ s K ((Builtin.append_ #[t, tx] ty #[uo, ux]).run P w) := by
            intro base sLen sCap olds bk hu hol hold hg hbytes hbl hk
            subst hu
            have h63 : ((sLen + n : Nat) : Int) ≤ 9223372036854775807 := by
              have : sLen + n ≤ (sLen + n) * j.bytes := Nat.le_mul_of_pos_right _ q3
              omega
            have hrun := run_append_grow_src w t tx ty e j z hd hj hz base sLen sCap olds hold ux n us hsrc hg h63 (growslice_fits hg hbytes)
            generalize hG : grownCap w (sLen + n) sCap e = G at hrun
            have hge : sLen + n ≤ G := by rw [← hG]; exact grownCap_ge w _ _ e
            have hsize : ((olds ++ us).toArray ++ Builtin.zeroCells z.cells (G - (sLen + n))).size = G * j.size := by
              simp only [Array.size_append, List.size_toArray, List.length_append, size_zeroCells, hzs, hol, hul, ← Nat.add_mul]
              congr 1
              omega
            obtain ⟨σ, hσ, hn, hR'⟩ := newBk hR ((olds ++ us).toArray ++ Builtin.zeroCells z.cells (G - (sLen + n))) e j.size (w' := w.drew.alloc (.cells ((olds ++ us).toArray ++ Builtin.zeroCells z.cells (G - (sLen + n))) e)) rfl rfl rfl rfl bk (fun σ hσ => by
              refine (hbl.mono hσ).br rfl (heap_alloc_new w.drew _) rfl (fun i u hu => ?_)
              have hi := (List.getElem?_eq_some_iff.1 hu).1
              simp only [Nat.zero_add]
              rw [Array.getElem?_append_left (by simpa using hi)]
              simpa using hu)
            refine ⟨_, _, σ, _, _, hk, hrun, hσ, ?_, hR'⟩
            have := VR.sl (ρ := σ) 0 (sLen + n) (sLen + n) false G hn (Nat.le_refl _) hge (fun e => by cases e) (by simp only [Nat.zero_add, hsize, Nat.le_refl]) rfl
            simpa using this
          -- what the elder slice holds
          have oldc : ∀ {b : Nat} {p : Pl} {bk : Bk} {r len cap' : Nat} {ad : Option Addr} {ws : List Value}, (0 < len → ad = some ⟨p.blk, p.base + r * p.w, none⟩) → p.w = j.size → ws.length = len * p.w → (∀ (i : Nat) (u : Value), ws[i]? = some u → w.cell? ⟨p.blk, p.base + r * p.w + i, none⟩ = some u) →
              (Builtin.firstCells j.size len (.slice ad len cap')).run P w.drew = .ok ws.toArray w.drew := by
            intro b p bk r len cap' oa ws had hw hl hc
            cases oa with
            | none =>
              have h0 : len = 0 := by
                rcases Nat.eq_zero_or_pos len with h0 | h0
                · exact h0
                · cases had h0
              subst h0
              have : ws = [] := List.length_eq_zero_iff.1 (by rw [hl]; simp)
              subst this
              exact run_firstCells_none w.drew _ _ _ _
            | some ad =>
            refine run_firstCells_some w.drew j.size len ad len cap' ws (by rw [hl, hw]) (fun i v e => ?_)
            have hi := (List.getElem?_eq_some_iff.1 e).1
            have h0 : 0 < len := by
              rcases Nat.eq_zero_or_pos len with h0 | h0
              · rw [h0] at hl; simp at hl; rw [hl] at hi; simp at hi
              · exact h0
            have hae := had h0
            cases hae
            rw [add_eq, World.cell?_drew]
            exact hc i v e
          -- room behind, in place
          have roomS : ∀ {b : Nat} {p : Pl} {r len cap : Nat} {x : Bool} {cap' : Nat} {ad : Option Addr}, ρ b = some p → (0 < cap' → ad = some ⟨p.blk, p.base + r * p.w, none⟩) → len ≤ cap → cap ≤ cap' → (x = true → cap' = cap) → (0 < cap' → p.base + (r + cap') * p.w ≤ p.size) → (0 < cap' → p.ph = false) → VR ρ (.sl b r len cap x) (.slice ad len cap') →
              len + n ≤ cap → roomK False cond j.size b r len cap n x rs s K → RV C ρ s K ((Builtin.append_ #[t, tx] ty #[.slice ad len cap', ux]).run P w) := by
            intro b p r len cap x cap' ad hp had hlc hcc hxx hss hph hvo hle hrm
            unfold roomK at hrm
            cases hn : decide (n = 0) with
            | true =>
              rw [hn, cond_true] at hrm
              simp only [decide_eq_true_eq] at hn
              subst hn
              have hus : us = [] := List.length_eq_zero_iff.1 (by rw [hul]; simp)
              subst hus
              refine .same hR hrm ?_ hvo
              exact run_append_nothing w t tx ty e j hd hj ad len cap' (by omega) ux hsrc
            | false =>
              rw [hn, cond_false] at hrm
              simp only [decide_eq_false_iff_not] at hn
              cases hf : find s.h b with
              | none => simp only [hf] at hrm
              | some y =>
                obtain ⟨ver, bk⟩ := y
                simp only [hf] at hrm
                obtain ⟨q, hq, hb⟩ := hR.blk b ver bk hf
                rw [hp] at hq; cases hq
                obtain ⟨hw, h'⟩ := cond_t hrm
                have hw : p.w = j.size := (hb.wd).trans (beq_t hw)
                have hc0 : 0 < cap' := by omega
                have hx0 := hph hc0
                have hb := hb.real hx0
                obtain rfl := had hc0
                have hss := hss hc0
                obtain ⟨hro, hcell, hfrz, bk', hk, hro', hbr⟩ := ov_sound hb (by rw [hw]; exact hrr) (by rw [hw]; exact hul) h'
                simp only [St.putK_eq] at hk
                have hpos : p.base + (r + len) * p.w = p.base + r * p.w + len * j.size := by rw [Nat.add_mul, hw]; omega
                rw [hpos] at hbr hcell
                have hrun := run_append_room_src w t tx ty e j hd hj p.blk (p.base + r * p.w) len cap' ux n us hsrc (by omega) (fun i hi => hcell i hi) (fun i hi => hfrz _)
                obtain ⟨e1, e2, e3, e4⟩ := setCells_rest p.blk us (p.base + r * p.w + len * j.size) w
                refine ⟨_, _, ρ, _, _, hk, hrun, Ext.refl _ _, ?_, hR.put hf hro hp hx0 hbr hro' (fun r' hr' => setCells_other p.blk _ _ _ hr') e1 e2 e3 e4⟩
                exact .sl r (len + n) cap x cap' hp hle hcc hxx hss hx0
          have main : ∀ {b : Nat} {p : Pl} {r len cap : Nat} {x : Bool} {cap' : Nat} {ad : Option Addr}, old = .sl b r len cap x → uo = .slice ad len cap' → ρ b = some p → (0 < cap' → ad = some ⟨p.blk, p.base + r * p.w, none⟩) → len ≤ cap → cap ≤ cap' → (x = true → cap' = cap) → (0 < cap' → p.base + (r + cap') * p.w ≤ p.size) → (0 < cap' → p.ph = false) → VR ρ old uo →
              RV C ρ s K ((Builtin.append_ #[t, tx] ty #[uo, ux]).run P w) := by
            intro b p r len cap x cap' ad hold huo hp had hlc hcc hxx hss hph hvo
            subst hold; subst huo
            cases x with
            | true =>
              have hxx := hxx rfl
              simp only at h
              cases hle : decide (len + n ≤ cap) with
              | true =>
                rw [hle, cond_true] at h
                simp only [decide_eq_true_eq] at hle
                exact roomS hp had hlc hcc (fun _ => hxx) hss hph hvo hle h
              | false =>
                rw [hle, cond_false] at h
                simp only [decide_eq_false_iff_not] at hle
                obtain ⟨hby, h⟩ := cond_t h
                simp only [decide_eq_true_eq] at hby
                cases hf : find s.h b with
                | none => simp only [hf] at h
                | some y =>
                  obtain ⟨ver, bk⟩ := y
                  simp only [hf] at h
                  obtain ⟨q, hq, hb⟩ := hR.blk b ver bk hf
                  rw [hp] at hq; cases hq
                  obtain ⟨hw, h⟩ := cond_t h
                  have hw := (hb.wd).trans (beq_t hw)
                  obtain ⟨os, ws, h, hro, hwl, hwc⟩ := rows_bx hb h
                  rw [hw] at hro
                  obtain ⟨nb, hk, hbl⟩ := catK_sound hro (by rw [hwl, hw]) hrr hul h
                  exact grow _ _ _ ws nb rfl (by rw [hwl, hw]) (oldc (b := b) (bk := bk) (fun h0 => had (by omega)) hw hwl hwc) (by omega) hby hbl (by rw [St.newK_eq] at hk; exact hk)
            | false =>
              simp only at h
              cases hle : decide (len + n ≤ cap) with
              | true =>
                rw [hle, cond_true] at h
                simp only [decide_eq_true_eq] at hle
                exact roomS hp had hlc hcc hxx hss hph hvo hle h
              | false =>
              rw [hle, cond_false] at h
              clear hle
              obtain ⟨hby, h⟩ := cond_t h
              simp only [decide_eq_true_eq] at hby
              cases hf : find s.h b with
              | none => simp only [hf] at h
              | some y =>
                obtain ⟨ver, bk⟩ := y
                simp only [hf] at h
                obtain ⟨q, hq, hb⟩ := hR.blk b ver bk hf
                rw [hp] at hq; cases hq
                obtain ⟨hw, h⟩ := cond_t h
                simp only [Bool.and_eq_true, Bool.not_eq_true'] at hw
                obtain ⟨hw, hro'⟩ := hw
                have hw := (hb.wd).trans (beq_t hw)
                by_cases hz0 : p.ph = true ∧ n = 0
                · obtain ⟨hx0, rfl⟩ := hz0
                  have hbp : PH p bk := by
                    rcases hb with hb | hb
                    · rw [hx0] at hb; cases hb.1
                    · exact hb.2
                  obtain ⟨rfl, f, h⟩ := rows_ph hbp h
                  have hc0 : cap' = 0 := by
                    rcases Nat.eq_zero_or_pos cap' with h0 | h0
                    · exact h0
                    · have := hph h0; rw [hx0] at this; cases this
                  subst hc0
                  have hus : us = [] := List.length_eq_zero_iff.1 (by rw [hul]; simp)
                  subst hus
                  obtain ⟨g, hk⟩ : ∃ g, s.delNewK b (.fam j.size false 0 g) fun m s => K (.sl m 0 (0 + 0) (0 + 0) false) s := by
                    cases rs <;> exact ⟨_, h⟩
                  simp only [St.delNewK_eq] at hk
                  have hmv := hR.newPh (n := b) (p' := { blk := 0, base := 0, w := j.size, size := 0, ph := true }) rfl (b' := .fam j.size false 0 g) ⟨rfl, rfl⟩
                  refine ⟨_, _, _, .slice ad 0 0, w, hk, ?_, upd_ext hR.fresh0 hR.stp rfl rfl, .sl0 _ _ _, hmv⟩
                  exact run_append_nothing w t tx ty e j hd hj ad 0 0 (by omega) ux hsrc
                obtain ⟨os, ws, h, hro, hwl, hwc⟩ := rows_bx hb h
                rw [hw] at hro
                obtain ⟨nb, hk, hbl⟩ := catK_sound hro (by rw [hwl, hw]) hrr hul h
                simp only [St.delNewK_eq] at hk
                have hR1 : Rel C ρ { h := del s.h b, nx := s.nx, ck := s.ck, st := s.st } w :=
                  ⟨hR.os, hR.tape, hR.output, hR.size, hR.out, fun m v c e => by
                      by_cases hm : m = b
                      · subst hm; rw [find_del_same] at e; cases e
                      · rw [find_del_other _ hm] at e; exact hR.blk m v c e,
                    fun m q vm bm vq bq pm pq em eq hne => by
                      by_cases hm : m = b
                      · subst hm; rw [find_del_same] at em; cases em
                      · by_cases hq : q = b
                        · subst hq; rw [find_del_same] at eq; cases eq
                        · rw [find_del_other _ hm] at em; rw [find_del_other _ hq] at eq; exact hR.sep m q vm bm vq bq pm pq em eq hne,
                    fun m v c p e => by
                      by_cases hm : m = b
                      · subst hm; rw [find_del_same] at e; cases e
                      · rw [find_del_other _ hm] at e; exact hR.own m v c p e, hR.fresh, hR.stp, hR.inb, fun n p r o hn hf => ⟨(hR.frz n p r o hn hf).1, (hR.frz n p r o hn hf).2.1, fun m v b' q e => by
                      by_cases hm : m = b
                      · subst hm; rw [find_del_same] at e; cases e
                      · rw [find_del_other _ hm] at e; exact (hR.frz n p r o hn hf).2.2 m v b' q e⟩⟩
                rcases Nat.lt_or_ge cap' (len + n) with hg | hg
                · -- a new row; the elder name is forgotten
                  have hrunR : RV C ρ s K ((Builtin.append_ #[t, tx] ty #[.slice ad len cap', ux]).run P w) := by
                    have hbl' := hbl
                    have h63 : ((len + n : Nat) : Int) ≤ 9223372036854775807 := by
                      have : len + n ≤ (len + n) * j.bytes := Nat.le_mul_of_pos_right _ q3
                      omega
                    have hrun := run_append_grow_src w t tx ty e j z hd hj hz ad len cap' ws (oldc (b := b) (bk := bk) (fun h0 => had (by omega)) hw hwl hwc) ux n us hsrc hg h63 (growslice_fits hg hby)
                    generalize hG : grownCap w (len + n) cap' e = G at hrun
                    have hge : len + n ≤ G := by rw [← hG]; exact grownCap_ge w _ _ e
                    have hsize : ((ws ++ us).toArray ++ Builtin.zeroCells z.cells (G - (len + n))).size = G * j.size := by
                      simp only [Array.size_append, List.size_toArray, List.length_append, size_zeroCells, hzs, hwl, hw, hul, ← Nat.add_mul]
                      congr 1
                      omega
                    obtain ⟨σ, hσ, hn, hR'⟩ := newBk hR1 ((ws ++ us).toArray ++ Builtin.zeroCells z.cells (G - (len + n))) e j.size (w' := w.drew.alloc (.cells ((ws ++ us).toArray ++ Builtin.zeroCells z.cells (G - (len + n))) e)) rfl rfl rfl rfl nb (fun σ hσ => by
                      refine (hbl.mono hσ).br rfl (heap_alloc_new w.drew _) rfl (fun i u hu => ?_)
                      have hi := (List.getElem?_eq_some_iff.1 hu).1
                      simp only [Nat.zero_add]
                      rw [Array.getElem?_append_left (by simpa using hi)]
                      simpa using hu)
                    refine ⟨_, _, σ, _, _, hk, hrun, hσ, ?_, hR'⟩
                    have := VR.sl (ρ := σ) 0 (len + n) (len + n) false G hn (Nat.le_refl _) hge (fun e => by cases e) (by simp only [Nat.zero_add, hsize, Nat.le_refl]) rfl
                    simpa using this
                  exact hrunR
                · rcases Nat.eq_zero_or_pos cap' with hc0 | hc0
                  · -- nothing there, nothing to come
                    have hn0 : n = 0 := by omega
                    have hl0 : len = 0 := by omega
                    subst hn0
                    have hus : us = [] := List.length_eq_zero_iff.1 (by rw [hul]; simp)
                    subst hus
                    subst hl0
                    have hws : ws = [] := List.length_eq_zero_iff.1 (by rw [hwl]; simp)
                    subst hws
                    have hcap : cap = 0 := by omega
                    subst hcap
                    subst hc0
                    obtain ⟨p', hp', hbr⟩ := hR.blk b ver bk hf
                    rw [hp] at hp'; cases hp'
                    rcases hbr with ⟨hx0, hbr⟩ | ⟨hx0, hbr⟩
                    rotate_left
                    · exact absurd ⟨hx0, rfl⟩ hz0
                    obtain ⟨c, e', hh, hcs⟩ : ∃ c e', w.heap[p.blk]? = some (.cells c e') ∧ c.size = p.size := by
                      cases bk with
                      | flat d ro cs => obtain ⟨_, c, e', fr, h1, h2, h3, _⟩ := hbr; cases h3 hro'; exact ⟨c, e', h1, h2⟩
                      | fam d ro m row => obtain ⟨_, c, e', fr, h1, h2, h3, _⟩ := hbr; cases h3 hro'; exact ⟨c, e', h1, h2⟩
                      | mapk es => exact hbr.elim
                    have hmv := hR.move (n := b) (b' := nb) (p' := { blk := p.blk, base := p.base, w := j.size, size := p.size }) hf hro' hp hx0 rfl rfl ((hbl.mono (upd_le hR.fresh0)).br rfl hh hcs (fun i u hu => by simp at hu)) (fun _ _ => rfl) rfl rfl rfl rfl
                    refine ⟨_, _, _, .slice ad 0 0, w, hk, ?_, upd_ext hR.fresh0 hR.stp rfl rfl, .sl0 _ _ _, hmv⟩
                    exact run_append_nothing w t tx ty e j hd hj ad 0 0 (by omega) ux hsrc
                  · -- there is room
                    obtain rfl := had hc0
                    have hss := hss hc0
                    have hx0 := hph hc0
                    have hb := hb.real hx0
                    obtain ⟨c, e', hh, hcs⟩ : ∃ c e', w.heap[p.blk]? = some (.cells c e') ∧ c.size = p.size := by
                      cases bk with
                      | flat d ro cs => obtain ⟨_, c, e', fr, h1, h2, h3, _⟩ := hb; cases h3 hro'; exact ⟨c, e', h1, h2⟩
                      | fam d ro m row => obtain ⟨_, c, e', fr, h1, h2, h3, _⟩ := hb; cases h3 hro'; exact ⟨c, e', h1, h2⟩
                      | mapk es => exact hb.elim
                    have hroom : p.base + r * p.w + len * j.size + us.length ≤ c.size := by
                      rw [hcs, hul, hw]
                      refine Nat.le_trans ?_ (hw ▸ hss)
                      have : (len + n) * j.size ≤ cap' * j.size := Nat.mul_le_mul_right _ hg
                      rw [Nat.add_mul] at this
                      rw [Nat.add_mul]
                      omega
                    have hrun := run_append_room_src w t tx ty e j hd hj p.blk (p.base + r * p.w) len cap' ux n us hsrc hg (fun i hi => by
                      rw [cell_of hh, Array.getElem?_eq_getElem (by omega)]; rfl) (fun i hi => frozen_of_row w p.blk _ c e' hh)
                    obtain ⟨c', hc', hs', ho', hi'⟩ := heap_setCells p.blk us (p.base + r * p.w + len * j.size) w c e' (0, 0) hh
                    obtain ⟨e1, e2, e3, e4⟩ := setCells_rest p.blk us (p.base + r * p.w + len * j.size) w
                    have hwl' : ws.length = len * j.size := by rw [hwl, hw]
                    have hmv := hR.move (n := b) (b' := nb) (p' := { blk := p.blk, base := p.base + r * p.w, w := j.size, size := p.size }) (w' := w.setCells p.blk (p.base + r * p.w + len * j.size) us) hf hro' hp hx0 rfl rfl
                      ((hbl.mono (upd_le hR.fresh0)).br rfl hc' (by rw [hs', hcs]) (fun i u hu => by
                        rcases Nat.lt_or_ge i ws.length with hi | hi
                        · rw [List.getElem?_append_left hi] at hu
                          have := hwc i u hu
                          rw [cell_of hh] at this
                          rw [ho' _ (.inl (by simp only; omega))]
                          exact this
                        · rw [List.getElem?_append_right hi] at hu
                          have := hi' hroom _ u hu
                          rw [show p.base + r * p.w + len * j.size + (i - ws.length) = p.base + r * p.w + i by omega] at this
                          exact this)) (fun r' hr' => setCells_other p.blk _ _ _ hr') e1 e2 e3 e4
                    refine ⟨_, _, _, _, _, hk, hrun, upd_ext hR.fresh0 hR.stp rfl rfl, ?_, hmv⟩
                    have := VR.sl (ρ := upd ρ s.nx { blk := p.blk, base := p.base + r * p.w, w := j.size, size := p.size }) 0 (len + n) (len + n) false cap' (upd_same _ _) (Nat.le_refl _) hg (fun e => by cases e) (by
                      simp only [Nat.zero_add]
                      rw [Nat.add_mul, hw] at hss
                      rw [hw]
                      omega) rfl
                    simpa using this
          cases ho with
          | nils =>
            simp only at h
            cases hn : decide (n = 0) with
            | true =>
              rw [hn, cond_true] at h
              simp only [decide_eq_true_eq] at hn
              subst hn
              have hus : us = [] := List.length_eq_zero_iff.1 (by rw [hul]; simp)
              subst hus
              refine .same hR h ?_ .nils
              exact run_append_nothing w t tx ty e j hd hj none 0 0 (Nat.le_refl _) ux hsrc
            | false =>
              rw [hn, cond_false] at h
              simp only [decide_eq_false_iff_not] at hn
              obtain ⟨hby, h⟩ := cond_t h
              simp only [decide_eq_true_eq] at hby
              have := grow none 0 0 [] (ofRows j.size rs) rfl (by simp) (run_firstCells_none w.drew _ _ _ _) (by omega) (by simpa using hby) (by simpa using ofRows_bl hrr) (by simpa [St.newK_eq] using h)
              exact this
          | @sl b p r len cap x cap' hp hl hcp hxx hss hph => exact main rfl rfl hp (fun _ => rfl) hl hcp hxx (fun _ => hss) (fun _ => hph) (.sl r len cap x cap' hp hl hcp hxx hss hph)
          | @sl0 b r x a =>
            -- a name for the block, if it is looked at
            cases hf : find s.h b with
            | some y =>
              obtain ⟨q, hq, _⟩ := hR.blk b y.1 y.2 hf
              exact main rfl rfl hq (fun hz => absurd hz (by omega)) (Nat.le_refl _) (Nat.le_refl _) (fun _ => rfl) (fun hz => absurd hz (by omega)) (fun hz => absurd hz (by omega)) (.sl0 r x a)
            | none =>
              have noth : n = 0 → K (.sl b r 0 0 x) s → RV C ρ s K ((Builtin.append_ #[t, tx] ty #[.slice a 0 0, ux]).run P w) := fun hn hk => by
                subst hn
                have hus : us = [] := List.length_eq_zero_iff.1 (by rw [hul]; simp)
                subst hus
                refine .same hR hk ?_ (.sl0 r x a)
                exact run_append_nothing w t tx ty e j hd hj a 0 0 (by omega) ux hsrc
              cases x with
              | true | false =>
                simp only at h
                cases hle : decide (0 + n ≤ 0) with
                | false =>
                  rw [hle, cond_false] at h
                  obtain ⟨_, h⟩ := cond_t h
                  simp only [hf] at h
                | true =>
                  rw [hle, cond_true] at h
                  simp only [decide_eq_true_eq] at hle
                  have hn0 : n = 0 := by omega
                  unfold roomK at h
                  rw [decide_eq_true hn0, cond_true] at h
                  exact noth hn0 h
          | _ => simp only at h
    | _ => simp only [hd] at h
end
end Go.AE

/- Copy and clear. No condition. -/
namespace Go.AE
open Go
section
variable {P : Program} {C : Cx} {ρ : Map} {s : St} {w : World} {K : SV → St → Prop}

theorem first_sound {d : Nat} {x : SV} {u : Value} {tx : TypeId} {n : Nat} {us : List Value} (hx : VR ρ x u) (hn : x ≠ .junk) (ho : x ≠ .one) (hl : us.length = n * d) (hs : Src P d tx u n us w) : ∀ n', n' ≤ n → (Builtin.firstCells d n' u).run P w = .ok (us.take (n' * d)).toArray w := by
  intro n' hn'
  have hlen := hs.len w
  have hc := hs.cells
  have slice : ∀ {a : Addr} {len cap : Nat}, u = .slice (some a) len cap → (Builtin.firstCells d n' u).run P w = .ok (us.take (n' * d)).toArray w := by
    intro a len cap e
    subst e
    simp only [Builtin.firstCells] at hc ⊢
    have key : ∀ (m k : Nat) (acc : Array Value) (i : Nat), (loadCellsFrom a i (m + k) acc).run P w = .ok (acc ++ (us.drop i).toArray) w → us.length = i + (m + k) → (loadCellsFrom a i m acc).run P w = .ok (acc ++ ((us.drop i).take m).toArray) w := by
      intro m
      induction m with
      | zero => intro k acc i _ _; simp [loadCellsFrom]
      | succ m ih =>
        intro k acc i h hul
        rw [show m + 1 + k = (m + k) + 1 by omega] at h
        simp only [loadCellsFrom, Sem.run_bind] at h ⊢
        generalize hg : (load (a.add i)).run P w = g at h ⊢
        cases g with
        | halt x w' => simp at h
        | ok v w' =>
          have hw' : w' = w := by
            rw [run_load] at hg
            split at hg
            · cases hg; rfl
            · split at hg
              · cases hg; rfl
              · cases hg
          subst hw'
          simp only [Result.andThen_ok] at h ⊢
          have hi : i < us.length := by omega
          have hdrop : us.drop i = us[i] :: us.drop (i + 1) := List.drop_eq_getElem_cons hi
          have hv : v = us[i] := by
            have h2 := congrArg (fun r => match r with | Result.ok (x : Array Value) _ => x[acc.size]? | _ => none) h
            have hsz : ∀ (q : Nat) (j : Nat) (ac : Array Value), (∃ r, (loadCellsFrom a j q ac).run P w' = .ok (ac ++ r) w') ∨ ∃ x y, (loadCellsFrom a j q ac).run P w' = .halt x y := by
              intro q
              induction q with
              | zero => intro j ac; exact .inl ⟨#[], by simp [loadCellsFrom]⟩
              | succ q ihq =>
                intro j ac
                simp only [loadCellsFrom, Sem.run_bind]
                generalize hg2 : (load (a.add j)).run P w' = g2
                cases g2 with
                | halt x y => exact .inr ⟨x, y, by simp⟩
                | ok v2 w2 =>
                  have hw2 : w2 = w' := by
                    rw [run_load] at hg2
                    split at hg2
                    · cases hg2; rfl
                    · split at hg2
                      · cases hg2; rfl
                      · cases hg2
                  subst hw2
                  simp only [Result.andThen_ok]
                  rcases ihq (j + 1) (ac.push v2) with ⟨r, hr⟩ | ⟨x, y, hr⟩
                  · exact .inl ⟨#[v2] ++ r, by rw [hr]; congr 1; apply Array.ext'; simp⟩
                  · exact .inr ⟨x, y, hr⟩
            rcases hsz (m + k) (i + 1) (acc.push v) with ⟨r, hr⟩ | ⟨x, y, hr⟩
            · rw [hr] at h2
              simp only [hdrop] at h2
              simp [Array.getElem?_append] at h2
              rw [List.getElem?_eq_getElem hi] at h2
              simpa using h2
            · rw [hr] at h; cases h
          have := ih k (acc.push v) (i + 1) (by
            rw [h, hdrop, hv]
            congr 1
            apply Array.ext'
            simp) (by omega)
          rw [this, hdrop, hv]
          congr 1
          apply Array.ext'
          simp
          rw [hdrop, List.take_succ_cons]
    have := key (n' * d) ((n - n') * d) #[] 0 (by
      have he : n' * d + (n - n') * d = n * d := by rw [← Nat.add_mul]; congr 1; omega
      rw [he]
      simpa [loadCells] using hc) (by
        have he : n' * d + (n - n') * d = n * d := by rw [← Nat.add_mul]; congr 1; omega
        omega)
    simpa [loadCells] using this
  cases hx with
  | sl => exact slice rfl
  | @sl0 b r x a =>
    cases a with
    | some a => exact slice rfl
    | none =>
      simp only [Builtin.lenOf, Sem.run_pure] at hlen
      have : n = 0 := by cases hlen; rfl
      subst this
      have : us = [] := List.length_eq_zero_iff.1 (by rw [hl]; simp)
      subst this
      simp [Builtin.firstCells]
  | one u h1 => exact absurd rfl ho
  | mp len z u h0 hu =>
    obtain ⟨a, cap, rfl, h1, h2⟩ := hu
    rcases h2 with ⟨rfl, rfl⟩ | ⟨blk, base, c, e, fr, rfl, _⟩
    · cases a with
      | some a => exact slice rfl
      | none =>
        simp only [Builtin.lenOf, Sem.run_pure] at hlen
        have : n = 0 := by cases hlen; rfl
        subst this
        have : us = [] := List.length_eq_zero_iff.1 (by rw [hl]; simp)
        subst this
        simp [Builtin.firstCells]
    · exact slice rfl
  | z0 a =>
    cases a with
    | some a => exact slice rfl
    | none =>
      simp only [Builtin.lenOf, Sem.run_pure] at hlen
      have : n = 0 := by cases hlen; rfl
      subst this
      have : us = [] := List.length_eq_zero_iff.1 (by rw [hl]; simp)
      subst this
      simp [Builtin.firstCells]
  | nils =>
    simp only [Builtin.lenOf, Sem.run_pure] at hlen
    have : n = 0 := by cases hlen; rfl
    subst this
    have : us = [] := List.length_eq_zero_iff.1 (by rw [hl]; simp)
    subst this
    simp [Builtin.firstCells]
  | str b =>
    simp only [Builtin.lenOf, Sem.run_pure] at hlen
    have hnb : n = b.size := by cases hlen; rfl
    subst hnb
    simp only [Builtin.firstCells, Sem.run_pure] at hc ⊢
    have hus : us = (b.extract 0 b.size).data.toList.map fun x => Value.int .u8 x.toNat := by
      have := congrArg (fun r => match r with | Result.ok (x : Array Value) _ => x.toList | _ => []) hc
      simpa using this.symm
    have hle : us.length = b.size := by rw [hus]; simp
    congr 1
    rw [hus]
    apply Array.ext'
    have hd : n' * d ≥ b.size ∨ d = 1 ∨ d = 0 := by
      rcases Nat.eq_zero_or_pos b.size with h0 | h0
      · left; omega
      · right; left
        rw [hle] at hl
        have : b.size * 1 = b.size * d := by omega
        exact (Nat.eq_of_mul_eq_mul_left h0 this).symm
    have hd1 : d = 1 ∨ b.size = 0 := by
      rcases Nat.eq_zero_or_pos b.size with h0 | h0
      · exact .inr h0
      · left
        rw [hle] at hl
        have : b.size * 1 = b.size * d := by omega
        exact (Nat.eq_of_mul_eq_mul_left h0 this).symm
    rcases hd1 with rfl | h0
    · simp only [Nat.mul_one, ← List.map_take, Array.toList_map]
      congr 1
      simp [ByteArray.data_extract, List.take_take]
    · have hb : b = ByteArray.empty := by
        have : b.data = #[] := Array.eq_empty_of_size_eq_zero (by simpa using h0)
        cases b; simp_all
      subst hb
      have : n' = 0 := by simp at hn'; exact hn'
      subst this
      first | rfl | simp
  | junk _ => exact absurd rfl hn
  | _ => simp [Builtin.lenOf] at hlen
end
end Go.AE

/- Rows written over; copy; clear. No condition. -/
namespace Go.AE
open Go
section
variable {P : Program} {C : Cx} {ρ : Map} {s : St} {w : World} {K : SV → St → Prop}

theorem RR.take {d n m : Nat} {us : List Value} {rs : Rows} (h : RR ρ d n us rs) (hm : m ≤ n) (hl : us.length = n * d) {k : Rows → Prop} (hk : takeR d m rs k) : ∃ rs', k rs' ∧ RR ρ d m (us.take (m * d)) rs' := by
  have hle : m * d ≤ n * d := Nat.mul_le_mul_right _ hm
  cases rs with
  | lst l =>
    simp only [takeR, listK_eq] at hk
    refine ⟨_, hk, by rw [List.length_take, h.1]; omega, ?_, h.2.2.take _⟩
    have h2 := h.2.1
    rw [List.all_eq_true] at h2 ⊢
    exact fun x hx => h2 x (List.mem_of_mem_take hx)
  | fam m' f =>
    refine ⟨_, hk, rfl, fun i hi => ?_⟩
    obtain ⟨g1, g2, g3⟩ := h.2 i (by omega)
    refine ⟨g1, g2, fun j v e => ?_⟩
    obtain ⟨u, hu, hv⟩ := g3 j v e
    have hj : j < d := by rw [← g1]; exact (List.getElem?_eq_some_iff.1 e).1
    have : (i + 1) * d ≤ m * d := Nat.mul_le_mul_right _ hi
    have hmm := Nat.succ_mul i d
    simp only [Nat.succ_eq_add_one] at hmm
    exact ⟨u, by rw [List.getElem?_take_of_lt (by omega)]; exact hu, hv⟩

theorem takeR_any {d m : Nat} {rs : Rows} {k : Rows → Prop} (h : takeR d m rs k) : ∃ rs', k rs' := by
  cases rs with
  | lst l => simp only [takeR, listK_eq] at h; exact ⟨_, h⟩
  | fam m' f => exact ⟨_, h⟩
theorem ov_ph {p : Pl} {bk : Bk} (hb : PH p bk) {r m : Nat} {rs : Rows} {k : Bk → Prop} (h : ovK False cond bk r m rs k) : ∃ b', k b' ∧ PH p b' := by
  cases bk with
  | fam d ro n row =>
    obtain ⟨rfl, hw⟩ := hb
    cases ro with
    | true => cases rs <;> exact h.elim
    | false =>
      have h : cond (decide (r + m ≤ 0)) (k (.fam d false 0 fun i => selL (decide (r ≤ i) && decide (i < r + m)) (rs.row d (i - r)) (row i))) False := by cases rs <;> exact h
      obtain ⟨_, hk⟩ := cond_t h
      exact ⟨_, hk, rfl, hw⟩
  | _ => exact hb.elim
theorem aCopy_sound {t tx ty : TypeId} {x y : SV} {ux uy : Value} (hR : Rel C ρ s w) (hx : VR ρ x ux) (hy : VR ρ y uy)
    (htx : (∃ e', P.underlying tx = some (.slice e')) ∧ (∀ b, y ≠ .str b) ∨ P.underlying tx = some .string ∧ ∃ b, y = .str b) (h : aCopy False cond P t x y s K) :
    RV C ρ s K ((Builtin.copy_ #[t, tx] ty #[ux, uy]).run P w) := by
  simp only [aCopy] at h
  cases hd : P.underlying t with
  | none => simp only [hd] at h
  | some dd =>
    cases dd with
    | slice e =>
      cases hj : P.info? e with
      | none => simp only [hd, hj] at h
      | some j =>
        simp only [hd, hj] at h
        obtain ⟨hq, h⟩ := cond_t h
        simp only [Bool.and_eq_true] at hq
        have q1 := beq_t hq.1
        rw [← q1] at h
        have hyj : y ≠ .junk := by intro e; subst e; exact h.elim
        have hyo : y ≠ .one := by intro e; subst e; exact h.elim
        obtain ⟨n, rs, us, h, hrr, hul, hsrc⟩ := srcK_sound hR hy htx h
        have hfirst := first_sound hy hyj hyo hul hsrc
        have hlen := hsrc.len w
        cases hx with
        | nils =>
          simp only at h
          refine .same hR h ?_ (.int _ _)
          have h0 := hfirst 0 (Nat.zero_le _)
          simp at h0
          simp [Builtin.copy_, run_underlying hd, hlen, run_sizeOf hj, h0, goInt]
        | @sl b p r len cap x cap' hp hl hcp hxx hss hph =>
          simp only at h
          cases hf : find s.h b with
          | none => simp only [hf] at h
          | some z =>
            obtain ⟨ver, bk⟩ := z
            simp only [hf] at h
            obtain ⟨q, hq', hb⟩ := hR.blk b ver bk hf
            rw [hp] at hq'; cases hq'
            have hb := hb.real hph
            obtain ⟨hw, h⟩ := cond_t h
            have hw := (hb.wd).trans (beq_t hw)
            have h : takeR j.size (min len n) rs (fun rs => ovK False cond bk r (min len n) rs fun bk => s.putK b bk fun s => K (.int .i64 (min len n : Nat)) s) := by
              by_cases hle : n ≤ len
              · rw [decide_eq_true hle, cond_true] at h; rw [Nat.min_eq_right hle]; exact h
              · rw [decide_eq_false hle, cond_false] at h; rw [Nat.min_eq_left (by omega)]; exact h
            obtain ⟨rs', h, hrr'⟩ := hrr.take (Nat.min_le_right len n) hul h
            rw [← hw] at hrr'
            have hul' : (us.take (min len n * p.w)).length = min len n * p.w := by
              rw [List.length_take, hul, hw]
              have : min len n * j.size ≤ n * j.size := Nat.mul_le_mul_right _ (Nat.min_le_right _ _)
              omega
            obtain ⟨hro, hcell, hfrz, bk', hk, hro', hbr⟩ := ov_sound hb hrr' hul' h
            simp only [St.putK_eq] at hk
            have hst := run_storeCells_cells (P := P) p.blk (p.base + r * p.w) (us.take (min len n * p.w)) 0 w (fun i hi => by have := hcell i hi; simpa using this) (fun i _ => by simpa using hfrz _) (hrr'.one hul')
            obtain ⟨e1, e2, e3, e4⟩ := setCells_rest p.blk (us.take (min len n * p.w)) (p.base + r * p.w) w
            have hmin : Nat.min n len = min len n := Nat.min_comm n len
            have hfi := hfirst (min len n) (Nat.min_le_right _ _)
            refine ⟨_, _, ρ, _, _, hk, ?_, Ext.refl _ _,   .int _ _, hR.put hf hro hp hph hbr hro' (fun r' hr' => setCells_other p.blk _ _ _ hr') e1 e2 e3 e4⟩
            simp only [Nat.add_zero] at hst
            rw [← hw] at hfi
            simp [Builtin.copy_, run_underlying hd, hlen, run_sizeOf hj, hmin, ← hw, hfi, hst, goInt]
        | @sl0 b r x a =>
          simp only at h
          cases hf : find s.h b with
          | none => simp only [hf] at h
          | some z =>
            obtain ⟨ver, bk⟩ := z
            simp only [hf] at h
            obtain ⟨p, hp, hb⟩ := hR.blk b ver bk hf
            obtain ⟨hw, h⟩ := cond_t h
            have hw := (hb.wd).trans (beq_t hw)
            have h : takeR j.size (min 0 n) rs (fun rs => ovK False cond bk r (min 0 n) rs fun bk => s.putK b bk fun s => K (.int .i64 (min 0 n : Nat)) s) := by
              by_cases hle : n ≤ 0
              · rw [decide_eq_true hle, cond_true] at h; rw [Nat.min_eq_right hle]; exact h
              · rw [decide_eq_false hle, cond_false] at h; rw [Nat.min_eq_left (by omega)]; exact h
            rcases hb with ⟨hph, hb⟩ | ⟨hph, hb⟩
            rotate_left
            · obtain ⟨rs', h⟩ := takeR_any h
              obtain ⟨b', hk, hb'⟩ := ov_ph hb h
              have hfi := hfirst 0 (Nat.zero_le _)
              simp only [St.putK_eq] at hk
              refine ⟨_, _, ρ, _, _, hk, ?_, Ext.refl _ _, .int _ _, hR.putPh hf hp hph hb'⟩
              simp at hfi
              cases a <;> simp [Builtin.copy_, run_underlying hd, hlen, run_sizeOf hj, hfi, storeCells, goInt, World.setCells]
            obtain ⟨rs', h, hrr'⟩ := hrr.take (Nat.min_le_right 0 n) hul h
            rw [← hw] at hrr'
            have h00 : min 0 n = 0 := Nat.zero_min n
            have hul' : (us.take (min 0 n * p.w)).length = min 0 n * p.w := by simp
            obtain ⟨hro, hcell, hfrz, bk', hk, hro', hbr⟩ := ov_sound hb hrr' hul' h
            simp only [St.putK_eq] at hk
            have hnil : us.take (min 0 n * p.w) = [] := by simp
            rw [hnil] at hbr
            have hfi := hfirst 0 (Nat.zero_le _)
            refine ⟨_, _, ρ, _, _, hk, ?_, Ext.refl _ _, .int _ _, hR.put hf hro hp hph hbr hro' (fun _ _ => rfl) rfl rfl rfl rfl⟩
            simp at hfi
            cases a <;> simp [Builtin.copy_, run_underlying hd, hlen, run_sizeOf hj, hfi, storeCells, goInt, World.setCells]
        | _ => simp only at h
    | _ => simp only [hd] at h

theorem aClear_sound {t ty : TypeId} {x : SV} {ux : Value} (hR : Rel C ρ s w) (hx : VR ρ x ux) (h : aClear False cond P t x s K) : RV C ρ s K ((Builtin.clear_ #[t] ty #[ux]).run P w) := by
  simp only [aClear] at h
  cases hd : P.underlying t with
  | none => simp only [hd] at h
  | some dd =>
    cases dd with
    | slice e =>
      cases hj : P.info? e with
      | none => simp only [hd, hj] at h
      | some j =>
        cases hz : j.zero with
        | none => simp only [hd, hj, hz] at h
        | some z =>
          simp only [hd, hj, hz] at h
          obtain ⟨hq, h⟩ := cond_t h
          simp only [Bool.and_eq_true] at hq
          obtain ⟨⟨⟨q1, q2⟩, q3⟩, q4⟩ := hq
          have q1 := beq_t q1; have q2 := ble_t q2; have q3 := beq_t q3
          have hzr := (ofN_rel ρ 3 z).cells q4
          have hzs : z.cells.size = width P 5 e := by have := hzr.length; simp at this; omega
          have main : ∀ {b : Nat} {p : Pl} {r len cap : Nat} {xx : Bool} {cap' : Nat} {ad : Option Addr}, x = .sl b r len cap xx → ux = .slice ad len cap' → ρ b = some p → p.ph = false → (0 < len → ad = some ⟨p.blk, p.base + r * p.w, none⟩) → RV C ρ s K ((Builtin.clear_ #[t] ty #[ux]).run P w) := by
            intro b p r len cap xx cap' ad hxe hue hp hph had
            subst hxe; subst hue
            simp only at h
            cases hf : find s.h b with
            | none => simp only [hf] at h
            | some zz =>
              obtain ⟨ver, bk⟩ := zz
              simp only [hf] at h
              obtain ⟨q, hq', hb⟩ := hR.blk b ver bk hf
              rw [hp] at hq'; cases hq'
              have hb := hb.real hph
              obtain ⟨hw, h⟩ := cond_t h
              have hw := (hb.wd).trans (beq_t hw)
              have hul : (List.replicate len z.cells.toList).flatten.length = len * p.w := by rw [hw, ← hzs]; simp [List.length_flatten]
              have hmk : Builtin.zeroCells z.cells len = (List.replicate len z.cells.toList).flatten.toArray := rep_range z.cells (by omega) len
              obtain ⟨rs, hrr, hk0⟩ : ∃ rs, RR ρ p.w len (List.replicate len z.cells.toList).flatten rs ∧ ovK False cond bk r len rs fun bk => s.putK b bk fun s => K (.tup []) s := by
                have flatR : RR ρ p.w len (List.replicate len z.cells.toList).flatten (.lst (List.replicate len (ofN 3 z).cells).flatten) := by
                  refine ⟨by rw [hw]; simp [List.length_flatten, q3], ?_, hzr.rep _⟩
                  rw [List.all_eq_true] at q4 ⊢
                  intro y hy
                  simp only [List.mem_flatten, List.mem_replicate] at hy
                  obtain ⟨l, ⟨_, rfl⟩, hy⟩ := hy
                  exact q4 y hy
                have famR : RR ρ p.w len (List.replicate len z.cells.toList).flatten (.fam len fun _ => (ofN 3 z).cells) := by
                  refine ⟨rfl, fun i hi => ⟨by rw [hw, q3], q4, fun j' v hv => ?_⟩⟩
                  obtain ⟨u, hu, hx⟩ := hzr.get hv
                  have hjl : j' < p.w := by rw [hw, ← q3]; exact (List.getElem?_eq_some_iff.1 hv).1
                  refine ⟨u, ?_, hx⟩
                  have hzl : z.cells.toList.length = p.w := by rw [hw, ← hzs]; simp
                  have hbnd : i * p.w + j' < len * z.cells.toList.length := by
                    rw [hzl]
                    have : (i + 1) * p.w ≤ len * p.w := Nat.mul_le_mul_right _ hi
                    have hm := Nat.succ_mul i p.w
                    simp only [Nat.succ_eq_add_one] at hm
                    omega
                  rw [get_rep _ (by omega) _ _ hbnd, hzl, Nat.add_comm, Nat.add_mul_mod_self_right, Nat.mod_eq_of_lt hjl]
                  exact hu
                cases bk with
                | flat d ro cs => simp only [repK_eq] at h; exact ⟨_, flatR, h⟩
                | fam d ro m row => exact ⟨_, famR, h⟩
                | mapk es => exact hb.elim
              obtain ⟨hro, hcell, hfrz, bk', hk, hro', hbr⟩ := ov_sound hb hrr hul hk0
              simp only [St.putK_eq] at hk
              have hst := run_storeCells_cells (P := P) p.blk (p.base + r * p.w) (List.replicate len z.cells.toList).flatten 0 w (fun i hi => by have := hcell i hi; simpa using this) (fun i _ => by simpa using hfrz _) (hrr.one hul)
              obtain ⟨e1, e2, e3, e4⟩ := setCells_rest p.blk (List.replicate len z.cells.toList).flatten (p.base + r * p.w) w
              refine ⟨_, _, ρ, .tuple #[], _, hk, ?_, Ext.refl _ _, .tup .nil, hR.put hf hro hp hph hbr hro' (fun r' hr' => setCells_other p.blk _ _ _ hr') e1 e2 e3 e4⟩
              simp only [Nat.add_zero] at hst
              rcases Nat.eq_zero_or_pos len with h0 | h0
              · subst h0
                cases ad <;> simp [Builtin.clear_, run_underlying hd, World.setCells]
              · obtain rfl := had h0
                obtain ⟨len', rfl⟩ : ∃ q, len = q + 1 := ⟨len - 1, by omega⟩
                simp [Builtin.clear_, run_underlying hd, zeroValue, typeInfo, hj, hz, hmk] at hst ⊢
                simp [hst]
          cases hx with
          | nils => exact .same hR h (by simp [Builtin.clear_, run_underlying hd]) (.tup .nil)
          | @sl b p r len cap x cap' hp hl hcp hxx hss hph => exact main rfl rfl hp hph (fun _ => rfl)
          | @sl0 b r x a =>
            have h' := h
            simp only at h'
            cases hf : find s.h b with
            | none => simp only [hf] at h'
            | some zz =>
              obtain ⟨ver, bk⟩ := zz
              simp only [hf] at h'
              obtain ⟨p, hp, hb⟩ := hR.blk b ver bk hf
              rcases hb with ⟨hph, hb⟩ | ⟨hph, hb⟩
              · exact main rfl rfl hp hph (fun hz => absurd hz (by omega))
              · obtain ⟨hw, h'⟩ := cond_t h'
                cases bk with
                | fam d ro m row =>
                  obtain ⟨b', hk, hb'⟩ := ov_ph hb h'
                  simp only [St.putK_eq] at hk
                  refine ⟨_, _, ρ, .tuple #[], _, hk, ?_, Ext.refl _ _, .tup .nil, hR.putPh hf hp hph hb'⟩
                  cases a <;> simp [Builtin.clear_, run_underlying hd, World.setCells]
                | _ => exact hb.elim
          | _ => simp only at h
    | _ => simp only [hd] at h
end
end Go.AE

/- Each operation: what the walk says of it is what the model does. No condition. -/
namespace Go.AE
open Go

def evS (t : List SV) : Operand → SV
  | .tmp i => nth t i
  | .const v => ofN 3 v
  | .func f => .fn (.func f) [] []
  | .global _ => .junk
theorem nthK_eq {R : Type} : ∀ (t : List SV) (i : Nat) (k : SV → R), nthK t i k = k (nth t i)
  | [], i, k => by cases i <;> rfl
  | _ :: _, 0, _ => rfl
  | _ :: t, i + 1, k => nthK_eq t i k
theorem force_eq {R : Type} (v : SV) (k : SV → R) : force v k = k v := by cases v <;> simp [force, listK_eq]
theorem evK_eq {R : Type} (t : List SV) (x : Operand) (k : SV → R) : evK t x k = k (evS t x) := by cases x <;> simp [evK, evS, nthK_eq, force_eq]
theorem evsK_eq {R : Type} (t : List SV) : ∀ (xs : List Operand) (k : List SV → R), evsK t xs k = k (xs.map (evS t))
  | [], k => rfl
  | x :: xs, k => by simp only [evsK, evK_eq, evsK_eq t xs, List.map_cons]
theorem evpK_eq {R : Type} (t : List SV) : ∀ (xs : List (Nat × Operand)) (k : List (Nat × SV) → R), evpK t xs k = k (xs.map fun p => (p.1, evS t p.2))
  | [], k => rfl
  | (i, x) :: xs, k => by simp only [evpK, evK_eq, evpK_eq t xs, List.map_cons]
theorem evoK_eq {R : Type} (t : List SV) (x : Option Operand) (k : Option SV → R) : evoK t x k = k (x.map (evS t)) := by cases x <;> simp [evoK, evK_eq]

section
variable {P : Program} {C : Cx} {ρ : Map} {s : St} {w : World} {K : SV → St → Prop} {eqt : List TypeId} {hc : FuncId → List SV → St → (SV → St → Prop) → Prop}
  {hl : Code → List SV → St → (List SV → St → Prop) → (Nat → List SV → St → Prop) → (List SV → St → Prop) → Prop} {t : List SV} {a : Act}

theorem ev_rel (ht : VRs ρ t a.tmps.toList) (x : Operand) : VR ρ (evS t x) (a.eval x) := by
  cases x with
  | tmp i => have := ht.nth i undef; simpa [evS, Act.eval, Array.getD_eq_getD_getElem?] using this
  | const v => exact ofN_rel ρ 3 v
  | func f => have := VR.fn (ρ := ρ) (.func f) .nil .nil; simpa [evS, Act.eval] using this
  | global g => exact .junk _
theorem evs_rel (ht : VRs ρ t a.tmps.toList) : ∀ xs : List Operand, VRs ρ (xs.map (evS t)) (xs.map a.eval)
  | [] => .nil
  | x :: xs => .cons (ev_rel ht x) (evs_rel ht xs)
theorem evp_rel (ht : VRs ρ t a.tmps.toList) : ∀ xs : List (Nat × Operand), VPs ρ (xs.map fun p => (p.1, evS t p.2)) (xs.map fun p => (p.1, a.eval p.2))
  | [] => .nil
  | (i, x) :: xs => .cons (ev_rel ht x) (evp_rel ht xs)
theorem evo_rel (ht : VRs ρ t a.tmps.toList) : ∀ x : Option Operand, VO ρ (x.map (evS t)) (x.map a.eval)
  | none => .none
  | some x => .some (ev_rel ht x)

/-- What an operation comes to. -/
def RN (C : Cx) (ρ : Map) (hc : FuncId → List SV → St → (SV → St → Prop) → Prop) (s : St) (w : World) (K : SV → St → Prop) (m : Result Next) : Prop :=
  (∃ v s' ρ' u w', K v s' ∧ (m = .ok (.value u) w' ∨ (m = .ok .skip w' ∧ u = undef)) ∧ Ext s s' ρ ρ' ∧ VR ρ' v u ∧ Rel C ρ' s' w') ∨
  ∃ f xs us, hc f xs s K ∧ m = .ok (.enter f us.toArray) w ∧ VRs ρ xs us
theorem RV.next {m : Sem Value} (h : RV C ρ s K (m.run P w)) : RN C ρ hc s w K ((do pure (.value (← m)) : Sem Next).run P w) := by
  obtain ⟨v, s', ρ', u, w', hk, hm, hρ, hv, hR⟩ := h
  exact .inl ⟨v, s', ρ', u, w', hk, .inl (by simp [hm]), hρ, hv, hR⟩


theorem toList_two {α : Type} {xs : Array α} {a b : α} (h : xs.toList = [a, b]) : xs = #[a, b] := by apply Array.ext'; simpa using h
theorem toList_one {α : Type} {xs : Array α} {a : α} (h : xs.toList = [a]) : xs = #[a] := by apply Array.ext'; simpa using h

theorem aBuiltin_sound {b : Builtin} {tys : Array TypeId} {vs : List SV} {us : List Value} {ty : TypeId} {cs : Array Bool} (hR : Rel C ρ s w) (hv : VRs ρ vs us) (h : aBuiltin ⟨False, cond, eqt, hc, hl⟩ P b tys vs s K) :
    RN C ρ hc s w K ((builtin b tys ty cs us.toArray).run P w) := by
  unfold aBuiltin at h
  split at h
  · -- len
    rename_i x
    cases hv with
    | cons hx ht =>
      cases ht
      cases htl : tys.toList with
      | nil => simp only [htl] at h
      | cons t r =>
        simp only [htl] at h
        have ht : tys[0]? = some t := by rw [← Array.getElem?_toList, htl]; rfl
        exact RV.next (aLen_sound ht hR hx h)
  · -- append
    rename_i x y
    cases hv with
    | cons hx ht =>
      cases ht with
      | cons hy ht =>
        cases ht
        split at h
        · rename_i t u htl
          obtain rfl := toList_two htl
          split at h
          · rename_i e hu
            exact RV.next (aAppend_sound hR hx hy (.inl ⟨⟨_, hu⟩, by intro b; simp⟩) h)
          · rename_i e hu
            exact RV.next (aAppend_sound hR hx hy (.inl ⟨⟨_, hu⟩, by intro b; simp⟩) h)
          · rename_i e hu
            exact RV.next (aAppend_sound hR hx hy (.inl ⟨⟨_, hu⟩, by intro b; simp⟩) h)
          · rename_i e hu
            exact RV.next (aAppend_sound hR hx hy (.inl ⟨⟨_, hu⟩, by intro b; simp⟩) h)
          · rename_i hu
            exact RV.next (aAppend_sound hR hx hy (.inr ⟨hu, _, rfl⟩) h)
          · exact h.elim
        · exact h.elim
  · -- copy
    rename_i x y
    cases hv with
    | cons hx ht =>
      cases ht with
      | cons hy ht =>
        cases ht
        split at h
        · rename_i t u htl
          obtain rfl := toList_two htl
          split at h
          · rename_i e hu
            exact RV.next (aCopy_sound hR hx hy (.inl ⟨⟨_, hu⟩, by intro b; simp⟩) h)
          · rename_i e hu
            exact RV.next (aCopy_sound hR hx hy (.inl ⟨⟨_, hu⟩, by intro b; simp⟩) h)
          · rename_i e hu
            exact RV.next (aCopy_sound hR hx hy (.inl ⟨⟨_, hu⟩, by intro b; simp⟩) h)
          · rename_i hu
            exact RV.next (aCopy_sound hR hx hy (.inr ⟨hu, _, rfl⟩) h)
          · exact h.elim
        · exact h.elim
  · -- clear
    cases hv with
    | cons hx ht =>
      cases ht
      split at h
      · rename_i t htl
        obtain rfl := toList_one htl
        exact RV.next (aClear_sound hR hx h)
      · exact h.elim
  · cases hv with
    | cons hx ht => exact RV.next (aMax_sound hR hx ht h)
  · cases hv with
    | cons hx ht => exact RV.next (aMin_sound hR hx ht h)
  · exact h.elim

/-- No function of the program is the run-time's count of goroutines. -/
def NoNum (P : Program) : Prop := ∀ (f : Nat) (fn : Func), P.funcs[f]? = some fn → (fn.name == "runtime.NumGoroutine") = false
theorem run_callFunc (hn : NoNum P) {f : FuncId} (hb : hasBody P f = true) (args : Array Value) (w : World) : (callFunc f args).run P w = .ok (.enter f args) w := by
  unfold hasBody at hb
  cases hf : P.funcs[f]? with
  | none => simp [hf] at hb
  | some fn =>
    simp only [hf] at hb
    have h1 := hn f fn hf
    have h2 : fn.body.isNone = false := by cases hbd : fn.body <;> simp_all
    have h1' : ¬ fn.name = "runtime.NumGoroutine" := by simpa using h1
    have h2' : ¬ fn.body = none := by intro e; rw [e] at hb; cases hb
    simp [callFunc, hf, h1', h2']

theorem aop_sound (hg : Good P eqt) (hn : NoNum P) {o : Oper} (hR : Rel C ρ s w) (ht : VRs ρ t a.tmps.toList) (h : aop ⟨False, cond, eqt, hc, hl⟩ P t o.op s K) : RN C ρ hc s w K ((execOp a.eval o).run P w) := by
  obtain ⟨dst, op, type, pos, after, guard⟩ := o
  dsimp only at h
  have move : ∀ x : Operand, K (evS t x) s → RN C ρ hc s w K (.ok (.value (a.eval x)) w) := fun x hk => .inl ⟨_, s, ρ, _, w, hk, .inl rfl, Ext.refl _ _, ev_rel ht x, hR⟩
  cases op with
  | move x => simp only [aop, evK_eq] at h; exact move x h
  | assign x => simp only [aop, evK_eq] at h; exact move x h
  | pick c x y =>
    simp only [aop, evK_eq] at h
    have hcr := ev_rel ht c
    cases hce : evS t c <;> simp only [hce] at h
    rename_i b
    rw [hce] at hcr
    generalize hcu : a.eval c = u at hcr
    cases hcr
    cases b with
    | true =>
      rw [cond_true] at h
      have := move x h
      simpa [execOp, hcu, asBool] using this
    | false =>
      rw [cond_false] at h
      have := move y h
      simpa [execOp, hcu, asBool] using this
  | alloc e => simp only [aop] at h; exact RV.next (aAlloc_sound (z := undef) hR h)
  | box e x => simp only [aop, evK_eq] at h; exact RV.next (aBox_sound hR (ev_rel ht x) h)
  | build e ps =>
    simp only [aop, evpK_eq] at h
    have hv : VPs ρ (ps.toList.map fun p => (p.1, evS t p.2)) (ps.map fun (i, x) => (i, a.eval x)).toList := by simpa using evp_rel ht ps.toList
    have := aBuild_sound hR hv h
    exact RV.next (m := Instr.build e (ps.map fun (i, x) => (i, a.eval x))) this
  | buildSlice e n ps =>
    simp only [aop, evpK_eq] at h
    have hv : VPs ρ (ps.toList.map fun p => (p.1, evS t p.2)) (ps.map fun (i, x) => (i, a.eval x)).toList := by simpa using evp_rel ht ps.toList
    have := RV.next (hc := hc) (s := s) (w := w) (aBuildSlice_sound hR hv h)
    simp only [execOp]
    exact this
  | load e x => simp only [aop, evK_eq, splitV_eq] at h; exact RV.next (aLoad_sound hR (ev_rel ht x) h)
  | store e x y =>
    simp only [aop, evK_eq] at h
    obtain ⟨s', w', hk, hrun, hE, hR'⟩ := aStore_sound hR (ev_rel ht x) (ev_rel ht y) h
    exact .inl ⟨_, s', ρ, undef, w', hk, .inr ⟨by simp [execOp, hrun], rfl⟩, hE, .tup .nil, hR'⟩
  | nilCheck x =>
    simp only [aop, evK_eq] at h
    have hx := ev_rel ht x
    generalize hu : a.eval x = u at hx
    have fin : ∀ {v : SV}, VR ρ v u → K v s → ((execOp a.eval ⟨dst, .nilCheck x, type, pos, after, guard⟩).run P w = .ok (.value u) w) → RN C ρ hc s w K ((execOp a.eval ⟨dst, .nilCheck x, type, pos, after, guard⟩).run P w) :=
      fun hv hk hr => .inl ⟨_, s, ρ, u, w, hk, .inl hr, Ext.refl _ _, hv, hR⟩
    revert h
    generalize evS t x = v at hx
    intro h
    cases hx with
    | fn f h1 h2 =>
      cases f <;> simp only [aNil] at h
      exact fin (.fn _ h1 h2) h (by simp [execOp, hu])
    | int k n => exact fin (.int k n) h (by simp [execOp, hu])
    | ptr r c hp => exact fin (.ptr r c hp) h (by simp [execOp, hu])
    | sl r len cap x cap' hp hl hcp hxx hss hph => exact fin (.sl r len cap x cap' hp hl hcp hxx hss hph) h (by simp [execOp, hu])
    | sl0 r x a => exact fin (.sl0 r x a) h (by simp [execOp, hu])
    | nils => exact fin .nils h (by simp [execOp, hu])
    | str b => exact fin (.str b) h (by simp [execOp, hu])
    | ifc t' hv => exact fin (.ifc t' hv) h (by simp [execOp, hu])
    | agg hv => exact fin (.agg hv) h (by simp [execOp, hu])
    | nilm => exact fin .nilm h (by simp [execOp, hu])
    | _ => exact h.elim
  | binOp op e x y e' => simp only [aop, evK_eq, splitV_eq] at h; exact RV.next (aBin_sound hg hR (ev_rel ht x) (ev_rel ht y) h)
  | unOp op e x => simp only [aop, evK_eq] at h; exact RV.next (aUn_sound hR (ev_rel ht x) h)
  | convert src dst x => simp only [aop, evK_eq] at h; exact RV.next (aConvert_sound hR (ev_rel ht x) h)
  | makeFunc f xs ys =>
    simp only [aop, evsK_eq] at h
    have h1 := evs_rel ht xs.toList
    have h2 := evs_rel ht ys.toList
    refine RV.next (m := Instr.makeFunc f (xs.map a.eval) (ys.map a.eval)) (RV.same hR h (u := .func f (xs.map a.eval) (ys.map a.eval)) rfl ?_)
    exact VR.fnA (by rw [Array.toList_map]; exact h1) (by rw [Array.toList_map]; exact h2)
  | makeInterface e x =>
    simp only [aop, evK_eq] at h
    cases hd : P.underlying e with
    | none => simp only [hd] at h
    | some d =>
      cases d <;> simp only [hd] at h <;> exact RV.next (RV.same hR h (by simp [Instr.makeInterface, run_underlying hd]) (.ifc e (ev_rel ht x)))
  | makeSlice e l c => simp only [aop, evK_eq] at h; exact RV.next (aMakeSlice_sound hR (ev_rel ht l) (ev_rel ht c) h)
  | slice e x lo hi mx =>
    simp only [aop, evK_eq, evoK_eq, Option.isSome_map, Option.isNone_map] at h
    cases hsh : (mx.isSome && hi.isNone) with
    | true => rw [hsh, cond_true] at h; exact h.elim
    | false =>
      rw [hsh, cond_false] at h
      refine RV.next (aSlice_sound hR (ev_rel ht x) (evo_rel ht lo) (evo_rel ht hi) (evo_rel ht mx) h ?_)
      cases mx with
      | none => exact .inl rfl
      | some m => cases hi with
        | none => simp at hsh
        | some h => exact .inr (by simp)
  | fieldAddr e x f => simp only [aop, evK_eq] at h; exact RV.next (aFieldAddr_sound hR (ev_rel ht x) h)
  | field e x f => simp only [aop, evK_eq] at h; exact RV.next (aField_sound hR (ev_rel ht x) h)
  | indexAddr e x i => simp only [aop, evK_eq] at h; exact RV.next (aIndexAddr_sound hR (ev_rel ht x) (ev_rel ht i) h)
  | index e x i => simp only [aop, evK_eq] at h; exact RV.next (aIndex_sound hR (ev_rel ht x) (ev_rel ht i) h)
  | extract x i => simp only [aop, evK_eq] at h; exact RV.next (aExtract_sound hR (ev_rel ht x) h)
  | call c =>
    obtain ⟨callee, args, argTypes⟩ := c
    simp only [aop] at h
    cases callee with
    | builtin b =>
      simp only [evsK_eq] at h
      have he : (args.toList.map a.eval).toArray = args.map a.eval := by apply Array.ext'; simp
      have key := fun cs => aBuiltin_sound (ty := type) (cs := cs) hR (evs_rel ht args.toList) h
      rw [he] at key
      simp only [execOp, resolve, invoke, Sem.run_bind, Sem.run_pure, Result.andThen_ok]
      exact key _
    | invoke r m => exact h.elim
    | value f =>
      simp only [evK_eq] at h
      have hf := ev_rel ht f
      generalize hfu : a.eval f = u at hf
      revert h
      generalize evS t f = v at hf
      intro h
      cases hf with
      | @fn xs ys us vs g h1 h2 =>
        cases g <;> simp only at h
        rename_i g
        obtain ⟨hb, h⟩ := cond_t h
        simp only [evsK_eq, listK_eq] at h
        refine .inr ⟨g, _, us ++ args.toList.map a.eval ++ vs, h, ?_, (h1.append (evs_rel ht args.toList)).append h2⟩
        have := run_callFunc hn hb (us ++ args.toList.map a.eval ++ vs).toArray w
        simp only [execOp, resolve, hfu, Deferred.ofValue, invoke, Sem.run_bind, Sem.run_pure, Result.andThen_ok]
        rw [← this]
        congr 2
        apply Array.ext'
        simp
      | _ => exact h.elim
  | _ => exact h.elim
end
end Go.AE

/- A region in the row of its text. No condition. -/
namespace Go.AE
open Go

def Post (C : Cx) (n : St) (ρ : Map) (kn : List SV → St → Prop) (kx : Nat → List SV → St → Prop) (kr : List SV → St → Prop) : Exit → Act → World → Prop
  | .normal, a, w => ∃ t s σ, Ext n s ρ σ ∧ VRs σ t a.tmps.toList ∧ a.defers = [] ∧ Rel C σ s w ∧ kn t s
  | .exit id, a, w => ∃ t s σ, Ext n s ρ σ ∧ VRs σ t a.tmps.toList ∧ a.defers = [] ∧ Rel C σ s w ∧ kx id t s
  | .ret, a, w => ∃ t s σ, Ext n s ρ σ ∧ VRs σ t a.tmps.toList ∧ a.defers = [] ∧ Rel C σ s w ∧ kr t s
  | _, _, _ => False
theorem Post.mono {C : Cx} {n m : St} {ρ σ : Map} {kn kx kr} (h : Ext n m ρ σ) : ∀ {e a w}, Post C m σ kn kx kr e a w → Post C n ρ kn kx kr e a w
  | .normal, _, _, ⟨t, s, τ, h', r⟩ => ⟨t, s, τ, h.trans h', r⟩
  | .exit _, _, _, ⟨t, s, τ, h', r⟩ => ⟨t, s, τ, h.trans h', r⟩
  | .ret, _, _, ⟨t, s, τ, h', r⟩ => ⟨t, s, τ, h.trans h', r⟩
  | .goto _, _, _, h' => h'.elim
  | .panic _, _, _, h' => h'.elim
  | .outgrown, _, _, h' => h'.elim
/-- The text c, from slots t and memory s on. -/
def EX (P : Program) (c : Code) (t : List SV) (s : St) (kn : List SV → St → Prop) (kx : Nat → List SV → St → Prop) (kr : List SV → St → Prop) : Prop :=
  ∀ (C : Cx) (ρ : Map) (a : Act) (w : World), Rel C ρ s w → VRs ρ t a.tmps.toList → a.defers = [] → c.wp P (Post C s ρ kn kx kr) a w
/-- A call of f at xs, from memory s on. -/
def CL (P : Program) (f : FuncId) (xs : List SV) (s : St) (k : SV → St → Prop) : Prop :=
  ∀ (C : Cx) (ρ : Map) (w : World) (us : List Value), Rel C ρ s w → VRs ρ xs us →
    Calls P f us.toArray w fun e w' => ∃ v s' σ u, k v s' ∧ e = .returned u ∧ Ext s s' ρ σ ∧ VR σ v u ∧ Rel C σ s' w'
structure SH (P : Program) (hc : FuncId → List SV → St → (SV → St → Prop) → Prop) (hl : Code → List SV → St → (List SV → St → Prop) → (Nat → List SV → St → Prop) → (List SV → St → Prop) → Prop) : Prop where
  call : ∀ f xs s k, hc f xs s k → CL P f xs s k
  loop : ∀ b t s kn kx kr, cfits b = true → hl b t s kn kx kr → EX P (.loop b) t s kn kx kr

theorem putD_eq {R : Type} (d : Option Tmp) (v : SV) (t : List SV) (k : List SV → R) : putD d v t k = k (match d with | some d => t.set d v | none => t) := by cases d <;> simp [putD, setK_eq]
theorem dstOf_eq : ∀ (l : List Oper) (g : Nat), dstOf l g = (l[g]?).bind (·.dst)
  | [], g => by simp [dstOf]
  | o :: _, 0 => rfl
  | _ :: r, g + 1 => by simp [dstOf, dstOf_eq r g]

section
variable {P : Program} {C : Cx} {ρ : Map} {s : St} {w : World} {eqt : List TypeId} {hc : FuncId → List SV → St → (SV → St → Prop) → Prop}
  {hl : Code → List SV → St → (List SV → St → Prop) → (Nat → List SV → St → Prop) → (List SV → St → Prop) → Prop} {t : List SV} {a : Act}

theorem put_rel (ht : VRs ρ t a.tmps.toList) (d : Option Tmp) {v : SV} {u : Value} (hv : VR ρ v u) : VRs ρ (match d with | some d => t.set d v | none => t) (a.put d u).tmps.toList := by
  cases d with
  | none => exact ht
  | some d => simpa [Act.put] using ht.set d hv
theorem put_defers (a : Act) (d : Option Tmp) (u : Value) : (a.put d u).defers = a.defers := by cases d <;> rfl
theorem set_rel (ht : VRs ρ t a.tmps.toList) {d : Nat} {v : SV} (hv : ∀ u, a.tmps.toList[d]? = some u → VR ρ v u) : VRs ρ (t.set d v) a.tmps.toList := by
  refine VRs.of (by simpa using ht.length) fun j x hx => ?_
  rw [List.getElem?_set] at hx
  split at hx
  · rename_i e
    subst e
    split at hx
    · rename_i hlt
      have hl := ht.length
      simp at hx; subst hx
      exact ⟨_, List.getElem?_eq_getElem (by omega), hv _ (List.getElem?_eq_getElem (by omega))⟩
    · cases hx
  · exact ht.get hx

/-- an operation, and what comes behind it -/
theorem op_wp (hg : Good P eqt) (hn : NoNum P) (hH : SH P hc hl) {o : Oper} (hR : Rel C ρ s w) (ht : VRs ρ t a.tmps.toList) {K : SV → St → Prop} (h : aop ⟨False, cond, eqt, hc, hl⟩ P t o.op s K) {next : Act → World → Prop} {Q : Exit → Act → World → Prop}
    (hK : ∀ v s' σ u w', K v s' → Ext s s' ρ σ → VR σ v u → Rel C σ s' w' → next (a.put o.dst u) w') : o.wp P a w next Q := by
  unfold Oper.wp
  rcases aop_sound hg hn hR ht h with ⟨v, s', σ, u, w', hk, hm, hσ, hv, hR'⟩ | ⟨f, xs, us, hk, hm, hv⟩
  · rcases hm with hm | ⟨hm, rfl⟩
    · rw [hm]; exact hK v s' σ u w' hk hσ hv hR'
    · rw [hm]; exact hK v s' σ _ w' hk hσ hv hR'
  · rw [hm]
    refine Calls.mono (hH.call _ _ _ _ hk C ρ w us hR hv) ?_
    rintro e w' ⟨v, s', σ, u, hk', rfl, hσ, hv', hR'⟩
    exact hK v s' σ u w' hk' hσ hv' hR'

theorem rops_sound (hg : Good P eqt) (hn : NoNum P) (hH : SH P hc hl) (ops : Array Oper) {n0 : St} {ρ0 : Map} {kn : List SV → St → Prop} {kx kr} : ∀ (r : List Oper) (i : Nat) (t : List SV) (s : St) (ρ : Map) (a : Act) (w : World), r = ops.toList.drop i →
    rops ⟨False, cond, eqt, hc, hl⟩ P ops.toList r t s kn → Ext n0 s ρ0 ρ → Rel C ρ s w → VRs ρ t a.tmps.toList → a.defers = [] → wpOps P ops (Post C n0 ρ0 kn kx kr) (List.range' i r.length) a w
  | [], i, t, s, ρ, a, w, _, h, hρ, hR, ht, hd => ⟨t, s, ρ, hρ, ht, hd, hR, h⟩
  | o :: r, i, t, s, ρ, a, w, hr, h, hρ, hR, ht, hd => by
    have hoi : ops[i]? = some o := by
      have : (ops.toList.drop i)[0]? = some o := by rw [← hr]; rfl
      simpa [List.getElem?_drop] using this
    have hr' : r = ops.toList.drop (i + 1) := by
      have : (ops.toList.drop i).tail = r := by rw [← hr]; rfl
      rw [← this, List.tail_drop]
    have run : ∀ {t : List SV}, VRs ρ t a.tmps.toList → aop ⟨False, cond, eqt, hc, hl⟩ P t o.op s (fun v s => putD o.dst v t fun t => rops ⟨False, cond, eqt, hc, hl⟩ P ops.toList r t s kn) → o.wp P a w (wpOps P ops (Post C n0 ρ0 kn kx kr) (List.range' (i + 1) r.length)) (Post C n0 ρ0 kn kx kr) := by
      intro t ht h
      refine op_wp hg hn hH hR ht h fun v s' σ u w' hk hσ hv hR' => ?_
      rw [putD_eq] at hk
      exact rops_sound hg hn hH ops r (i + 1) _ s' σ _ w' hr' hk (hρ.trans hσ) hR' (put_rel (ht.mono hσ.1) _ hv) (by rw [put_defers]; exact hd)
    have skip : ∀ {t : List SV}, VRs ρ t a.tmps.toList → (putD o.dst (.tup []) t fun t => rops ⟨False, cond, eqt, hc, hl⟩ P ops.toList r t s kn) → wpOps P ops (Post C n0 ρ0 kn kx kr) (List.range' (i + 1) r.length) (a.put o.dst undef) w := by
      intro t ht h
      rw [putD_eq] at h
      exact rops_sound hg hn hH ops r (i + 1) _ s ρ _ w hr' h hρ hR (put_rel ht _ (.tup .nil)) (by rw [put_defers]; exact hd)
    simp only [List.length_cons, List.range'_succ, wpOps, hoi]
    simp only [rops] at h
    cases hgd : o.guard with
    | none =>
      simp only [hgd] at h
      rw [if_pos (by simp [Region.wanted, hgd])]
      exact .inl (run ht h)
    | some gb =>
      obtain ⟨g, b⟩ := gb
      simp only [hgd, dstOf_eq] at h
      cases hdst : (ops.toList[g]?).bind (·.dst) with
      | none => simp only [hdst] at h
      | some d =>
        simp only [hdst, nthK_eq] at h
        have hdst' : (ops[g]?).bind (·.dst) = some d := by simpa using hdst
        have hnr := ht.nth d undef
        cases hnt : nth t d with
        | bool c =>
          rw [hnt] at hnr h
          have hsome : a.tmps.toList[d]? = some (.bool c) := by
            rw [nth_eq] at hnt
            cases htd : t[d]? with
            | none => rw [htd] at hnt; cases hnt
            | some v =>
              rw [htd] at hnt
              simp at hnt; subst hnt
              obtain ⟨u, hu, hv⟩ := ht.get htd
              cases hv
              exact hu
          have hy : yielded ops a.tmps g = some c := by
            have : a.tmps[d]? = some (.bool c) := by simpa using hsome
            simp [yielded, hdst', this]
          have hset : ∀ b', c = b' → VRs ρ (t.set d (.bool b')) a.tmps.toList := fun b' e => set_rel ht fun u hu => by
            rw [hsome] at hu; cases hu; subst e; exact .bool _
          cases b with
          | true =>
            simp only [setK_eq] at h
            cases c with
            | true =>
              rw [cond_true] at h
              rw [if_pos (by simp [Region.wanted, hgd, hy])]
              exact .inl (run (hset true rfl) h)
            | false =>
              rw [cond_false] at h
              rw [if_neg (by simp [Region.wanted, hgd, hy])]
              exact skip (hset false rfl) h
          | false =>
            simp only [setK_eq] at h
            cases c with
            | true =>
              rw [cond_true] at h
              rw [if_neg (by simp [Region.wanted, hgd, hy])]
              exact skip (hset true rfl) h
            | false =>
              rw [cond_false] at h
              rw [if_pos (by simp [Region.wanted, hgd, hy])]
              exact .inl (run (hset false rfl) h)
        | tup l =>
          rw [hnt] at h
          cases l with
          | cons _ _ => exact h.elim
          | nil =>
            have hsome : a.tmps.toList[d]? = some (.tuple #[]) := by
              rw [nth_eq] at hnt
              cases htd : t[d]? with
              | none => rw [htd] at hnt; cases hnt
              | some v =>
                rw [htd] at hnt
                simp at hnt; subst hnt
                obtain ⟨u, hu, hv⟩ := ht.get htd
                cases hv with
                | tup hv => cases hv; exact hu
            have hy : yielded ops a.tmps g = none := by
              have : a.tmps[d]? = some (.tuple #[]) := by simpa using hsome
              simp [yielded, hdst', this]
            rw [if_neg (by simp [Region.wanted, hgd, hy])]
            exact skip ht h
        | _ => rw [hnt] at h; exact h.elim
end
end Go.AE

/- What an operation hands on is one thing, whatever is asked of it behind. No condition. -/
namespace Go.AE
open Go

def Rep {α : Type} (f : (α → Prop) → Prop) : Prop := ∃ G : α → Prop, ∀ K, f K ↔ ∃ x, G x ∧ K x
theorem Rep.ret {α : Type} (a : α) : Rep (fun K : α → Prop => K a) := ⟨(· = a), fun K => by simp⟩
theorem Rep.no {α : Type} : Rep (fun _ : α → Prop => False) := ⟨fun _ => False, fun K => by simp⟩
theorem Rep.cond {α : Type} (b : Bool) {x y : (α → Prop) → Prop} (hx : Rep x) (hy : Rep y) : Rep (fun K => _root_.cond b (x K) (y K)) := by cases b; exact hy; exact hx
theorem Rep.bind {α β : Type} {g : (β → Prop) → Prop} {h : β → (α → Prop) → Prop} (hg : Rep g) (hh : ∀ b, Rep (h b)) : Rep (fun K => g fun b => h b K) := by
  obtain ⟨G, hG⟩ := hg
  have h2 : ∀ b K, h b K ↔ ∃ x, Classical.choose (hh b) x ∧ K x := fun b => Classical.choose_spec (hh b)
  refine ⟨fun x => ∃ b, G b ∧ Classical.choose (hh b) x, fun K => ?_⟩
  show (g fun b => h b K) ↔ _
  constructor
  · intro hk
    obtain ⟨b, hb, hk⟩ := (hG _).1 hk
    obtain ⟨x, hx, hk⟩ := (h2 b K).1 hk
    exact ⟨x, ⟨b, hb, hx⟩, hk⟩
  · rintro ⟨x, ⟨b, hb, hx⟩, hk⟩
    exact (hG _).2 ⟨b, hb, (h2 b K).2 ⟨x, hx, hk⟩⟩
theorem Rep.bind2 {α β γ : Type} {g : (β → γ → Prop) → Prop} {h : β → γ → (α → Prop) → Prop} (hg : Rep (fun K : β × γ → Prop => g fun a b => K (a, b))) (hh : ∀ a b, Rep (h a b)) : Rep (fun K => g fun a b => h a b K) :=
  Rep.bind (β := β × γ) (g := fun K => g fun a b => K (a, b)) (h := fun p => h p.1 p.2) hg (fun p => hh p.1 p.2)
theorem Rep.one {α : Type} {f : (α → Prop) → Prop} (h : Rep f) {K : α → Prop} (hk : f K) : ∃ x, K x ∧ f (fun y => y = x) := by
  obtain ⟨G, hG⟩ := h
  obtain ⟨x, hx, hk⟩ := (hG K).1 hk
  exact ⟨x, hk, (hG _).2 ⟨x, hx, rfl⟩⟩
theorem Rep.mono {α : Type} {f : (α → Prop) → Prop} (h : Rep f) {K L : α → Prop} (hk : f K) (hl : ∀ x, K x → L x) : f L := by
  obtain ⟨G, hG⟩ := h
  obtain ⟨x, hx, hk⟩ := (hG K).1 hk
  exact (hG _).2 ⟨x, hx, hl x hk⟩
theorem Rep.congr {α : Type} {f g : (α → Prop) → Prop} (h : Rep f) (e : ∀ K, g K = f K) : Rep g := by
  have : g = f := funext e
  rw [this]; exact h

/-- a continuation of two -/
def Rep2 (f : (SV → St → Prop) → Prop) : Prop := Rep (fun K : SV × St → Prop => f fun v s => K (v, s))
theorem Rep2.one {f : (SV → St → Prop) → Prop} (h : Rep2 f) {K : SV → St → Prop} (hk : f K) : ∃ v s, K v s ∧ f (fun v' s' => v' = v ∧ s' = s) := by
  obtain ⟨⟨v, s⟩, h1, h2⟩ := Rep.one h (K := fun x => K x.1 x.2) hk
  refine ⟨v, s, h1, ?_⟩
  have : (fun v' s' => ((v', s') : SV × St) = (v, s)) = fun v' s' => v' = v ∧ s' = s := by funext a b; simp
  rw [← this]; exact h2

section
variable (P : Program) (t : TypeId) (x y : SV) (s : St)
theorem rep_rd (bk : Bk) (r c n : Nat) : Rep (fun K => rd False cond bk r c n K) := by
  cases bk with
  | flat d ro cs => simp only [rd, listK_eq]; exact Rep.cond _ (Rep.ret _) Rep.no
  | fam d ro m row => simp only [rd, listK_eq]; exact Rep.cond _ (Rep.cond _ (Rep.cond _ (Rep.ret _) Rep.no) Rep.no) Rep.no
  | mapk es => exact Rep.no
theorem rep_wr (bk : Bk) (r c : Nat) (vs : List SV) : Rep (fun K => wr False cond bk r c vs K) := by
  cases bk with
  | flat d ro cs => cases ro with
    | true => exact Rep.no
    | false => simp only [wr, listK_eq]; exact Rep.cond _ (Rep.ret _) Rep.no
  | fam d ro m row => cases ro with
    | true => exact Rep.no
    | false => exact Rep.cond _ (Rep.cond _ (Rep.ret _) Rep.no) (Rep.cond _ (Rep.cond _ (Rep.ret _) Rep.no) Rep.no)
  | mapk es => exact Rep.no
theorem rep_load : Rep2 (aLoad False cond P t x s) := by
  unfold Rep2 aLoad
  repeat' (first | exact Rep.ret _ | exact Rep.no | refine Rep.cond _ ?_ ?_ | exact Rep.bind (rep_rd _ _ _ _) (fun _ => Rep.ret _) | split)
theorem rep_store : Rep2 (aStore False cond P t x y s) := by
  unfold Rep2 aStore
  simp only [St.putK_eq]
  repeat' (first | exact Rep.ret _ | exact Rep.no | refine Rep.cond _ ?_ ?_ | exact Rep.bind (rep_wr _ _ _ _) (fun _ => Rep.ret _) | split)
theorem rep_alloc : Rep2 (aAlloc False P t s) := by
  unfold Rep2 aAlloc
  simp only [listK_eq, St.newK_eq]
  repeat' (first | exact Rep.ret _ | exact Rep.no | refine Rep.cond _ ?_ ?_ | split)
theorem rep_box : Rep2 (aBox False P t x s) := by
  unfold Rep2 aBox
  simp only [listK_eq, St.newK_eq]
  repeat' (first | exact Rep.ret _ | exact Rep.no | refine Rep.cond _ ?_ ?_ | split)
theorem rep_fill (place : Nat → Option (Nat × Nat)) : ∀ (ps : List (Nat × SV)) (l : List SV), Rep (fun k => fillK False place l k ps)
  | [], l => Rep.ret _
  | (i, v) :: ps, l => by
    simp only [fillK, listK_eq]
    repeat' (first | exact rep_fill place ps _ | exact Rep.no | refine Rep.cond _ ?_ ?_ | split)
theorem rep_build (ps : List (Nat × SV)) : Rep2 (aBuild False P t ps s) := by
  unfold Rep2 aBuild
  simp only [listK_eq]
  repeat' (first | exact Rep.ret _ | exact Rep.no | exact Rep.bind (rep_fill _ _ _) (fun _ => Rep.ret _) | refine Rep.cond _ ?_ ?_ | split)
theorem rep_buildSlice (n : Nat) (ps : List (Nat × SV)) : Rep2 (aBuildSlice False P t n ps s) := by
  unfold Rep2 aBuildSlice
  simp only [listK_eq, repK_eq, St.newK_eq]
  repeat' (first | exact Rep.ret _ | exact Rep.no | exact Rep.bind (rep_fill _ _ _) (fun _ => Rep.cond _ (Rep.ret _) Rep.no) | refine Rep.cond _ ?_ ?_ | split)
theorem rep_fieldAddr (i : Nat) : Rep2 (aFieldAddr False P t x i s) := by
  unfold Rep2 aFieldAddr
  simp only [forceN_eq]
  repeat' (first | exact Rep.ret _ | exact Rep.no | refine Rep.cond _ ?_ ?_ | split)
theorem rep_field (i : Nat) : Rep2 (aField False P t x i s) := by
  unfold Rep2 aField
  simp only [listK_eq]
  repeat' (first | exact Rep.ret _ | exact Rep.no | refine Rep.cond _ ?_ ?_ | split)
theorem rep_at (b r c e n : Nat) : Rep2 (atK False s b r c e n) := by
  unfold Rep2 atK
  simp only [forceN_eq]
  repeat' (first | exact Rep.ret _ | exact Rep.no | refine Rep.cond _ ?_ ?_ | split)
theorem rep_indexAddr : Rep2 (aIndexAddr False cond P t x y s) := by
  unfold Rep2 aIndexAddr
  repeat' (first | exact rep_at _ _ _ _ _ _ | exact Rep.ret _ | exact Rep.no | refine Rep.cond _ ?_ ?_ | split)
theorem rep_index : Rep2 (aIndex False cond P t x y s) := by
  unfold Rep2 aIndex
  simp only [listK_eq]
  repeat' (first | exact Rep.ret _ | exact Rep.no | refine Rep.cond _ ?_ ?_ | split)
theorem rep_natOf (x : Option SV) (d : Nat) : Rep (natOf False cond x d) := by
  cases x with
  | none => exact Rep.ret _
  | some v => cases v <;> first | exact Rep.no | exact Rep.cond _ (Rep.ret _) Rep.no
theorem rep_slice (lo hi mx : Option SV) : Rep2 (aSlice False cond P t x lo hi mx s) := by
  unfold Rep2 aSlice
  repeat' (first | exact Rep.ret _ | exact Rep.no | (refine Rep.bind (rep_natOf _ _) (fun _ => ?_)) | refine Rep.cond _ ?_ ?_ | split)
theorem rep_eq (eqt : List TypeId) : ∀ (f : Nat) (t : TypeId) (x y : SV), Rep (fun K => eqK False cond P eqt f t x y K) := by
  intro f
  induction f with
  | zero => intro t x y; simp only [eqK]; exact Rep.no
  | succ f ih =>
    intro t x y
    have fields : ∀ (gs : List Field) (xs ys : List SV), Rep (fun K => fieldsK False P (eqK False cond P eqt f) xs ys gs K) := by
      intro gs
      induction gs with
      | nil => intro xs ys; simp only [fieldsK]; exact Rep.ret _
      | cons g gs ihg =>
        intro xs ys
        simp only [fieldsK, listK_eq]
        repeat' (first | exact Rep.no | exact Rep.bind (ih _ _ _) (fun _ => Rep.bind (ihg _ _) (fun _ => Rep.ret _)) | refine Rep.cond _ ?_ ?_ | split)
    unfold eqK
    repeat' (first | exact Rep.ret _ | exact Rep.no | exact fields _ _ _ | refine Rep.cond _ ?_ ?_ | split)
theorem rep_bin (eqt : List TypeId) (op : BinOp) : Rep2 (aBin False cond P eqt op t x y s) := by
  unfold Rep2 aBin
  repeat' (first | exact Rep.ret _ | exact Rep.no | exact Rep.bind (rep_eq P eqt _ _ _ _) (fun _ => Rep.ret _) | refine Rep.cond _ ?_ ?_ | split)
theorem rep_un (op : UnOp) : Rep2 (aUn False op x s) := by
  unfold Rep2 aUn
  repeat' (first | exact Rep.ret _ | exact Rep.no | refine Rep.cond _ ?_ ?_ | split)
theorem rep_bytes : ∀ l : List SV, Rep (fun K => bytesK False l K)
  | [] => Rep.ret _
  | v :: l => by
    cases v <;> first | exact Rep.no | skip
    rename_i k n
    cases k <;> first | exact Rep.no | skip
    show Rep (fun K => bytesK False l fun bs => K (UInt8.ofNat n.toNat :: bs))
    exact Rep.bind (rep_bytes l) (fun _ => Rep.ret _)
theorem rep_convert (d : TypeId) : Rep2 (aConvert False cond P t d x s) := by
  unfold Rep2 aConvert
  simp only [listK_eq]
  repeat' (first | exact Rep.ret _ | exact Rep.no | exact Rep.bind (rep_bytes _) (fun _ => Rep.ret _) | refine Rep.cond _ ?_ ?_ | split)
theorem rep_extract (i : Nat) : Rep2 (aExtract False x i s) := by
  unfold Rep2 aExtract
  repeat' (first | exact Rep.ret _ | exact Rep.no | refine Rep.cond _ ?_ ?_ | split)
theorem rep_nil : Rep2 (aNil False x s) := by
  unfold Rep2 aNil
  repeat' (first | exact Rep.ret _ | exact Rep.no | split)
theorem rep_len : Rep2 (aLen False P t x s) := by
  unfold Rep2 aLen
  repeat' (first | exact Rep.ret _ | exact Rep.no | split)
theorem rep_rows (r m : Nat) (bk : Bk) : Rep (fun k => bk.rows False cond r m k) := by
  cases bk with
  | flat d ro cs => simp only [Bk.rows, listK_eq]; exact Rep.cond _ (Rep.ret _) Rep.no
  | fam d ro m row => exact Rep.cond _ (Rep.ret _) Rep.no
  | mapk es => exact Rep.no
theorem rep_src (d : Nat) : Rep (fun K : Nat × Rows → Prop => srcK False cond d x s fun n rs => K (n, rs)) := by
  unfold srcK
  repeat' (first | exact Rep.ret (α := Nat × Rows) _ | exact Rep.no | exact Rep.bind (rep_rows _ _ _) (fun _ => Rep.ret (α := Nat × Rows) _) | refine Rep.cond _ ?_ ?_ | split)
theorem rep_cat (d m m2 : Nat) (a b : Rows) : Rep (fun K => catK (R := Prop) d m a b m2 K) := by
  cases a with
  | lst a => cases b with
    | lst b => simp only [catK, listK_eq]; exact Rep.ret _
    | fam _ _ => exact Rep.ret _
  | fam _ _ => cases b <;> exact Rep.ret _
theorem rep_ov (bk : Bk) (r m : Nat) (rs : Rows) : Rep (fun K => ovK False cond bk r m rs K) := by
  unfold ovK
  simp only [listK_eq]
  repeat' (first | exact Rep.ret _ | exact Rep.no | refine Rep.cond _ ?_ ?_ | split)
theorem rep_room (d b r len cap n : Nat) (x : Bool) (rs : Rows) : Rep2 (roomK False cond d b r len cap n x rs s) := by
  unfold Rep2 roomK
  simp only [St.putK_eq]
  repeat' (first | exact Rep.ret _ | exact Rep.no | (refine Rep.bind (rep_ov _ _ _ _) (fun _ => ?_)) | refine Rep.cond _ ?_ ?_ | split)
theorem rep_append : Rep2 (aAppend False cond P t x y s) := by
  unfold Rep2 aAppend
  simp only [St.delNewK_eq, St.newK_eq]
  repeat' (first
    | exact Rep.ret _ | exact Rep.no | exact rep_room _ _ _ _ _ _ _ _ _
    | (refine Rep.bind2 (rep_src _ _ _) (fun _ _ => ?_))
    | (refine Rep.bind (rep_rows _ _ _) (fun _ => ?_)) | (refine Rep.bind (rep_cat _ _ _ _ _) (fun _ => ?_))
    | refine Rep.cond _ ?_ ?_ | split)
theorem rep_take (d m : Nat) (rs : Rows) : Rep (fun K => takeR (R := Prop) d m rs K) := by
  cases rs with
  | lst l => simp only [takeR, listK_eq]; exact Rep.ret _
  | fam _ f => exact Rep.ret _
theorem rep_copy : Rep2 (aCopy False cond P t x y s) := by
  unfold Rep2 aCopy
  simp only [St.putK_eq]
  repeat' (first
    | exact Rep.ret _ | exact Rep.no
    | (refine Rep.bind2 (rep_src _ _ _) (fun _ _ => ?_))
    | (refine Rep.bind (rep_take _ _ _) (fun _ => ?_)) | (refine Rep.bind (rep_ov _ _ _ _) (fun _ => ?_))
    | refine Rep.cond _ ?_ ?_ | split)
theorem rep_clear : Rep2 (aClear False cond P t x s) := by
  unfold Rep2 aClear
  simp only [St.putK_eq, repK_eq]
  repeat' (first
    | exact Rep.ret _ | exact Rep.no
    | (refine Rep.bind (rep_ov _ _ _ _) (fun _ => ?_))
    | refine Rep.cond _ ?_ ?_ | split)
theorem rep_makeSlice (lit : Bool) (l c : SV) : Rep2 (aMakeSlice False cond P t lit l c s) := by
  unfold Rep2 aMakeSlice
  simp only [repK_eq, listK_eq, St.newK_eq]
  repeat' (first | exact Rep.ret _ | exact Rep.no | refine Rep.cond _ ?_ ?_ | split)
theorem rep_fold {f : SV → SV → (SV → Prop) → Prop} (hf : ∀ x y, Rep (fun K => f x y K)) : ∀ (l : List SV) (x : SV), Rep (fun K => aFold f x l K)
  | [], x => Rep.ret _
  | y :: l, x => by
    show Rep (fun K => f x y fun z => aFold f z l K)
    exact Rep.bind (hf x y) (fun z => rep_fold hf l z)
theorem rep_max (x y : SV) : Rep (fun K => aMax2 False x y K) := by
  cases x <;> first | exact Rep.no | (cases y <;> first | exact Rep.no | exact Rep.ret _)
theorem rep_min (x y : SV) : Rep (fun K => aMin2 False x y K) := by
  cases x <;> first | exact Rep.no | (cases y <;> first | exact Rep.no | exact Rep.ret _)
end

section
variable {P : Program} {eqt : List TypeId} {hc : FuncId → List SV → St → (SV → St → Prop) → Prop} {hl : Code → List SV → St → (List SV → St → Prop) → (Nat → List SV → St → Prop) → (List SV → St → Prop) → Prop}
theorem rep_builtin (b : Builtin) (tys : Array TypeId) (vs : List SV) (s : St) : Rep2 (aBuiltin ⟨False, cond, eqt, hc, hl⟩ P b tys vs s) := by
  unfold aBuiltin
  split
  · split
    · exact rep_len _ _ _ _
    · exact Rep.no
  · split
    · split <;> first | exact rep_append _ _ _ _ _ | exact Rep.no
    · exact Rep.no
  · split
    · split <;> first | exact rep_copy _ _ _ _ _ | exact Rep.no
    · exact Rep.no
  · split
    · exact rep_clear _ _ _ _
    · exact Rep.no
  · exact Rep.bind (rep_fold rep_max _ _) (fun _ => Rep.ret _)
  · exact Rep.bind (rep_fold rep_min _ _) (fun _ => Rep.ret _)
  · exact Rep.no
theorem rep_aop (hrep : ∀ f xs s, Rep2 (hc f xs s)) (t : List SV) (o : Op) (s : St) : Rep2 (aop ⟨False, cond, eqt, hc, hl⟩ P t o s) := by
  have ret : ∀ v, Rep2 (fun k : SV → St → Prop => k v s) := fun v => Rep.ret (v, s)
  unfold Rep2
  cases o <;> simp only [aop, evK_eq, evsK_eq, evpK_eq, evoK_eq, listK_eq]
  case move => exact ret _
  case assign => exact ret _
  case pick c a b =>
    cases evS t c with
    | bool b => cases b <;> exact ret _
    | _ => exact Rep.no
  case alloc => exact rep_alloc _ _ _
  case box => exact rep_box _ _ _ _
  case build => exact rep_build _ _ _ _
  case buildSlice => exact rep_buildSlice _ _ _ _ _
  case load => simp only [splitV_eq]; exact rep_load _ _ _ _
  case store => exact rep_store _ _ _ _ _
  case nilCheck => exact rep_nil _ _
  case binOp => simp only [splitV_eq]; exact rep_bin _ _ _ _ _ _ _
  case unOp => exact rep_un _ _ _
  case convert => exact rep_convert _ _ _ _ _
  case makeInterface e x =>
    cases P.underlying e with
    | none => exact Rep.no
    | some d => cases d <;> first | exact ret _ | exact Rep.no
  case makeFunc => exact ret _
  case makeSlice => exact rep_makeSlice _ _ _ _ _ _
  case slice => exact Rep.cond _ Rep.no (rep_slice _ _ _ _ _ _ _)
  case fieldAddr => exact rep_fieldAddr _ _ _ _ _
  case field => exact rep_field _ _ _ _ _
  case indexAddr => exact rep_indexAddr _ _ _ _ _
  case index => exact rep_index _ _ _ _ _
  case extract => exact rep_extract _ _ _
  case call c =>
    obtain ⟨callee, args, argTypes⟩ := c
    cases callee with
    | builtin b => exact rep_builtin _ _ _ _
    | invoke r m => exact Rep.no
    | value f =>
      dsimp only
      cases evS t f with
      | fn g xs ys => cases g <;> first | exact Rep.no | exact Rep.cond _ (hrep _ _ _) Rep.no
      | _ => exact Rep.no
  all_goals exact Rep.no
end
end Go.AE
