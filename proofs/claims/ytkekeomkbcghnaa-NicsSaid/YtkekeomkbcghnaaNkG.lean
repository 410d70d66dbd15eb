/- Nics: the acts' loop. No condition. -/
import Derived.Test.YtkekeomkbcghnaaNkF
import Derived.Test.YtkekeomkbcghnaaNkRE0
import Derived.Test.YtkekeomkbcghnaaNkRE1
import Derived.Test.YtkekeomkbcghnaaNkRE2
import Derived.Test.YtkekeomkbcghnaaNkRE3
import Derived.Test.YtkekeomkbcghnaaNkRD0
import Derived.Test.YtkekeomkbcghnaaNkRD1
import Derived.Test.YtkekeomkbcghnaaNkRD2
import Derived.Test.YtkekeomkbcghnaaNkRD3
import Derived.Test.YtkekeomkbcghnaaNkRR0
import Derived.Test.YtkekeomkbcghnaaNkRR1
import Derived.Test.YtkekeomkbcghnaaNkRR2
import Derived.Test.YtkekeomkbcghnaaNkRR3
import Derived.Test.YtkekeomkbcghnaaNkRZ0
import Derived.Test.YtkekeomkbcghnaaNkRZ1
import Derived.Test.YtkekeomkbcghnaaNkRZ2
import Derived.Test.YtkekeomkbcghnaaNkRZ3
import Derived.Test.YtkekeomkbcghnaaNkRN1
import Derived.Test.YtkekeomkbcghnaaNkRN2
import Derived.Test.YtkekeomkbcghnaaNkRUS
import Derived.Test.YtkekeomkbcghnaaNkRUR
namespace Go.Proofs.Ytkekeomkbcghnaa.nics
open Go Go.Proofs Go.AE Go.RowKit nc
set_option maxRecDepth 100000
set_option linter.unusedVariables false
set_option linter.unusedSimpArgs false
open Classical in
/-- loop_scr2, where each round is walked with what it asks for -/
theorem loop_any {P : Program} {ctr : Ctr} (okc : okC P ctr) {b : Code} (hf : cfits b = true) (N : Nat) (T : Nat → List SV) (S : Nat → St) (μ : Nat → Nat) (I : Nat → Prop) (q : Nat → Prop) (o : Nat → Out)
    (round : ∀ j, I j → ∃ eqt, PK P eqt ∧ ∃ r, exec (HS P eqt ctr) P b (T j) (S j) (kN N T S μ I j) (kX N q o) (kR N q o) r) {j0 : Nat} (h0 : I j0) {t0 : List SV} {s0 : St} (h1 : s0.st = 1) (hN : s0.nx = N) {π : List (Nat × Nat)} (ht0 : tells N π t0 s0 (T j0) (S j0)) : LQ P b t0 s0 q o := by
  intro C ρ a w hR ht hd
  subst hN
  obtain ⟨σ0, hE0, hR0, hv0⟩ := tells.rel ht0 h1 hR.fresh (Ext.refl _ _) hR ht
  let J : Nat → Act → World → Prop := fun n a' w' => ∃ j σ, n = μ j ∧ Ext s0 (S j) ρ σ ∧ VRs σ (T j) a'.tmps.toList ∧ a'.defers = [] ∧ Rel C σ (S j) w' ∧ I j
  let ν : Act → World → Nat := fun a' w' => if h : ∃ n, J n a' w' then Classical.choose (least h) else 0
  have hν : ∀ {a' w'} (h : ∃ n, J n a' w'), J (ν a' w') a' w' ∧ ∀ m, J m a' w' → ν a' w' ≤ m := by
    intro a' w' h
    have e : ν a' w' = Classical.choose (least h) := dif_pos h
    rw [e]
    exact Classical.choose_spec (least h)
  refine wp_loop (fun a' w' => ∃ n, J n a' w') ν ⟨_, j0, σ0, rfl, hE0, hv0, hd, hR0, h0⟩ fun a' w' hI => ?_
  obtain ⟨j, σ, hj, hE, ht', hd', hR', hIj⟩ := (hν hI).1
  obtain ⟨eqt, hP, r, hr⟩ := round j hIj
  have key := scr_exec hP okc hf (kn' := fun t' s' => ∃ j' π, I j' ∧ μ j' < μ j ∧ tells s0.nx π t' s' (T j') (S j')) (kx' := fun i t' s' => ∃ e π, q e ∧ isX s0.nx (o e) i t' s' π) (kr' := fun t' s' => ∃ e π, q e ∧ isR s0.nx (o e) t' s' π)
    (fun t s r h => by cases r <;> simp only [kN] at h; exact ⟨_, _, h⟩) (fun i t s r h => by cases r <;> simp only [kX] at h; exact ⟨_, _, h⟩) (fun t s r h => by cases r <;> simp only [kR] at h; exact ⟨_, _, h⟩) _ hr
  refine wp_mono (key C σ a' w' hR' ht' hd') ?_
  intro e a'' w'' hp
  cases e with
  | normal =>
    obtain ⟨t3, s3, σ3, hE3, ht3, hd3, hR3, j', π, hI', hm, hcn⟩ := hp
    obtain ⟨σ4, hE4, hR4, ht4⟩ := hcn.rel h1 hR.fresh (hE.trans hE3) hR3 ht3
    have hJ : J (μ j') a'' w'' := ⟨j', σ4, rfl, hE4, ht4, hd3, hR4, hI'⟩
    have := (hν ⟨_, hJ⟩).2 _ hJ
    exact ⟨⟨_, hJ⟩, by omega⟩
  | exit i =>
    obtain ⟨t3, s3, σ3, hE3, ht3, hd3, hR3, e, π, hq, hx⟩ := hp
    unfold isX at hx
    cases ho : o e with
    | x i' t' s' =>
      rw [ho] at hx
      obtain ⟨hi, hcn⟩ := condF hx
      have := beq_t hi
      subst this
      obtain ⟨σ4, hE4, hR4, ht4⟩ := hcn.rel h1 hR.fresh (hE.trans hE3) hR3 ht3
      exact ⟨t', s', σ4, hE4, ht4, hd3, hR4, e, hq, ho⟩
    | n _ _ => rw [ho] at hx; exact hx.elim
    | r _ _ => rw [ho] at hx; exact hx.elim
  | ret =>
    obtain ⟨t3, s3, σ3, hE3, ht3, hd3, hR3, e, π, hq, hx⟩ := hp
    unfold isR at hx
    cases ho : o e with
    | r t' s' =>
      rw [ho] at hx
      obtain ⟨σ4, hE4, hR4, ht4⟩ := tells.rel hx h1 hR.fresh (hE.trans hE3) hR3 ht3
      exact ⟨t', s', σ4, hE4, ht4, hd3, hR4, e, hq, ho⟩
    | n _ _ => rw [ho] at hx; exact hx.elim
    | x _ _ _ => rw [ho] at hx; exact hx.elim
  | _ => exact hp.elim

theorem pkF : PK Try.prog [41, 4000302] := ⟨by kernel_rfl, by kernel_rfl, good_of (by kernel_rfl), nonum_of (by kernel_rfl)⟩
theorem sp6 (x : Int) : x < 6 ∨ 6 ≤ x := by omega
theorem spP (x : Int) (n : Nat) : (∃ P : Nat, x = (P : Int) ∧ P < n) ∨ (x < 0 ∨ (n : Int) ≤ x) := by
  by_cases h : 0 ≤ x ∧ x < n
  · exact .inl ⟨x.toNat, by omega, by omega⟩
  · exact .inr (by omega)
theorem spS (k : Nat) : k = 0 ∨ (1 ≤ k ∧ k ≤ 32) ∨ 32 < k := by omega
theorem sp4 {T n : Nat} (h : T < n) (hn : n ≤ 4) : T = 0 ∨ T = 1 ∨ T = 2 ∨ T = 3 := by omega
theorem sp8 {c : Nat} (h : c ≤ 8) : c < 8 ∨ c = 8 := by omega
theorem sp1 (c : Nat) : c = 0 ∨ 1 ≤ c := by omega
section
variable {z : Nat → Nat → Int} {n : Nat} {a : Nat → Nat → Int} {s : Nat → Nat → ByteArray} {i : Nat}
theorem n_k (h : 6 ≤ a i 0) : ¬ okS z n a s i := fun g => by have := g.1; omega
theorem n_r (p : Nat) (h : a i 0 < 6) : ¬ (okR' n a i p ∧ 1 ≤ (qu z n a s i p).n) := fun g => by have := g.1.1; omega
theorem n_f (h : a i 1 < 0 ∨ (n : Int) ≤ a i 1) : ¬ okS z n a s i := fun g => by have g1 := g.2.1.1; have g2 := g.2.1.2; omega
theorem n_t (h : a i 2 < 0 ∨ (n : Int) ≤ a i 2) : ¬ okS z n a s i := fun g => by have g1 := g.2.2.1.1; have g2 := g.2.2.1.2; omega
theorem n_s (h : (s i 3).size = 0 ∨ 32 < (s i 3).size) : ¬ okS z n a s i := fun g => by have g1 := g.2.2.2.1.1; have g2 := g.2.2.2.1.2; omega
theorem n_d {F T : Nat} (hF : a i 1 = (F : Int)) (hT : a i 2 = (T : Int)) (h : ¬ z F 0 ≤ z T 0) : ¬ okS z n a s i := fun g => by
  have g1 := g.2.2.2.2.1; rw [hF, hT] at g1; exact h g1
theorem n_b {F T : Nat} (hF : a i 1 = (F : Int)) (hT : a i 2 = (T : Int)) (h : ¬ bits .andNot .i64 (z F 1) (z T 1) = 0) : ¬ okS z n a s i := fun g => by
  have g1 := g.2.2.2.2.2; rw [hF, hT] at g1; exact h g1
theorem y_s {F T : Nat} (hk : a i 0 < 6) (hFn : F < n) (hTn : T < n) (hF : a i 1 = (F : Int)) (hT : a i 2 = (T : Int)) (hs : 1 ≤ (s i 3).size ∧ (s i 3).size ≤ 32) (hd : z F 0 ≤ z T 0) (hb : bits .andNot .i64 (z F 1) (z T 1) = 0) : okS z n a s i := by
  refine ⟨hk, by omega, by omega, hs, ?_, ?_⟩
  · rw [hF, hT]; exact hd
  · rw [hF, hT]; exact hb
theorem o_t {T p : Nat} (hT : a i 2 = (T : Int)) (h : p ≠ T) : ¬ (okS z n a s i ∧ a i 2 = (p : Int)) := fun g => by have := g.2; omega
theorem r_t {T p : Nat} (hT : a i 2 = (T : Int)) (h : p ≠ T) : ¬ (okR' n a i p ∧ 1 ≤ (qu z n a s i p).n) := fun g => by have := g.1.2.1; omega
theorem r_o {p : Nat} (h : a i 2 < 0 ∨ (n : Int) ≤ a i 2) : ¬ (okR' n a i p ∧ 1 ≤ (qu z n a s i p).n) := fun g => by have g1 := g.1.2.1; have g2 := g.1.2.2; omega
theorem r_0 {T p : Nat} (hT : a i 2 = (T : Int)) (h0 : qc z n a s T i = 0) : ¬ (okR' n a i p ∧ 1 ≤ (qu z n a s i p).n) := fun g => by
  have g1 := g.1.2.1
  obtain rfl : p = T := by omega
  have : (qu z n a s i p).n = 0 := h0
  omega
end

set_option maxHeartbeats 4000000 in
theorem rG (z : Nat → Nat → Int) (n : Nat) (a : Nat → Nat → Int) (s : Nat → Nat → ByteArray) (m : Nat) (i K : Nat) (hn : n ≤ 4) (h1 : 1 ≤ n) (hKm : K ≤ m ∧ K ≤ 80 ∧ (K = m ∨ K = 80)) (hi : i ≤ K) (hz : ∀ P, P < n → 0 ≤ z P 0 ∧ z P 0 ≤ 3 ∧ 0 ≤ z P 1 ∧ z P 1 ≤ 15) (hp : LO Try.prog (lp Try.prog 3 1) (TP n m i 0) (SP z n a s m (qc z n a s) (qf z n a s) (qd z n a s) (qr z n a s) (i + 1)) (.x 2 (TP n m i (n + 2)) (SP z n a s m (qc z n a s) (qf z n a s) (qd z n a s) (qr z n a s) (i + 1)))) : ∃ eqt, PK Try.prog eqt ∧ ∃ r', exec (HS Try.prog eqt ctr) Try.prog (lp Try.prog 3 0) (TL n m i) (S z n a s m (qc z n a s) (qf z n a s) (qd z n a s) (qr z n a s) i) (kN 1004 (TL n m) (S z n a s m (qc z n a s) (qf z n a s) (qd z n a s) (qr z n a s)) (fun i => K - i) (fun i => i ≤ K) i) (kX 1004 (fun _ => True) fun _ => .x 0 (TL n m K) (S z n a s m (qc z n a s) (qf z n a s) (qd z n a s) (qr z n a s) K)) (kR 1004 (fun _ => True) fun _ => .n [] s0) r' := by
  rcases sp6 (a i 0) with hk | hk
  · rcases spP (a i 1) n with ⟨F, hFa, hF⟩ | hf
    · rcases spP (a i 2) n with ⟨T, hTa, hT⟩ | hf
      · rcases spS (s i 3).size with h | hsz | h
        · exact ⟨_, pk, rd_us z n a s m (qc z n a s) (qf z n a s) (qd z n a s) (qr z n a s) i K hn h1 hKm hi ⟨(qu_bd i 0).1, (qu_bd i 1).1, (qu_bd i 2).1, (qu_bd i 3).1⟩ hp hk (.inr (.inr (.inr (.inr (.inl h))))) (qu_same (fun g => n_s (.inl h) g.1) (n_r 0 hk)) (qu_same (fun g => n_s (.inl h) g.1) (n_r 1 hk)) (qu_same (fun g => n_s (.inl h) g.1) (n_r 2 hk)) (qu_same (fun g => n_s (.inl h) g.1) (n_r 3 hk))⟩
        · by_cases hd : z F 0 ≤ z T 0
          · by_cases hb1 : bits .andNot .i64 (z F 1) (z T 1) = 0
            · have hb2 := (an_iff (hz F hF).2.2 (hz T hT).2.2).1 hb1
              have hok := y_s hk hF hT hFa hTa hsz hd hb1
              rcases sp4 hT hn with rfl | rfl | rfl | rfl <;> rcases sp8 (qu_bd (z := z) (n := n) (a := a) (s := s) i _).1 with h8 | h8
              · exact ⟨_, pkF, rd_e0 z n a s m (qc z n a s) (qf z n a s) (qd z n a s) (qr z n a s) i K hn h1 hKm hi ⟨(qu_bd i 0).1, (qu_bd i 1).1, (qu_bd i 2).1, (qu_bd i 3).1⟩ hp hk F hF hFa (hz F hF) hsz hT hTa (hz _ hT) hd hb1 hb2 h8 (qu_enq hok hTa h8) (qu_same (o_t hTa (by decide)) (n_r 1 hk)) (qu_same (o_t hTa (by decide)) (n_r 2 hk)) (qu_same (o_t hTa (by decide)) (n_r 3 hk))⟩
              · exact ⟨_, pkF, rd_d0 z n a s m (qc z n a s) (qf z n a s) (qd z n a s) (qr z n a s) i K hn h1 hKm hi ⟨(qu_bd i 0).1, (qu_bd i 1).1, (qu_bd i 2).1, (qu_bd i 3).1⟩ hp hk F hF hFa (hz F hF) hsz hT hTa (hz _ hT) hd hb1 hb2 h8 (qu_bd i 0).2 (qu_drp hok hTa h8) (qu_same (o_t hTa (by decide)) (n_r 1 hk)) (qu_same (o_t hTa (by decide)) (n_r 2 hk)) (qu_same (o_t hTa (by decide)) (n_r 3 hk))⟩
              · exact ⟨_, pkF, rd_e1 z n a s m (qc z n a s) (qf z n a s) (qd z n a s) (qr z n a s) i K hn h1 hKm hi ⟨(qu_bd i 0).1, (qu_bd i 1).1, (qu_bd i 2).1, (qu_bd i 3).1⟩ hp hk F hF hFa (hz F hF) hsz hT hTa (hz _ hT) hd hb1 hb2 h8 (qu_enq hok hTa h8) (qu_same (o_t hTa (by decide)) (n_r 0 hk)) (qu_same (o_t hTa (by decide)) (n_r 2 hk)) (qu_same (o_t hTa (by decide)) (n_r 3 hk))⟩
              · exact ⟨_, pkF, rd_d1 z n a s m (qc z n a s) (qf z n a s) (qd z n a s) (qr z n a s) i K hn h1 hKm hi ⟨(qu_bd i 0).1, (qu_bd i 1).1, (qu_bd i 2).1, (qu_bd i 3).1⟩ hp hk F hF hFa (hz F hF) hsz hT hTa (hz _ hT) hd hb1 hb2 h8 (qu_bd i 1).2 (qu_drp hok hTa h8) (qu_same (o_t hTa (by decide)) (n_r 0 hk)) (qu_same (o_t hTa (by decide)) (n_r 2 hk)) (qu_same (o_t hTa (by decide)) (n_r 3 hk))⟩
              · exact ⟨_, pkF, rd_e2 z n a s m (qc z n a s) (qf z n a s) (qd z n a s) (qr z n a s) i K hn h1 hKm hi ⟨(qu_bd i 0).1, (qu_bd i 1).1, (qu_bd i 2).1, (qu_bd i 3).1⟩ hp hk F hF hFa (hz F hF) hsz hT hTa (hz _ hT) hd hb1 hb2 h8 (qu_enq hok hTa h8) (qu_same (o_t hTa (by decide)) (n_r 0 hk)) (qu_same (o_t hTa (by decide)) (n_r 1 hk)) (qu_same (o_t hTa (by decide)) (n_r 3 hk))⟩
              · exact ⟨_, pkF, rd_d2 z n a s m (qc z n a s) (qf z n a s) (qd z n a s) (qr z n a s) i K hn h1 hKm hi ⟨(qu_bd i 0).1, (qu_bd i 1).1, (qu_bd i 2).1, (qu_bd i 3).1⟩ hp hk F hF hFa (hz F hF) hsz hT hTa (hz _ hT) hd hb1 hb2 h8 (qu_bd i 2).2 (qu_drp hok hTa h8) (qu_same (o_t hTa (by decide)) (n_r 0 hk)) (qu_same (o_t hTa (by decide)) (n_r 1 hk)) (qu_same (o_t hTa (by decide)) (n_r 3 hk))⟩
              · exact ⟨_, pkF, rd_e3 z n a s m (qc z n a s) (qf z n a s) (qd z n a s) (qr z n a s) i K hn h1 hKm hi ⟨(qu_bd i 0).1, (qu_bd i 1).1, (qu_bd i 2).1, (qu_bd i 3).1⟩ hp hk F hF hFa (hz F hF) hsz hT hTa (hz _ hT) hd hb1 hb2 h8 (qu_enq hok hTa h8) (qu_same (o_t hTa (by decide)) (n_r 0 hk)) (qu_same (o_t hTa (by decide)) (n_r 1 hk)) (qu_same (o_t hTa (by decide)) (n_r 2 hk))⟩
              · exact ⟨_, pkF, rd_d3 z n a s m (qc z n a s) (qf z n a s) (qd z n a s) (qr z n a s) i K hn h1 hKm hi ⟨(qu_bd i 0).1, (qu_bd i 1).1, (qu_bd i 2).1, (qu_bd i 3).1⟩ hp hk F hF hFa (hz F hF) hsz hT hTa (hz _ hT) hd hb1 hb2 h8 (qu_bd i 3).2 (qu_drp hok hTa h8) (qu_same (o_t hTa (by decide)) (n_r 0 hk)) (qu_same (o_t hTa (by decide)) (n_r 1 hk)) (qu_same (o_t hTa (by decide)) (n_r 2 hk))⟩
            · have hb2 := fun h => hb1 ((an_iff (hz F hF).2.2 (hz T hT).2.2).2 h)
              exact ⟨_, pk, rd_n2 z n a s m (qc z n a s) (qf z n a s) (qd z n a s) (qr z n a s) i K hn h1 hKm hi ⟨(qu_bd i 0).1, (qu_bd i 1).1, (qu_bd i 2).1, (qu_bd i 3).1⟩ hp hk F hF hFa (hz F hF) hsz T hT hTa (hz T hT) hd hb1 hb2 (qu_same (fun g => n_b hFa hTa hb1 g.1) (n_r 0 hk)) (qu_same (fun g => n_b hFa hTa hb1 g.1) (n_r 1 hk)) (qu_same (fun g => n_b hFa hTa hb1 g.1) (n_r 2 hk)) (qu_same (fun g => n_b hFa hTa hb1 g.1) (n_r 3 hk))⟩
          · exact ⟨_, pk, rd_n1 z n a s m (qc z n a s) (qf z n a s) (qd z n a s) (qr z n a s) i K hn h1 hKm hi ⟨(qu_bd i 0).1, (qu_bd i 1).1, (qu_bd i 2).1, (qu_bd i 3).1⟩ hp hk F hF hFa (hz F hF) hsz T hT hTa (hz T hT) hd (qu_same (fun g => n_d hFa hTa hd g.1) (n_r 0 hk)) (qu_same (fun g => n_d hFa hTa hd g.1) (n_r 1 hk)) (qu_same (fun g => n_d hFa hTa hd g.1) (n_r 2 hk)) (qu_same (fun g => n_d hFa hTa hd g.1) (n_r 3 hk))⟩
        · exact ⟨_, pk, rd_us z n a s m (qc z n a s) (qf z n a s) (qd z n a s) (qr z n a s) i K hn h1 hKm hi ⟨(qu_bd i 0).1, (qu_bd i 1).1, (qu_bd i 2).1, (qu_bd i 3).1⟩ hp hk (.inr (.inr (.inr (.inr (.inr h))))) (qu_same (fun g => n_s (.inr h) g.1) (n_r 0 hk)) (qu_same (fun g => n_s (.inr h) g.1) (n_r 1 hk)) (qu_same (fun g => n_s (.inr h) g.1) (n_r 2 hk)) (qu_same (fun g => n_s (.inr h) g.1) (n_r 3 hk))⟩
      · exact ⟨_, pk, rd_us z n a s m (qc z n a s) (qf z n a s) (qd z n a s) (qr z n a s) i K hn h1 hKm hi ⟨(qu_bd i 0).1, (qu_bd i 1).1, (qu_bd i 2).1, (qu_bd i 3).1⟩ hp hk (hf.elim (fun h => .inr (.inr (.inl h))) (fun h => .inr (.inr (.inr (.inl h))))) (qu_same (fun g => n_t hf g.1) (n_r 0 hk)) (qu_same (fun g => n_t hf g.1) (n_r 1 hk)) (qu_same (fun g => n_t hf g.1) (n_r 2 hk)) (qu_same (fun g => n_t hf g.1) (n_r 3 hk))⟩
    · exact ⟨_, pk, rd_us z n a s m (qc z n a s) (qf z n a s) (qd z n a s) (qr z n a s) i K hn h1 hKm hi ⟨(qu_bd i 0).1, (qu_bd i 1).1, (qu_bd i 2).1, (qu_bd i 3).1⟩ hp hk (hf.elim (fun h => .inl h) (fun h => .inr (.inl h))) (qu_same (fun g => n_f hf g.1) (n_r 0 hk)) (qu_same (fun g => n_f hf g.1) (n_r 1 hk)) (qu_same (fun g => n_f hf g.1) (n_r 2 hk)) (qu_same (fun g => n_f hf g.1) (n_r 3 hk))⟩
  · rcases spP (a i 2) n with ⟨T, hTa, hT⟩ | hf
    · rcases sp4 hT hn with rfl | rfl | rfl | rfl <;> rcases sp1 (qc z n a s _ i) with h0 | h0
      · exact ⟨_, pkF, rd_z0 z n a s m (qc z n a s) (qf z n a s) (qd z n a s) (qr z n a s) i K hn h1 hKm hi ⟨(qu_bd i 0).1, (qu_bd i 1).1, (qu_bd i 2).1, (qu_bd i 3).1⟩ hp hk hT hTa (hz _ hT) h0 (qu_same (fun g => n_k hk g.1) (r_0 hTa h0)) (qu_same (fun g => n_k hk g.1) (r_0 hTa h0)) (qu_same (fun g => n_k hk g.1) (r_0 hTa h0)) (qu_same (fun g => n_k hk g.1) (r_0 hTa h0))⟩
      · exact ⟨_, pkF, rd_r0 z n a s m (qc z n a s) (qf z n a s) (qd z n a s) (qr z n a s) i K hn h1 hKm hi ⟨(qu_bd i 0).1, (qu_bd i 1).1, (qu_bd i 2).1, (qu_bd i 3).1⟩ hp hk hT hTa (hz _ hT) h0 (qu_rcv ⟨hk, hTa, hT⟩ h0) (qu_same (fun g => n_k hk g.1) (r_t hTa (by decide))) (qu_same (fun g => n_k hk g.1) (r_t hTa (by decide))) (qu_same (fun g => n_k hk g.1) (r_t hTa (by decide)))⟩
      · exact ⟨_, pkF, rd_z1 z n a s m (qc z n a s) (qf z n a s) (qd z n a s) (qr z n a s) i K hn h1 hKm hi ⟨(qu_bd i 0).1, (qu_bd i 1).1, (qu_bd i 2).1, (qu_bd i 3).1⟩ hp hk hT hTa (hz _ hT) h0 (qu_same (fun g => n_k hk g.1) (r_0 hTa h0)) (qu_same (fun g => n_k hk g.1) (r_0 hTa h0)) (qu_same (fun g => n_k hk g.1) (r_0 hTa h0)) (qu_same (fun g => n_k hk g.1) (r_0 hTa h0))⟩
      · exact ⟨_, pkF, rd_r1 z n a s m (qc z n a s) (qf z n a s) (qd z n a s) (qr z n a s) i K hn h1 hKm hi ⟨(qu_bd i 0).1, (qu_bd i 1).1, (qu_bd i 2).1, (qu_bd i 3).1⟩ hp hk hT hTa (hz _ hT) h0 (qu_rcv ⟨hk, hTa, hT⟩ h0) (qu_same (fun g => n_k hk g.1) (r_t hTa (by decide))) (qu_same (fun g => n_k hk g.1) (r_t hTa (by decide))) (qu_same (fun g => n_k hk g.1) (r_t hTa (by decide)))⟩
      · exact ⟨_, pkF, rd_z2 z n a s m (qc z n a s) (qf z n a s) (qd z n a s) (qr z n a s) i K hn h1 hKm hi ⟨(qu_bd i 0).1, (qu_bd i 1).1, (qu_bd i 2).1, (qu_bd i 3).1⟩ hp hk hT hTa (hz _ hT) h0 (qu_same (fun g => n_k hk g.1) (r_0 hTa h0)) (qu_same (fun g => n_k hk g.1) (r_0 hTa h0)) (qu_same (fun g => n_k hk g.1) (r_0 hTa h0)) (qu_same (fun g => n_k hk g.1) (r_0 hTa h0))⟩
      · exact ⟨_, pkF, rd_r2 z n a s m (qc z n a s) (qf z n a s) (qd z n a s) (qr z n a s) i K hn h1 hKm hi ⟨(qu_bd i 0).1, (qu_bd i 1).1, (qu_bd i 2).1, (qu_bd i 3).1⟩ hp hk hT hTa (hz _ hT) h0 (qu_rcv ⟨hk, hTa, hT⟩ h0) (qu_same (fun g => n_k hk g.1) (r_t hTa (by decide))) (qu_same (fun g => n_k hk g.1) (r_t hTa (by decide))) (qu_same (fun g => n_k hk g.1) (r_t hTa (by decide)))⟩
      · exact ⟨_, pkF, rd_z3 z n a s m (qc z n a s) (qf z n a s) (qd z n a s) (qr z n a s) i K hn h1 hKm hi ⟨(qu_bd i 0).1, (qu_bd i 1).1, (qu_bd i 2).1, (qu_bd i 3).1⟩ hp hk hT hTa (hz _ hT) h0 (qu_same (fun g => n_k hk g.1) (r_0 hTa h0)) (qu_same (fun g => n_k hk g.1) (r_0 hTa h0)) (qu_same (fun g => n_k hk g.1) (r_0 hTa h0)) (qu_same (fun g => n_k hk g.1) (r_0 hTa h0))⟩
      · exact ⟨_, pkF, rd_r3 z n a s m (qc z n a s) (qf z n a s) (qd z n a s) (qr z n a s) i K hn h1 hKm hi ⟨(qu_bd i 0).1, (qu_bd i 1).1, (qu_bd i 2).1, (qu_bd i 3).1⟩ hp hk hT hTa (hz _ hT) h0 (qu_rcv ⟨hk, hTa, hT⟩ h0) (qu_same (fun g => n_k hk g.1) (r_t hTa (by decide))) (qu_same (fun g => n_k hk g.1) (r_t hTa (by decide))) (qu_same (fun g => n_k hk g.1) (r_t hTa (by decide)))⟩
    · exact ⟨_, pk, rd_ur z n a s m (qc z n a s) (qf z n a s) (qd z n a s) (qr z n a s) i K hn h1 hKm hi ⟨(qu_bd i 0).1, (qu_bd i 1).1, (qu_bd i 2).1, (qu_bd i 3).1⟩ hp hk hf (qu_same (fun g => n_k hk g.1) (r_o hf)) (qu_same (fun g => n_k hk g.1) (r_o hf)) (qu_same (fun g => n_k hk g.1) (r_o hf)) (qu_same (fun g => n_k hk g.1) (r_o hf))⟩
theorem lG (z : Nat → Nat → Int) (n : Nat) (a : Nat → Nat → Int) (s : Nat → Nat → ByteArray) (m : Nat) (K : Nat) (hn : n ≤ 4) (h1 : 1 ≤ n) (hKm : K ≤ m ∧ K ≤ 80 ∧ (K = m ∨ K = 80)) (hz : ∀ P, P < n → 0 ≤ z P 0 ∧ z P 0 ≤ 3 ∧ 0 ≤ z P 1 ∧ z P 1 ≤ 15) : LO Try.prog (lp Try.prog 3 0) (TL n m 0) (SE z n a s m) (.x 0 (TL n m K) (S z n a s m (qc z n a s) (qf z n a s) (qd z n a s) (qr z n a s) K)) :=
  LQ.one (loop_any okc (by kernel_rfl) 1004 (TL n m) (S z n a s m (qc z n a s) (qf z n a s) (qd z n a s) (qr z n a s)) (fun i => K - i) (fun i => i ≤ K) (fun _ => True) (fun _ => .x 0 (TL n m K) (S z n a s m (qc z n a s) (qf z n a s) (qd z n a s) (qr z n a s) K)) (fun i hi => rG z n a s m i K hn h1 hKm hi hz (pl z n a s m (qc z n a s) (qf z n a s) (qd z n a s) (qr z n a s) (i + 1) i hn h1 ⟨(qu_bd (i + 1) 0).1, (qu_bd (i + 1) 1).1, (qu_bd (i + 1) 2).1, (qu_bd (i + 1) 3).1⟩)) (j0 := 0) (Nat.zero_le _) rfl rfl (π := []) (eG z n a s m hn))

end Go.Proofs.Ytkekeomkbcghnaa.nics
