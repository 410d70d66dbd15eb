/- The walk of caissonlaw20.NicRows: for every list of numbers it answers true. No condition. -/
import Derived.Test.YtkekeomkbcghnaaNicR00
import Derived.Test.YtkekeomkbcghnaaNicR01
import Derived.Test.YtkekeomkbcghnaaNicR02
import Derived.Test.YtkekeomkbcghnaaNicR10
import Derived.Test.YtkekeomkbcghnaaNicR11
import Derived.Test.YtkekeomkbcghnaaNicR12
import Derived.Test.YtkekeomkbcghnaaNicR20
import Derived.Test.YtkekeomkbcghnaaNicR21
import Derived.Test.YtkekeomkbcghnaaNicR22
namespace Go.Proofs.Ytkekeomkbcghnaa.nicRows
open Go Go.Proofs Go.AE Go.RowKit nc
set_option maxRecDepth 100000
set_option linter.unusedVariables false
set_option linter.unusedSimpArgs false
/-- what the three queues are behind j acts -/
structure Q where
  n : Nat → Nat
  f : Nat → Nat → Int
  d : Nat → Nat → ByteArray
  r : Nat → Int
def upN {α : Type} (g : Nat → α) (p : Nat) (x : α) : Nat → α := fun q => if q = p then x else g q
def st (z : Nat → Nat → Int) (j : Nat) (s : Q) : Q :=
  let fr := z j 0 % 1024 % 3; let p := Int.toNat (z j 0 / 4 % 1024 % 3)
  if z j 0 / 16 % 4 = 3 then (if s.n p = 0 then s else { s with n := upN s.n p (s.n p - 1), f := upN s.f p (fun k => s.f p (k + 1)), d := upN s.d p (fun k => s.d p (k + 1)) })
  else if p = 0 ∧ ¬ fr = 0 then s
  else if s.n p < 8 then { s with n := upN s.n p (s.n p + 1), f := upN s.f p (fun k => if k < s.n p then s.f p k else fr), d := upN s.d p (fun k => if k < s.n p then s.d p k else dat j) }
  else { s with r := upN s.r p (s.r p + 1) }
def qs (z : Nat → Nat → Int) : Nat → Q
  | 0 => ⟨fun _ => 0, fun _ _ => 0, fun _ _ => ⟨#[]⟩, fun _ => 0⟩
  | j + 1 => st z j (qs z j)
theorem qs_s (z : Nat → Nat → Int) (j : Nat) : qs z (j + 1) = st z j (qs z j) := rfl
theorem up_y {α : Type} (g : Nat → α) (p : Nat) (x : α) : upN g p x p = x := if_pos rfl
theorem up_n {α : Type} (g : Nat → α) (p : Nat) (x : α) {q : Nat} (h : q ≠ p) : upN g p x q = g q := if_neg h
theorem qs_bd (z : Nat → Nat → Int) : ∀ j p, (qs z j).n p ≤ 8 ∧ 0 ≤ (qs z j).r p ∧ (qs z j).r p ≤ j
  | 0, p => ⟨by show 0 ≤ 8; omega, by show (0 : Int) ≤ 0; omega, by show (0 : Int) ≤ 0; omega⟩
  | j + 1, p => by
    have ih := qs_bd z j p
    have ihq := qs_bd z j (Int.toNat (z j 0 / 4 % 1024 % 3))
    rw [qs_s]; unfold st; dsimp only
    generalize Int.toNat (z j 0 / 4 % 1024 % 3) = q at *
    split
    · split
      · omega
      · refine ⟨?_, ?_, ?_⟩ <;> dsimp only [upN] <;> (try split) <;> omega
    · split
      · omega
      · split
        · refine ⟨?_, ?_, ?_⟩ <;> dsimp only [upN] <;> (try split) <;> omega
        · refine ⟨?_, ?_, ?_⟩ <;> dsimp only [upN] <;> (try split) <;> omega
theorem q_oth {z : Nat → Nat → Int} {j T p : Nat} (hT : z j 0 / 4 % 1024 % 3 = T) (hp : p ≠ T) : (qs z (j + 1)).n p = (qs z j).n p ∧ (∀ k, (qs z (j + 1)).f p k = (qs z j).f p k) ∧ (∀ k, (qs z (j + 1)).d p k = (qs z j).d p k) ∧ (qs z (j + 1)).r p = (qs z j).r p := by
  have e : Int.toNat (z j 0 / 4 % 1024 % 3) = T := by omega
  rw [qs_s]; unfold st; dsimp only; rw [e]
  split
  · split
    · exact ⟨rfl, fun _ => rfl, fun _ => rfl, rfl⟩
    · exact ⟨up_n _ _ _ hp, fun k => congrFun (up_n _ _ _ hp) k, fun k => congrFun (up_n _ _ _ hp) k, rfl⟩
  · split
    · exact ⟨rfl, fun _ => rfl, fun _ => rfl, rfl⟩
    · split
      · exact ⟨up_n _ _ _ hp, fun k => congrFun (up_n _ _ _ hp) k, fun k => congrFun (up_n _ _ _ hp) k, rfl⟩
      · exact ⟨rfl, fun _ => rfl, fun _ => rfl, up_n _ _ _ hp⟩
theorem q_k0 {z : Nat → Nat → Int} {j T : Nat} (hT : z j 0 / 4 % 1024 % 3 = T) (h : z j 0 / 16 % 4 = 3) (h2 : (((qs z j).n T : Nat) : Int) = 0) : (qs z (j + 1)).n T = (qs z j).n T ∧ (∀ k, (qs z (j + 1)).f T k = (qs z j).f T k) ∧ (∀ k, (qs z (j + 1)).d T k = (qs z j).d T k) ∧ (qs z (j + 1)).r T = (qs z j).r T := by
  have e : Int.toNat (z j 0 / 4 % 1024 % 3) = T := by omega
  rw [qs_s]; unfold st; dsimp only; rw [e, if_pos h, if_pos (by omega)]
  exact ⟨rfl, fun _ => rfl, fun _ => rfl, rfl⟩
theorem q_k1 {z : Nat → Nat → Int} {j T : Nat} (hT : z j 0 / 4 % 1024 % 3 = T) (h : z j 0 / 16 % 4 = 3) (h2 : ¬ (((qs z j).n T : Nat) : Int) = 0) : (qs z (j + 1)).n T = (qs z j).n T - 1 ∧ (∀ k, (qs z (j + 1)).f T k = (qs z j).f T (k + 1)) ∧ (∀ k, (qs z (j + 1)).d T k = (qs z j).d T (k + 1)) ∧ (qs z (j + 1)).r T = (qs z j).r T := by
  have e : Int.toNat (z j 0 / 4 % 1024 % 3) = T := by omega
  rw [qs_s]; unfold st; dsimp only; rw [e, if_pos h, if_neg (by omega)]
  exact ⟨up_y _ _ _, fun k => congrFun (up_y _ _ _) k, fun k => congrFun (up_y _ _ _) k, rfl⟩
theorem q_k4 {z : Nat → Nat → Int} {j : Nat} (hF : ¬ z j 0 % 1024 % 3 = 0) (hT : z j 0 / 4 % 1024 % 3 = 0) (h : ¬ z j 0 / 16 % 4 = 3) : (qs z (j + 1)).n 0 = (qs z j).n 0 ∧ (∀ k, (qs z (j + 1)).f 0 k = (qs z j).f 0 k) ∧ (∀ k, (qs z (j + 1)).d 0 k = (qs z j).d 0 k) ∧ (qs z (j + 1)).r 0 = (qs z j).r 0 := by
  have e : Int.toNat (z j 0 / 4 % 1024 % 3) = 0 := by omega
  rw [qs_s]; unfold st; dsimp only; rw [e, if_neg h, if_pos ⟨rfl, hF⟩]
  exact ⟨rfl, fun _ => rfl, fun _ => rfl, rfl⟩
theorem q_k2 {z : Nat → Nat → Int} {j T : Nat} {F : Int} (hF : z j 0 % 1024 % 3 = F) (hT : z j 0 / 4 % 1024 % 3 = T) (hd : ¬ (T = 0 ∧ ¬ F = 0)) (h : ¬ z j 0 / 16 % 4 = 3) (h2 : 8 ≤ (((qs z j).n T : Nat) : Int)) : (qs z (j + 1)).n T = (qs z j).n T ∧ (∀ k, (qs z (j + 1)).f T k = (qs z j).f T k) ∧ (∀ k, (qs z (j + 1)).d T k = (qs z j).d T k) ∧ (qs z (j + 1)).r T = (qs z j).r T + 1 := by
  have e : Int.toNat (z j 0 / 4 % 1024 % 3) = T := by omega
  rw [qs_s]; unfold st; dsimp only; rw [e, if_neg h, hF, if_neg hd, if_neg (by omega)]
  exact ⟨rfl, fun _ => rfl, fun _ => rfl, up_y _ _ _⟩
theorem q_k3 {z : Nat → Nat → Int} {j T : Nat} {F : Int} (hF : z j 0 % 1024 % 3 = F) (hT : z j 0 / 4 % 1024 % 3 = T) (hd : ¬ (T = 0 ∧ ¬ F = 0)) (h : ¬ z j 0 / 16 % 4 = 3) (h2 : (((qs z j).n T : Nat) : Int) < 8) : (qs z (j + 1)).n T = (qs z j).n T + 1 ∧ (∀ k, (qs z (j + 1)).f T k = if k < (qs z j).n T then (qs z j).f T k else F) ∧ (∀ k, (qs z (j + 1)).d T k = if k < (qs z j).n T then (qs z j).d T k else dat j) ∧ (qs z (j + 1)).r T = (qs z j).r T := by
  have e : Int.toNat (z j 0 / 4 % 1024 % 3) = T := by omega
  rw [qs_s]; unfold st; dsimp only; rw [e, if_neg h, hF, if_neg hd, if_pos (by omega)]
  exact ⟨up_y _ _ _, fun k => congrFun (up_y _ _ _) k, fun k => congrFun (up_y _ _ _) k, rfl⟩
def TZ (len : Nat) : List SV := fr 166 [(0, .sl 0 0 len len false), (2, .bool false), (3, .ptr 8 0 0), (5, .ptr 72 0 0), (6, .ptr 73 0 0), (7, .int .i64 0)]
def SZ (z : Nat → Nat → Int) (len : Nat) : St := { h := [(60, 0, .flat 4 false [.int .i64 0, .int .i64 0, .nils, .int .i64 0, .int .i64 1, .int .i64 0, .nils, .int .i64 0, .int .i64 1, .int .i64 0, .nils, .int .i64 0]), (72, 0, .flat 1 false [.nils, .nils, .nils]), (73, 0, .flat 1 false [.int .i64 0, .int .i64 0, .int .i64 0]), (8, 0, .flat 1 false [.sl 60 0 3 3 false]), (0, 0, .fam 1 true len fun k => rowN z k 1 0)], nx := 74, ck := 1, st := 1 }
theorem loop (z : Nat → Nat → Int) (len : Nat) (hl : len ≤ 9223372036854775807) : LO Try.prog (lp Try.prog 4 0) (TZ len) (SZ z len) (.x 0 (TT len (min len 60)) (SS z len (fun p j => (qs z j).n p) (fun p j => (qs z j).f p) (fun p j => (qs z j).d p) (fun p j => (qs z j).r p) (min len 60))) := by
  refine LQ.one (loop_scr2 pk okc (by kernel_rfl) 74 (TT len) (SS z len (fun p j => (qs z j).n p) (fun p j => (qs z j).f p) (fun p j => (qs z j).d p) (fun p j => (qs z j).r p)) (fun i => min len 60 - i) (fun i => i ≤ min len 60) (fun _ => True) (fun _ => .x 0 (TT len (min len 60)) (SS z len (fun p j => (qs z j).n p) (fun p j => (qs z j).f p) (fun p j => (qs z j).d p) (fun p j => (qs z j).r p) (min len 60))) (fun i hi => ?_) (j0 := 0) (Nat.zero_le _) rfl rfl (π := []) ?_)
  · have b0 := qs_bd z i 0
    have b1 := qs_bd z i 1
    have b2 := qs_bd z i 2
    have hF : z i 0 % 1024 % 3 = 0 ∨ z i 0 % 1024 % 3 = 1 ∨ z i 0 % 1024 % 3 = 2 := by omega
    have hT : z i 0 / 4 % 1024 % 3 = 0 ∨ z i 0 / 4 % 1024 % 3 = 1 ∨ z i 0 / 4 % 1024 % 3 = 2 := by omega
    have hn : (qs z i).n 0 ≤ 8 ∧ (qs z i).n 1 ≤ 8 ∧ (qs z i).n 2 ≤ 8 := ⟨b0.1, b1.1, b2.1⟩
    have hr : (0 ≤ (qs z i).r 0 ∧ (qs z i).r 0 ≤ i) ∧ (0 ≤ (qs z i).r 1 ∧ (qs z i).r 1 ≤ i) ∧ (0 ≤ (qs z i).r 2 ∧ (qs z i).r 2 ≤ i) := ⟨b0.2, b1.2, b2.2⟩
    rcases hF with hF | hF | hF <;> rcases hT with hT | hT | hT
    · exact round00 z len (fun p j => (qs z j).n p) (fun p j => (qs z j).f p) (fun p j => (qs z j).d p) (fun p j => (qs z j).r p) hl i hi (fun _ => hF) (fun _ => hT) hn hr (fun p hp _ _ => q_oth (T := 0) hT hp) (fun _ _ h h2 => q_k0 (T := 0) hT h h2) (fun _ _ h h2 => q_k1 (T := 0) hT h h2) (fun _ _ h h2 => q_k2 (T := 0) (F := 0) hF hT (by omega) h h2) (fun _ _ h h2 => q_k3 (T := 0) (F := 0) hF hT (by omega) h h2)
    · exact round01 z len (fun p j => (qs z j).n p) (fun p j => (qs z j).f p) (fun p j => (qs z j).d p) (fun p j => (qs z j).r p) hl i hi (fun _ => hF) (fun _ => hT) hn hr (fun p hp _ _ => q_oth (T := 1) hT hp) (fun _ _ h h2 => q_k0 (T := 1) hT h h2) (fun _ _ h h2 => q_k1 (T := 1) hT h h2) (fun _ _ h h2 => q_k2 (T := 1) (F := 0) hF hT (by omega) h h2) (fun _ _ h h2 => q_k3 (T := 1) (F := 0) hF hT (by omega) h h2)
    · exact round02 z len (fun p j => (qs z j).n p) (fun p j => (qs z j).f p) (fun p j => (qs z j).d p) (fun p j => (qs z j).r p) hl i hi (fun _ => hF) (fun _ => hT) hn hr (fun p hp _ _ => q_oth (T := 2) hT hp) (fun _ _ h h2 => q_k0 (T := 2) hT h h2) (fun _ _ h h2 => q_k1 (T := 2) hT h h2) (fun _ _ h h2 => q_k2 (T := 2) (F := 0) hF hT (by omega) h h2) (fun _ _ h h2 => q_k3 (T := 2) (F := 0) hF hT (by omega) h h2)
    · exact round10 z len (fun p j => (qs z j).n p) (fun p j => (qs z j).f p) (fun p j => (qs z j).d p) (fun p j => (qs z j).r p) hl i hi (fun _ => hF) (fun _ => hT) hn hr (fun p hp _ _ => q_oth (T := 0) hT hp) (fun _ _ h h2 => q_k0 (T := 0) hT h h2) (fun _ _ h h2 => q_k1 (T := 0) hT h h2) (fun _ _ h => q_k4 (by omega) hT h)
    · exact round11 z len (fun p j => (qs z j).n p) (fun p j => (qs z j).f p) (fun p j => (qs z j).d p) (fun p j => (qs z j).r p) hl i hi (fun _ => hF) (fun _ => hT) hn hr (fun p hp _ _ => q_oth (T := 1) hT hp) (fun _ _ h h2 => q_k0 (T := 1) hT h h2) (fun _ _ h h2 => q_k1 (T := 1) hT h h2) (fun _ _ h h2 => q_k2 (T := 1) (F := 1) hF hT (by omega) h h2) (fun _ _ h h2 => q_k3 (T := 1) (F := 1) hF hT (by omega) h h2)
    · exact round12 z len (fun p j => (qs z j).n p) (fun p j => (qs z j).f p) (fun p j => (qs z j).d p) (fun p j => (qs z j).r p) hl i hi (fun _ => hF) (fun _ => hT) hn hr (fun p hp _ _ => q_oth (T := 2) hT hp) (fun _ _ h h2 => q_k0 (T := 2) hT h h2) (fun _ _ h h2 => q_k1 (T := 2) hT h h2) (fun _ _ h h2 => q_k2 (T := 2) (F := 1) hF hT (by omega) h h2) (fun _ _ h h2 => q_k3 (T := 2) (F := 1) hF hT (by omega) h h2)
    · exact round20 z len (fun p j => (qs z j).n p) (fun p j => (qs z j).f p) (fun p j => (qs z j).d p) (fun p j => (qs z j).r p) hl i hi (fun _ => hF) (fun _ => hT) hn hr (fun p hp _ _ => q_oth (T := 0) hT hp) (fun _ _ h h2 => q_k0 (T := 0) hT h h2) (fun _ _ h h2 => q_k1 (T := 0) hT h h2) (fun _ _ h => q_k4 (by omega) hT h)
    · exact round21 z len (fun p j => (qs z j).n p) (fun p j => (qs z j).f p) (fun p j => (qs z j).d p) (fun p j => (qs z j).r p) hl i hi (fun _ => hF) (fun _ => hT) hn hr (fun p hp _ _ => q_oth (T := 1) hT hp) (fun _ _ h h2 => q_k0 (T := 1) hT h h2) (fun _ _ h h2 => q_k1 (T := 1) hT h h2) (fun _ _ h h2 => q_k2 (T := 1) (F := 2) hF hT (by omega) h h2) (fun _ _ h h2 => q_k3 (T := 1) (F := 2) hF hT (by omega) h h2)
    · exact round22 z len (fun p j => (qs z j).n p) (fun p j => (qs z j).f p) (fun p j => (qs z j).d p) (fun p j => (qs z j).r p) hl i hi (fun _ => hF) (fun _ => hT) hn hr (fun p hp _ _ => q_oth (T := 2) hT hp) (fun _ _ h h2 => q_k0 (T := 2) hT h h2) (fun _ _ h h2 => q_k1 (T := 2) hT h h2) (fun _ _ h h2 => q_k2 (T := 2) (F := 2) hF hT (by omega) h h2) (fun _ _ h h2 => q_k3 (T := 2) (F := 2) hF hT (by omega) h h2)
  refine Go.AE.kchange (b := ((0 = 0 ∧ len = len ∧ len ≤ len ∧ len ≤ len) ∧ Bool.false = Bool.false ∧ (0 = 0 ∧ 0 = 0) ∧ (0 = 0 ∧ 0 = 0) ∧ (0 = 0 ∧ 0 = 0) ∧ (0 : Int) = (0 : Int) ∧ True) ∧ Q.n (qs z 0) 0 = 0 ∧ Q.n (qs z 0) 1 = 0 ∧ Q.n (qs z 0) 2 = 0 ∧ Q.n (qs z 0) 0 = 0 ∧ Q.n (qs z 0) 1 = 0 ∧ Q.n (qs z 0) 2 = 0 ∧ ((0 : Int) = (0 : Int) ∧ (0 : Int) = (0 : Int) ∧ (Q.n (qs z 0) 0 = 0 ∧ Q.n (qs z 0) 0 = 0) ∧ (0 : Int) = Q.r (qs z 0) 0 ∧ (1 : Int) = (1 : Int) ∧ (0 : Int) = (0 : Int) ∧ (Q.n (qs z 0) 1 = 0 ∧ Q.n (qs z 0) 1 = 0) ∧ (0 : Int) = Q.r (qs z 0) 1 ∧ (1 : Int) = (1 : Int) ∧ (0 : Int) = (0 : Int) ∧ (Q.n (qs z 0) 2 = 0 ∧ Q.n (qs z 0) 2 = 0) ∧ (0 : Int) = Q.r (qs z 0) 2 ∧ True) ∧ ((Q.n (qs z 0) 0 = 0 ∧ Q.n (qs z 0) 0 = 0) ∧ (Q.n (qs z 0) 1 = 0 ∧ Q.n (qs z 0) 1 = 0) ∧ (Q.n (qs z 0) 2 = 0 ∧ Q.n (qs z 0) 2 = 0) ∧ True) ∧ ((0 : Int) = Q.r (qs z 0) 0 ∧ (0 : Int) = Q.r (qs z 0) 1 ∧ (0 : Int) = Q.r (qs z 0) 2 ∧ True) ∧ ((0 = 0 ∧ 3 = 3 ∧ 3 ≤ 3 ∧ 3 ≤ 3) ∧ True) ∧ (len ≤ len ∧ (∀ (jj0 : Nat), (jj0 < len → True ∧ z jj0 0 = z jj0 0 ∧ True))) ∧ True) (by kernel_rfl) ?_
  repeat' (first | (refine And.intro ?_ ?_) | (with_reducible intro hh; (try simp (disch := omega) only [decide_eq_true_eq, decide_eq_false_iff_not, Bool.and_eq_true, Bool.and_eq_false_imp, Bool.not_eq_true', Bool.not_eq_false', reduceCtorEq, or_false, or_true, Bool.or_eq_true, Bool.or_eq_false_iff, Int.not_lt, Int.not_le, beq_iff_eq, beq_eq_false_iff_ne, Nat.zero_add, Nat.mul_one, Nat.sub_zero, Int.toNat_natCast, decide_true, decide_false, cond_true, cond_false, wrap_id, Bool.true_and, Bool.and_true, true_and, and_true, and_self, Bool.not_true, Bool.not_false, mask1023, mask3, fdiv_nn, i64_bits, tmod_nn, tdiv_nn, Int.toNat_zero, Int.toNat_one, tn2, seqd, seqB_self, dsz, dsz2, beq_self_eq_true, fO_rM, dO_rM, sameM_self] at hh)))
  all_goals (first | with_reducible rfl | exact True.intro | (first | with_reducible assumption | omega | (simp only [decide_eq_true_eq, decide_eq_false_iff_not, Bool.and_eq_true, Bool.and_eq_false_imp, Bool.not_eq_true', Bool.not_eq_false', reduceCtorEq, or_false, or_true, Bool.or_eq_true, Bool.or_eq_false_iff, Int.not_lt, Int.not_le, beq_iff_eq, beq_eq_false_iff_ne]; omega) | (simp (disch := omega) only [decide_eq_true_eq, decide_eq_false_iff_not, Bool.and_eq_true, Bool.and_eq_false_imp, Bool.not_eq_true', Bool.not_eq_false', reduceCtorEq, or_false, or_true, Bool.or_eq_true, Bool.or_eq_false_iff, Int.not_lt, Int.not_le, beq_iff_eq, beq_eq_false_iff_ne, Nat.zero_add, Nat.mul_one, Nat.sub_zero, Int.toNat_natCast, decide_true, decide_false, cond_true, cond_false, wrap_id, Bool.true_and, Bool.and_true, true_and, and_true, and_self, Bool.not_true, Bool.not_false, mask1023, mask3, fdiv_nn, i64_bits, tmod_nn, tdiv_nn, Int.toNat_zero, Int.toNat_one, tn2, seqd, seqB_self, dsz, dsz2, beq_self_eq_true, fO_rM, dO_rM, sameM_self]; first | done | omega) | omega) | rfl | trace_state)
theorem main (z : Nat → Nat → Int) (len : Nat) (p : Pl) (T : List SV) (S : St) (hL : LO Try.prog (lp Try.prog 4 0) (TZ len) (SZ z len) (.x 0 (TT len (min len 60)) (SS z len (fun p j => (qs z j).n p) (fun p j => (qs z j).f p) (fun p j => (qs z j).d p) (fun p j => (qs z j).r p) (min len 60)))) :
    ∃ r, callK (HS Try.prog [41] ctr) Try.prog 4 [.sl 0 0 len len false] (sOf [(p, .fam 1 true len fun i => rowN z i 1 0)]) kTrue r := by
  refine ⟨.zn 8 <| .U <| .zn 48 <| .U <| .zn 17 <| .L (TZ len) (SZ z len) (Go.AE.Out.x 0 (TT len (Min.min len 60)) (SS z len (fun (p j : Nat) => Q.n (qs z j) p) (fun (p j : Nat) => Q.f (qs z j) p) (fun (p j : Nat) => Q.d (qs z j) p) (fun (p j : Nat) => Q.r (qs z j) p) (Min.min len 60))) <| .E (0) [], Go.AE.kchange (b := (True) ∧
 (((0 = 0 ∧ len = len ∧ len ≤ len ∧ len ≤ len) ∧ Bool.false = Bool.false ∧ (0 = 0 ∧ 0 = 0) ∧ (0 = 0 ∧ 0 = 0) ∧ (0 = 0 ∧ 0 = 0) ∧ (0 : Int) = (0 : Int) ∧ True) ∧ ((0 : Int) = (0 : Int) ∧ (0 : Int) = (0 : Int) ∧ True ∧ (0 : Int) = (0 : Int) ∧ (1 : Int) = (1 : Int) ∧ (0 : Int) = (0 : Int) ∧ True ∧ (0 : Int) = (0 : Int) ∧ (1 : Int) = (1 : Int) ∧ (0 : Int) = (0 : Int) ∧ True ∧ (0 : Int) = (0 : Int) ∧ True) ∧ (True ∧ True ∧ True ∧ True) ∧ ((0 : Int) = (0 : Int) ∧ (0 : Int) = (0 : Int) ∧ (0 : Int) = (0 : Int) ∧ True) ∧ ((0 = 0 ∧ 3 = 3 ∧ 3 ≤ 3 ∧ 3 ≤ 3) ∧ True) ∧ (len ≤ len ∧ (∀ (jj0 : Nat), (jj0 < len → True ∧ z jj0 0 = z jj0 0 ∧ True))) ∧ True) ∧
 LO (Go.Proofs.Try.prog) (Go.AE.lp Go.Proofs.Try.prog 4 0) (TZ len) (SZ z len) (Go.AE.Out.x 0 (TT len (Min.min len 60)) (SS z len (fun (p j : Nat) => Q.n (qs z j) p) (fun (p j : Nat) => Q.f (qs z j) p) (fun (p j : Nat) => Q.d (qs z j) p) (fun (p j : Nat) => Q.r (qs z j) p) (Min.min len 60))) ∧
 Bool.true = Bool.true) (by kernel_rfl) ?_⟩
  repeat' (first | (with_reducible exact hL) | (refine And.intro ?_ ?_) | (with_reducible intro hh; (try simp (disch := omega) only [decide_eq_true_eq, decide_eq_false_iff_not, Bool.and_eq_true, Bool.and_eq_false_imp, Bool.not_eq_true', Bool.not_eq_false', reduceCtorEq, or_false, or_true, Bool.or_eq_true, Bool.or_eq_false_iff, Int.not_lt, Int.not_le, beq_iff_eq, beq_eq_false_iff_ne, Nat.zero_add, Nat.mul_one, Nat.sub_zero, Int.toNat_natCast, decide_true, decide_false, cond_true, cond_false, wrap_id, Bool.true_and, Bool.and_true, true_and, and_true, and_self, Bool.not_true, Bool.not_false, mask1023, mask3, fdiv_nn, i64_bits, tmod_nn, tdiv_nn, Int.toNat_zero, Int.toNat_one, tn2, seqd, seqB_self, dsz, dsz2, beq_self_eq_true, fO_rM, dO_rM, sameM_self] at hh)))
  all_goals (first | with_reducible rfl | exact True.intro | (first | with_reducible assumption | omega | (simp only [decide_eq_true_eq, decide_eq_false_iff_not, Bool.and_eq_true, Bool.and_eq_false_imp, Bool.not_eq_true', Bool.not_eq_false', reduceCtorEq, or_false, or_true, Bool.or_eq_true, Bool.or_eq_false_iff, Int.not_lt, Int.not_le, beq_iff_eq, beq_eq_false_iff_ne]; omega) | (simp (disch := omega) only [decide_eq_true_eq, decide_eq_false_iff_not, Bool.and_eq_true, Bool.and_eq_false_imp, Bool.not_eq_true', Bool.not_eq_false', reduceCtorEq, or_false, or_true, Bool.or_eq_true, Bool.or_eq_false_iff, Int.not_lt, Int.not_le, beq_iff_eq, beq_eq_false_iff_ne, Nat.zero_add, Nat.mul_one, Nat.sub_zero, Int.toNat_natCast, decide_true, decide_false, cond_true, cond_false, wrap_id, Bool.true_and, Bool.and_true, true_and, and_true, and_self, Bool.not_true, Bool.not_false, mask1023, mask3, fdiv_nn, i64_bits, tmod_nn, tdiv_nn, Int.toNat_zero, Int.toNat_one, tn2, seqd, seqB_self, dsz, dsz2, beq_self_eq_true, fO_rM, dO_rM, sameM_self]; first | done | omega) | omega) | rfl | trace_state)
theorem walk (a : Option Addr) (len cap : Nat) (zi : Nat → Nat → Int) (zs : Nat → Nat → ByteArray) (zb : Nat → Nat → Bool) (w : World) (hin : IsIn 1 w a len cap (fun i => kv zi zs zb i [.int .i64] 0)) (hle : len ≤ cap) (hcm : cap ≤ maxLen)
    (hwf : ∀ i j, i < len → (∀ k, [Kd.int .i64][j]? = some (.int k) → (Lit.int k (zi i j)).wf = true) ∧ ([Kd.int .i64][j]? = some .str → (zs i j).size ≤ maxLen)) :
    Calls Try.prog 4 #[.slice a len cap] w fun e w' => e = .returned (.bool true) ∧ Below w.heap.size w w' := by
  obtain ⟨p, hp, hv⟩ := in_any hin hle
  unfold maxLen at hcm
  refine law_of [(p, _)] (fun e h => by simp at h; subst h; exact ⟨hp, rfl⟩) (VRs.cons (hv _ 0 rfl) VRs.nil) (scr_true pk okc ?_)
  exact main zi len p [] s0 (loop zi len (by omega))

end Go.Proofs.Ytkekeomkbcghnaa.nicRows
