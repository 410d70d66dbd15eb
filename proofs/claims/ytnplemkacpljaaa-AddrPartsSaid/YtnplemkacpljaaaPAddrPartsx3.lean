-- PRINTED BY print.sh 35421559b90ae4d0a3588c463048766b98c2df88dd9212a6774a882060cdf62d: not written by this session
import Derived.Test.YtnplemkacpljaaaPAddrPartsx0
import Derived.Test.YtnplemkacpljaaaPAddrPartsx2
namespace Go.Proofs.Ytnplemkacpljaaa.PAddrParts
open Go.RowKit Go.Proofs.YtnplemkacpljaaaW.PrintWords Go.Proofs.YtnplemkacpljaaaW.PrintLast Go.Proofs.YtnplemkacpljaaaW.PrintMore
attribute [local go_sem] max2_int min2_int max_two min_two max_three min_three max_four min_four   -- for this text's walks alone
set_option linter.unusedVariables false
set_option linter.unusedSimpArgs false

/-! ### caissonlaw1_AddrParts: function 6 -/
mutual
def caissonlaw1_AddrParts.j0 : Nat → Int → Int → Int → List (S35) → List (S35) → List (S35) → Bool → Option (Bool)
  | 0, _, _, _, _, _, _, _ => none
  | k + 1, x7, x8, x9, x10, x12, x14, x67 => if x67 = true then (some false) else (if (Int.tmod (wrap64 (x7 + x9)) 64) = 0 then (caissonlaw1_AddrParts.j1 k x8 x10 x12 x14 false) else (if x9 > 0 then (caissonlaw1_AddrParts.j1 k x8 x10 x12 x14 (decide (x9 < x8))) else (caissonlaw1_AddrParts.j1 k x8 x10 x12 x14 false)))
def caissonlaw1_AddrParts.j1 : Nat → Int → List (S35) → List (S35) → List (S35) → Bool → Option (Bool)
  | 0, _, _, _, _, _ => none
  | k + 1, x8, x10, x12, x14, x16 => if x16 = true then (caissonlaw1_AddrParts.j2 k x8 x10 (wrap64 ((wrap64 ((x12.length : Int) + (x14.length : Int))) - 1))) else (caissonlaw1_AddrParts.j2 k x8 x10 (wrap64 ((x12.length : Int) + (x14.length : Int))))
def caissonlaw1_AddrParts.j2 : Nat → Int → List (S35) → Int → Option (Bool)
  | 0, _, _, _ => none
  | k + 1, x8, x10, x17 => caissonlaw1_AddrParts.l0 k x8 x10 x17 0 0
def caissonlaw1_AddrParts.l0 : Nat → Int → List (S35) → Int → Int → Int → Option (Bool)
  | 0, _, _, _, _, _ => none
  | k + 1, x8, x10, x17, x18, x19 => if x19 < (x10.length : Int) then (if 0 ≤ x19 then (caissonlaw1_AddrParts.l0 k x8 x10 x17 (wrap64 (x18 + ((rd_T35 x10 x19).f2))) (wrap64 (x19 + 1))) else (none)) else (if (x10.length : Int) = x17 then (some (x18 == x8)) else (some false))
end
def caissonlaw1_AddrParts.f (k : Nat) (a0 : Int) (a1 : Int) (a2 : Int) : Option (Bool) := (caissonlaw1_awake.f k).bind fun t124 => (if t124 = true then (if (IntKind.u64.wrap (wrap64 ((Go.bits .and .i64 a1 511) + 1))) = 0 then (none) else ((addr_Split.f k (Go.bits .and .i64 a0 1023) (Go.bits .and .i64 a1 511)).bind fun bt125 => ((addr_Split.f k (Go.bits .and .i64 a0 1023) (wrap64 (Int.tmod (IntKind.u64.wrap (a2)) (IntKind.u64.wrap (wrap64 ((Go.bits .and .i64 a1 511) + 1)))))).bind fun bt129 => ((addr_Split.f k (wrap64 ((Go.bits .and .i64 a0 1023) + (wrap64 (Int.tmod (IntKind.u64.wrap (a2)) (IntKind.u64.wrap (wrap64 ((Go.bits .and .i64 a1 511) + 1))))))) (wrap64 ((Go.bits .and .i64 a1 511) - (wrap64 (Int.tmod (IntKind.u64.wrap (a2)) (IntKind.u64.wrap (wrap64 ((Go.bits .and .i64 a1 511) + 1)))))))).bind fun bt133 => ((caissonlaw0_Num.f bt125.2).bind fun t137 => (if t137 = 0 then ((caissonlaw0_Num.f bt129.2).bind fun t138 => (if t138 = 0 then ((caissonlaw0_Num.f bt133.2).bind fun t139 => (caissonlaw1_AddrParts.j0 k (Go.bits .and .i64 a0 1023) (Go.bits .and .i64 a1 511) (wrap64 (Int.tmod (IntKind.u64.wrap (a2)) (IntKind.u64.wrap (wrap64 ((Go.bits .and .i64 a1 511) + 1))))) bt125.1 bt129.1 bt133.1 (t139 != 0))) else (caissonlaw1_AddrParts.j0 k (Go.bits .and .i64 a0 1023) (Go.bits .and .i64 a1 511) (wrap64 (Int.tmod (IntKind.u64.wrap (a2)) (IntKind.u64.wrap (wrap64 ((Go.bits .and .i64 a1 511) + 1))))) bt125.1 bt129.1 bt133.1 true))) else (caissonlaw1_AddrParts.j0 k (Go.bits .and .i64 a0 1023) (Go.bits .and .i64 a1 511) (wrap64 (Int.tmod (IntKind.u64.wrap (a2)) (IntKind.u64.wrap (wrap64 ((Go.bits .and .i64 a1 511) + 1))))) bt125.1 bt129.1 bt133.1 true))))))) else (some false))
theorem caissonlaw1_AddrParts.mono_l : ∀ k, (∀ y0 y1 y2 y3 y4 y5 y6, LeO (caissonlaw1_AddrParts.j0 k y0 y1 y2 y3 y4 y5 y6) (caissonlaw1_AddrParts.j0 (k + 1) y0 y1 y2 y3 y4 y5 y6)) ∧ (∀ y0 y1 y2 y3 y4, LeO (caissonlaw1_AddrParts.j1 k y0 y1 y2 y3 y4) (caissonlaw1_AddrParts.j1 (k + 1) y0 y1 y2 y3 y4)) ∧ (∀ y0 y1 y2, LeO (caissonlaw1_AddrParts.j2 k y0 y1 y2) (caissonlaw1_AddrParts.j2 (k + 1) y0 y1 y2)) ∧ (∀ y0 y1 y2 y3 y4, LeO (caissonlaw1_AddrParts.l0 k y0 y1 y2 y3 y4) (caissonlaw1_AddrParts.l0 (k + 1) y0 y1 y2 y3 y4))
  | 0 => ⟨fun _ _ _ _ _ _ _ r h => by simp [caissonlaw1_AddrParts.j0] at h, fun _ _ _ _ _ r h => by simp [caissonlaw1_AddrParts.j1] at h, fun _ _ _ r h => by simp [caissonlaw1_AddrParts.j2] at h, fun _ _ _ _ _ r h => by simp [caissonlaw1_AddrParts.l0] at h⟩
  | k + 1 => by
    obtain ⟨ih0, ih1, ih2, ih3⟩ := caissonlaw1_AddrParts.mono_l k
    refine ⟨?_, ?_, ?_, ?_⟩
    · intro y0 y1 y2 y3 y4 y5 y6
      unfold caissonlaw1_AddrParts.j0
      repeat' first
      | (with_reducible exact ih0 _ _ _ _ _ _ _)
      | (with_reducible exact ih1 _ _ _ _ _)
      | (with_reducible exact ih2 _ _ _)
      | (with_reducible exact ih3 _ _ _ _ _)
      | (with_reducible exact addr_Split.mono _ _ _)
      | (with_reducible exact caissonlaw1_awake.mono _)
      | (with_reducible exact LeO.refl _)
      | (with_reducible exact LeO.none _)
      | (with_reducible refine LeO.ite ?_ ?_)
      | (with_reducible refine LeO.bind ?_ (fun _ => ?_))
      | exact ih0 _ _ _ _ _ _ _
      | exact ih1 _ _ _ _ _
      | exact ih2 _ _ _
      | exact ih3 _ _ _ _ _
      | exact addr_Split.mono _ _ _
      | exact caissonlaw1_awake.mono _
      | exact LeO.none _
      | refine LeO.ite ?_ ?_
      | refine LeO.bind ?_ (fun _ => ?_)
    · intro y0 y1 y2 y3 y4
      unfold caissonlaw1_AddrParts.j1
      repeat' first
      | (with_reducible exact ih0 _ _ _ _ _ _ _)
      | (with_reducible exact ih1 _ _ _ _ _)
      | (with_reducible exact ih2 _ _ _)
      | (with_reducible exact ih3 _ _ _ _ _)
      | (with_reducible exact addr_Split.mono _ _ _)
      | (with_reducible exact caissonlaw1_awake.mono _)
      | (with_reducible exact LeO.refl _)
      | (with_reducible exact LeO.none _)
      | (with_reducible refine LeO.ite ?_ ?_)
      | (with_reducible refine LeO.bind ?_ (fun _ => ?_))
      | exact ih0 _ _ _ _ _ _ _
      | exact ih1 _ _ _ _ _
      | exact ih2 _ _ _
      | exact ih3 _ _ _ _ _
      | exact addr_Split.mono _ _ _
      | exact caissonlaw1_awake.mono _
      | exact LeO.none _
      | refine LeO.ite ?_ ?_
      | refine LeO.bind ?_ (fun _ => ?_)
    · intro y0 y1 y2
      unfold caissonlaw1_AddrParts.j2
      repeat' first
      | (with_reducible exact ih0 _ _ _ _ _ _ _)
      | (with_reducible exact ih1 _ _ _ _ _)
      | (with_reducible exact ih2 _ _ _)
      | (with_reducible exact ih3 _ _ _ _ _)
      | (with_reducible exact addr_Split.mono _ _ _)
      | (with_reducible exact caissonlaw1_awake.mono _)
      | (with_reducible exact LeO.refl _)
      | (with_reducible exact LeO.none _)
      | (with_reducible refine LeO.ite ?_ ?_)
      | (with_reducible refine LeO.bind ?_ (fun _ => ?_))
      | exact ih0 _ _ _ _ _ _ _
      | exact ih1 _ _ _ _ _
      | exact ih2 _ _ _
      | exact ih3 _ _ _ _ _
      | exact addr_Split.mono _ _ _
      | exact caissonlaw1_awake.mono _
      | exact LeO.none _
      | refine LeO.ite ?_ ?_
      | refine LeO.bind ?_ (fun _ => ?_)
    · intro y0 y1 y2 y3 y4
      unfold caissonlaw1_AddrParts.l0
      repeat' first
      | (with_reducible exact ih0 _ _ _ _ _ _ _)
      | (with_reducible exact ih1 _ _ _ _ _)
      | (with_reducible exact ih2 _ _ _)
      | (with_reducible exact ih3 _ _ _ _ _)
      | (with_reducible exact addr_Split.mono _ _ _)
      | (with_reducible exact caissonlaw1_awake.mono _)
      | (with_reducible exact LeO.refl _)
      | (with_reducible exact LeO.none _)
      | (with_reducible refine LeO.ite ?_ ?_)
      | (with_reducible refine LeO.bind ?_ (fun _ => ?_))
      | exact ih0 _ _ _ _ _ _ _
      | exact ih1 _ _ _ _ _
      | exact ih2 _ _ _
      | exact ih3 _ _ _ _ _
      | exact addr_Split.mono _ _ _
      | exact caissonlaw1_awake.mono _
      | exact LeO.none _
      | refine LeO.ite ?_ ?_
      | refine LeO.bind ?_ (fun _ => ?_)
theorem caissonlaw1_AddrParts.mono : ∀ a0 a1 a2 k, LeO (caissonlaw1_AddrParts.f k a0 a1 a2) (caissonlaw1_AddrParts.f (k + 1) a0 a1 a2) := by
  intro a0 a1 a2 k
  obtain ⟨ih0, ih1, ih2, ih3⟩ := caissonlaw1_AddrParts.mono_l k
  unfold caissonlaw1_AddrParts.f
  repeat' first
      | (with_reducible exact ih0 _ _ _ _ _ _ _)
      | (with_reducible exact ih1 _ _ _ _ _)
      | (with_reducible exact ih2 _ _ _)
      | (with_reducible exact ih3 _ _ _ _ _)
      | (with_reducible exact addr_Split.mono _ _ _)
      | (with_reducible exact caissonlaw1_awake.mono _)
      | (with_reducible exact LeO.refl _)
      | (with_reducible exact LeO.none _)
      | (with_reducible refine LeO.ite ?_ ?_)
      | (with_reducible refine LeO.bind ?_ (fun _ => ?_))
      | exact ih0 _ _ _ _ _ _ _
      | exact ih1 _ _ _ _ _
      | exact ih2 _ _ _
      | exact ih3 _ _ _ _ _
      | exact addr_Split.mono _ _ _
      | exact caissonlaw1_awake.mono _
      | exact LeO.none _
      | refine LeO.ite ?_ ?_
      | refine LeO.bind ?_ (fun _ => ?_)
set_option maxHeartbeats 8000000 in
set_option maxRecDepth 100000 in
theorem caissonlaw1_AddrParts.calls (k : Nat) (a0 : Int) (a1 : Int) (a2 : Int) (r : Bool) (w : World) (h : caissonlaw1_AddrParts.f k a0 a1 a2 = some r) :
    Calls Try.prog 6 #[.int .i64 a0, .int .i64 a1, .int .i64 a2] w fun e w' => e = .returned (.bool r) ∧ Below w.heap.size w w' := by
  have HB := Aside0.mk (Below.refl w.heap.size w)
  have H : ((caissonlaw1_awake.f k).bind fun t124 => (if t124 = true then (if (IntKind.u64.wrap (wrap64 ((Go.bits .and .i64 a1 511) + 1))) = 0 then (none) else ((addr_Split.f k (Go.bits .and .i64 a0 1023) (Go.bits .and .i64 a1 511)).bind fun bt125 => ((addr_Split.f k (Go.bits .and .i64 a0 1023) (wrap64 (Int.tmod (IntKind.u64.wrap (a2)) (IntKind.u64.wrap (wrap64 ((Go.bits .and .i64 a1 511) + 1)))))).bind fun bt129 => ((addr_Split.f k (wrap64 ((Go.bits .and .i64 a0 1023) + (wrap64 (Int.tmod (IntKind.u64.wrap (a2)) (IntKind.u64.wrap (wrap64 ((Go.bits .and .i64 a1 511) + 1))))))) (wrap64 ((Go.bits .and .i64 a1 511) - (wrap64 (Int.tmod (IntKind.u64.wrap (a2)) (IntKind.u64.wrap (wrap64 ((Go.bits .and .i64 a1 511) + 1)))))))).bind fun bt133 => ((caissonlaw0_Num.f bt125.2).bind fun t137 => (if t137 = 0 then ((caissonlaw0_Num.f bt129.2).bind fun t138 => (if t138 = 0 then ((caissonlaw0_Num.f bt133.2).bind fun t139 => (caissonlaw1_AddrParts.j0 k (Go.bits .and .i64 a0 1023) (Go.bits .and .i64 a1 511) (wrap64 (Int.tmod (IntKind.u64.wrap (a2)) (IntKind.u64.wrap (wrap64 ((Go.bits .and .i64 a1 511) + 1))))) bt125.1 bt129.1 bt133.1 (t139 != 0))) else (caissonlaw1_AddrParts.j0 k (Go.bits .and .i64 a0 1023) (Go.bits .and .i64 a1 511) (wrap64 (Int.tmod (IntKind.u64.wrap (a2)) (IntKind.u64.wrap (wrap64 ((Go.bits .and .i64 a1 511) + 1))))) bt125.1 bt129.1 bt133.1 true))) else (caissonlaw1_AddrParts.j0 k (Go.bits .and .i64 a0 1023) (Go.bits .and .i64 a1 511) (wrap64 (Int.tmod (IntKind.u64.wrap (a2)) (IntKind.u64.wrap (wrap64 ((Go.bits .and .i64 a1 511) + 1))))) bt125.1 bt129.1 bt133.1 true))))))) else (some false))) = some r := h
  clear h
  replace H := Option.bind_eq_some_iff.mp H
  obtain ⟨t124, A40, H⟩ := H
  replace H : (if t124 = true then (if (IntKind.u64.wrap (wrap64 ((Go.bits .and .i64 a1 511) + 1))) = 0 then (none) else ((addr_Split.f k (Go.bits .and .i64 a0 1023) (Go.bits .and .i64 a1 511)).bind fun bt125 => ((addr_Split.f k (Go.bits .and .i64 a0 1023) (wrap64 (Int.tmod (IntKind.u64.wrap (a2)) (IntKind.u64.wrap (wrap64 ((Go.bits .and .i64 a1 511) + 1)))))).bind fun bt129 => ((addr_Split.f k (wrap64 ((Go.bits .and .i64 a0 1023) + (wrap64 (Int.tmod (IntKind.u64.wrap (a2)) (IntKind.u64.wrap (wrap64 ((Go.bits .and .i64 a1 511) + 1))))))) (wrap64 ((Go.bits .and .i64 a1 511) - (wrap64 (Int.tmod (IntKind.u64.wrap (a2)) (IntKind.u64.wrap (wrap64 ((Go.bits .and .i64 a1 511) + 1)))))))).bind fun bt133 => ((caissonlaw0_Num.f bt125.2).bind fun t137 => (if t137 = 0 then ((caissonlaw0_Num.f bt129.2).bind fun t138 => (if t138 = 0 then ((caissonlaw0_Num.f bt133.2).bind fun t139 => (caissonlaw1_AddrParts.j0 k (Go.bits .and .i64 a0 1023) (Go.bits .and .i64 a1 511) (wrap64 (Int.tmod (IntKind.u64.wrap (a2)) (IntKind.u64.wrap (wrap64 ((Go.bits .and .i64 a1 511) + 1))))) bt125.1 bt129.1 bt133.1 (t139 != 0))) else (caissonlaw1_AddrParts.j0 k (Go.bits .and .i64 a0 1023) (Go.bits .and .i64 a1 511) (wrap64 (Int.tmod (IntKind.u64.wrap (a2)) (IntKind.u64.wrap (wrap64 ((Go.bits .and .i64 a1 511) + 1))))) bt125.1 bt129.1 bt133.1 true))) else (caissonlaw1_AddrParts.j0 k (Go.bits .and .i64 a0 1023) (Go.bits .and .i64 a1 511) (wrap64 (Int.tmod (IntKind.u64.wrap (a2)) (IntKind.u64.wrap (wrap64 ((Go.bits .and .i64 a1 511) + 1))))) bt125.1 bt129.1 bt133.1 true))))))) else (some false)) = some r := H
  have A4 := Aside0.mk A40
  clear A40
  by_cases c5 : t124 = true
  · subst c5
    have H1 : (if (IntKind.u64.wrap (wrap64 ((Go.bits .and .i64 a1 511) + 1))) = 0 then (none) else ((addr_Split.f k (Go.bits .and .i64 a0 1023) (Go.bits .and .i64 a1 511)).bind fun bt125 => ((addr_Split.f k (Go.bits .and .i64 a0 1023) (wrap64 (Int.tmod (IntKind.u64.wrap (a2)) (IntKind.u64.wrap (wrap64 ((Go.bits .and .i64 a1 511) + 1)))))).bind fun bt129 => ((addr_Split.f k (wrap64 ((Go.bits .and .i64 a0 1023) + (wrap64 (Int.tmod (IntKind.u64.wrap (a2)) (IntKind.u64.wrap (wrap64 ((Go.bits .and .i64 a1 511) + 1))))))) (wrap64 ((Go.bits .and .i64 a1 511) - (wrap64 (Int.tmod (IntKind.u64.wrap (a2)) (IntKind.u64.wrap (wrap64 ((Go.bits .and .i64 a1 511) + 1)))))))).bind fun bt133 => ((caissonlaw0_Num.f bt125.2).bind fun t137 => (if t137 = 0 then ((caissonlaw0_Num.f bt129.2).bind fun t138 => (if t138 = 0 then ((caissonlaw0_Num.f bt133.2).bind fun t139 => (caissonlaw1_AddrParts.j0 k (Go.bits .and .i64 a0 1023) (Go.bits .and .i64 a1 511) (wrap64 (Int.tmod (IntKind.u64.wrap (a2)) (IntKind.u64.wrap (wrap64 ((Go.bits .and .i64 a1 511) + 1))))) bt125.1 bt129.1 bt133.1 (t139 != 0))) else (caissonlaw1_AddrParts.j0 k (Go.bits .and .i64 a0 1023) (Go.bits .and .i64 a1 511) (wrap64 (Int.tmod (IntKind.u64.wrap (a2)) (IntKind.u64.wrap (wrap64 ((Go.bits .and .i64 a1 511) + 1))))) bt125.1 bt129.1 bt133.1 true))) else (caissonlaw1_AddrParts.j0 k (Go.bits .and .i64 a0 1023) (Go.bits .and .i64 a1 511) (wrap64 (Int.tmod (IntKind.u64.wrap (a2)) (IntKind.u64.wrap (wrap64 ((Go.bits .and .i64 a1 511) + 1))))) bt125.1 bt129.1 bt133.1 true))))))) = some r := by rw [if_pos rfl] at H; exact H
    clear H
    have H := H1
    clear H1
    by_cases c6 : (IntKind.u64.wrap (wrap64 ((Go.bits .and .i64 a1 511) + 1))) = 0
    · rw [if_pos c6] at H
      exact absurd H (by simp)
    · rw [if_neg c6] at H
      have c6b0 : ((IntKind.u64.wrap (wrap64 ((Go.bits .and .i64 a1 511) + 1))) == 0) = false := beq_eq_false_iff_ne.mpr c6
      have c6b1 : ((IntKind.u64.wrap (wrap64 ((Go.bits .and .i64 a1 511) + 1))) != 0) = true := bne_iff_ne.mpr c6
      replace H := Option.bind_eq_some_iff.mp H
      obtain ⟨⟨t125, t126⟩, A70, H⟩ := H
      replace H : ((addr_Split.f k (Go.bits .and .i64 a0 1023) (wrap64 (Int.tmod (IntKind.u64.wrap (a2)) (IntKind.u64.wrap (wrap64 ((Go.bits .and .i64 a1 511) + 1)))))).bind fun bt129 => ((addr_Split.f k (wrap64 ((Go.bits .and .i64 a0 1023) + (wrap64 (Int.tmod (IntKind.u64.wrap (a2)) (IntKind.u64.wrap (wrap64 ((Go.bits .and .i64 a1 511) + 1))))))) (wrap64 ((Go.bits .and .i64 a1 511) - (wrap64 (Int.tmod (IntKind.u64.wrap (a2)) (IntKind.u64.wrap (wrap64 ((Go.bits .and .i64 a1 511) + 1)))))))).bind fun bt133 => ((caissonlaw0_Num.f t126).bind fun t137 => (if t137 = 0 then ((caissonlaw0_Num.f bt129.2).bind fun t138 => (if t138 = 0 then ((caissonlaw0_Num.f bt133.2).bind fun t139 => (caissonlaw1_AddrParts.j0 k (Go.bits .and .i64 a0 1023) (Go.bits .and .i64 a1 511) (wrap64 (Int.tmod (IntKind.u64.wrap (a2)) (IntKind.u64.wrap (wrap64 ((Go.bits .and .i64 a1 511) + 1))))) t125 bt129.1 bt133.1 (t139 != 0))) else (caissonlaw1_AddrParts.j0 k (Go.bits .and .i64 a0 1023) (Go.bits .and .i64 a1 511) (wrap64 (Int.tmod (IntKind.u64.wrap (a2)) (IntKind.u64.wrap (wrap64 ((Go.bits .and .i64 a1 511) + 1))))) t125 bt129.1 bt133.1 true))) else (caissonlaw1_AddrParts.j0 k (Go.bits .and .i64 a0 1023) (Go.bits .and .i64 a1 511) (wrap64 (Int.tmod (IntKind.u64.wrap (a2)) (IntKind.u64.wrap (wrap64 ((Go.bits .and .i64 a1 511) + 1))))) t125 bt129.1 bt133.1 true))))) = some r := H
      have A7 := Aside0.mk A70
      clear A70
      replace H := Option.bind_eq_some_iff.mp H
      obtain ⟨⟨t129, t130⟩, A80, H⟩ := H
      replace H : ((addr_Split.f k (wrap64 ((Go.bits .and .i64 a0 1023) + (wrap64 (Int.tmod (IntKind.u64.wrap (a2)) (IntKind.u64.wrap (wrap64 ((Go.bits .and .i64 a1 511) + 1))))))) (wrap64 ((Go.bits .and .i64 a1 511) - (wrap64 (Int.tmod (IntKind.u64.wrap (a2)) (IntKind.u64.wrap (wrap64 ((Go.bits .and .i64 a1 511) + 1)))))))).bind fun bt133 => ((caissonlaw0_Num.f t126).bind fun t137 => (if t137 = 0 then ((caissonlaw0_Num.f t130).bind fun t138 => (if t138 = 0 then ((caissonlaw0_Num.f bt133.2).bind fun t139 => (caissonlaw1_AddrParts.j0 k (Go.bits .and .i64 a0 1023) (Go.bits .and .i64 a1 511) (wrap64 (Int.tmod (IntKind.u64.wrap (a2)) (IntKind.u64.wrap (wrap64 ((Go.bits .and .i64 a1 511) + 1))))) t125 t129 bt133.1 (t139 != 0))) else (caissonlaw1_AddrParts.j0 k (Go.bits .and .i64 a0 1023) (Go.bits .and .i64 a1 511) (wrap64 (Int.tmod (IntKind.u64.wrap (a2)) (IntKind.u64.wrap (wrap64 ((Go.bits .and .i64 a1 511) + 1))))) t125 t129 bt133.1 true))) else (caissonlaw1_AddrParts.j0 k (Go.bits .and .i64 a0 1023) (Go.bits .and .i64 a1 511) (wrap64 (Int.tmod (IntKind.u64.wrap (a2)) (IntKind.u64.wrap (wrap64 ((Go.bits .and .i64 a1 511) + 1))))) t125 t129 bt133.1 true)))) = some r := H
      have A8 := Aside0.mk A80
      clear A80
      replace H := Option.bind_eq_some_iff.mp H
      obtain ⟨⟨t133, t134⟩, A90, H⟩ := H
      replace H : ((caissonlaw0_Num.f t126).bind fun t137 => (if t137 = 0 then ((caissonlaw0_Num.f t130).bind fun t138 => (if t138 = 0 then ((caissonlaw0_Num.f t134).bind fun t139 => (caissonlaw1_AddrParts.j0 k (Go.bits .and .i64 a0 1023) (Go.bits .and .i64 a1 511) (wrap64 (Int.tmod (IntKind.u64.wrap (a2)) (IntKind.u64.wrap (wrap64 ((Go.bits .and .i64 a1 511) + 1))))) t125 t129 t133 (t139 != 0))) else (caissonlaw1_AddrParts.j0 k (Go.bits .and .i64 a0 1023) (Go.bits .and .i64 a1 511) (wrap64 (Int.tmod (IntKind.u64.wrap (a2)) (IntKind.u64.wrap (wrap64 ((Go.bits .and .i64 a1 511) + 1))))) t125 t129 t133 true))) else (caissonlaw1_AddrParts.j0 k (Go.bits .and .i64 a0 1023) (Go.bits .and .i64 a1 511) (wrap64 (Int.tmod (IntKind.u64.wrap (a2)) (IntKind.u64.wrap (wrap64 ((Go.bits .and .i64 a1 511) + 1))))) t125 t129 t133 true))) = some r := H
      have A9 := Aside0.mk A90
      clear A90
      have HC10 := Aside0.mk H
      clear H
      go_enter Try.func6, Try.ntmps6
      go_upto_region 8 with (first | ((with_reducible refine gate_callee (f := 15) rfl ?_); refine goesL_ (some 20) rfl rfl Try.func15 (by kernel_rfl) rfl #[] rfl (by (try simp only [List.map_toArray, List.map_cons, List.map_nil]); first | done | rfl | (simp only [List.length_drop, List.length_take]; rfl)) ?_; (with_reducible refine (caissonlaw1_awake.calls k  true _ A4.out).mono ?_); rintro e w11 ⟨rfl, hb⟩; refine ⟨_, rfl, ?_⟩; have n0_ := Aside0.mk (below_step (by repeat (first | (with_reducible first | exact HB.out | apply below_alloc | apply pw_below_drewN | apply below_drew1) | exact HB.out)) hb); clear HB; have HB := n0_; clear n0_; (try clear hb); (try clear hb2); (try clear hk); (try clear hi)) | ((with_reducible refine gate_callee (f := 8) rfl ?_); refine goesL_ (some 36) rfl rfl Try.func8 (by kernel_rfl) rfl #[.int .i64 (Go.bits .and .i64 a0 1023), .int .i64 (Go.bits .and .i64 a1 511)] rfl (by (try simp only [List.map_toArray, List.map_cons, List.map_nil]); first | done | rfl | (simp only [List.length_drop, List.length_take]; rfl)) ?_; (with_reducible refine (addr_Split.calls k (Go.bits .and .i64 a0 1023) (Go.bits .and .i64 a1 511) t125 t126 _ A7.out).mono ?_); rintro e w12 ⟨v127, rfl, ho0, hb⟩; refine ⟨_, rfl, ?_⟩; have n0_ := Aside0.mk (Kd.R_lower ho0 (below_size (by repeat (first | (with_reducible first | exact HB.out | apply below_alloc | apply pw_below_drewN | apply below_drew1) | exact HB.out)))); have n1_ := Aside0.mk (below_step (by repeat (first | (with_reducible first | exact HB.out | apply below_alloc | apply pw_below_drewN | apply below_drew1) | exact HB.out)) hb); clear HB; have HO128 := n0_; have HB := n1_; clear n0_ n1_; (try clear hb); (try clear hb2); (try clear hk); (try clear hi); (try clear ho0)) | ((with_reducible refine gate_callee (f := 8) rfl ?_); refine goesL_ (some 42) rfl rfl Try.func8 (by kernel_rfl) rfl #[.int .i64 (Go.bits .and .i64 a0 1023), .int .i64 (wrap64 (Int.tmod (IntKind.u64.wrap (a2)) (IntKind.u64.wrap (wrap64 ((Go.bits .and .i64 a1 511) + 1)))))] rfl (by (try simp only [List.map_toArray, List.map_cons, List.map_nil]); first | done | rfl | (simp only [List.length_drop, List.length_take]; rfl)) ?_; (with_reducible refine (addr_Split.calls k (Go.bits .and .i64 a0 1023) (wrap64 (Int.tmod (IntKind.u64.wrap (a2)) (IntKind.u64.wrap (wrap64 ((Go.bits .and .i64 a1 511) + 1))))) t129 t130 _ A8.out).mono ?_); rintro e w13 ⟨v131, rfl, ho0, hb⟩; refine ⟨_, rfl, ?_⟩; have n0_ := Aside0.mk (Kd.R_elder' (by (with_reducible repeat (first | apply Kd.R_alloc | apply Kd.R_drewN | apply Kd.R_drew)); exact HO128.out) (Kd.R_base ho0) hb); have n1_ := Aside0.mk (Kd.R_lower (Kd.R_new' ho0 (Kd.R_lt (by (with_reducible repeat (first | apply Kd.R_alloc | apply Kd.R_drewN | apply Kd.R_drew)); exact HO128.out))) (below_size (by repeat (first | (with_reducible first | exact HB.out | apply below_alloc | apply pw_below_drewN | apply below_drew1) | exact HB.out)))); have n2_ := Aside0.mk (below_step (by repeat (first | (with_reducible first | exact HB.out | apply below_alloc | apply pw_below_drewN | apply below_drew1) | exact HB.out)) hb); clear HO128; clear HB; have HO128 := n0_; have HO132 := n1_; have HB := n2_; clear n0_ n1_ n2_; (try clear hb); (try clear hb2); (try clear hk); (try clear hi); (try clear ho0)) | ((with_reducible refine gate_callee (f := 8) rfl ?_); refine goesL_ (some 52) rfl rfl Try.func8 (by kernel_rfl) rfl #[.int .i64 (wrap64 ((Go.bits .and .i64 a0 1023) + (wrap64 (Int.tmod (IntKind.u64.wrap (a2)) (IntKind.u64.wrap (wrap64 ((Go.bits .and .i64 a1 511) + 1))))))), .int .i64 (wrap64 ((Go.bits .and .i64 a1 511) - (wrap64 (Int.tmod (IntKind.u64.wrap (a2)) (IntKind.u64.wrap (wrap64 ((Go.bits .and .i64 a1 511) + 1)))))))] rfl (by (try simp only [List.map_toArray, List.map_cons, List.map_nil]); first | done | rfl | (simp only [List.length_drop, List.length_take]; rfl)) ?_; (with_reducible refine (addr_Split.calls k (wrap64 ((Go.bits .and .i64 a0 1023) + (wrap64 (Int.tmod (IntKind.u64.wrap (a2)) (IntKind.u64.wrap (wrap64 ((Go.bits .and .i64 a1 511) + 1))))))) (wrap64 ((Go.bits .and .i64 a1 511) - (wrap64 (Int.tmod (IntKind.u64.wrap (a2)) (IntKind.u64.wrap (wrap64 ((Go.bits .and .i64 a1 511) + 1))))))) t133 t134 _ A9.out).mono ?_); rintro e w14 ⟨v135, rfl, ho0, hb⟩; refine ⟨_, rfl, ?_⟩; have n0_ := Aside0.mk (Kd.R_elder' (by (with_reducible repeat (first | apply Kd.R_alloc | apply Kd.R_drewN | apply Kd.R_drew)); exact HO128.out) (Kd.R_base ho0) hb); have n1_ := Aside0.mk (Kd.R_elder' (by (with_reducible repeat (first | apply Kd.R_alloc | apply Kd.R_drewN | apply Kd.R_drew)); exact HO132.out) (Kd.R_base ho0) hb); have n2_ := Aside0.mk (Kd.R_lower (Kd.R_new' (Kd.R_new' ho0 (Kd.R_lt (by (with_reducible repeat (first | apply Kd.R_alloc | apply Kd.R_drewN | apply Kd.R_drew)); exact HO128.out))) (Kd.R_lt (by (with_reducible repeat (first | apply Kd.R_alloc | apply Kd.R_drewN | apply Kd.R_drew)); exact HO132.out))) (below_size (by repeat (first | (with_reducible first | exact HB.out | apply below_alloc | apply pw_below_drewN | apply below_drew1) | exact HB.out)))); have n3_ := Aside0.mk (below_step (by repeat (first | (with_reducible first | exact HB.out | apply below_alloc | apply pw_below_drewN | apply below_drew1) | exact HB.out)) hb); clear HO128; clear HO132; clear HB; have HO128 := n0_; have HO132 := n1_; have HO136 := n2_; have HB := n3_; clear n0_ n1_ n2_ n3_; (try clear hb); (try clear hb2); (try clear hk); (try clear hi); (try clear ho0)))
      (try simp only [Act.put, List.setIfInBounds_toArray, List.set_cons_zero, List.set_cons_succ])
      go_cut [67] (fun v67 wc => ∃ (kq : Nat) (x67_9 : Bool), v67 = .bool x67_9 ∧ Aside0 (caissonlaw1_AddrParts.j0 kq (Go.bits .and .i64 a0 1023) (Go.bits .and .i64 a1 511) (wrap64 (Int.tmod (IntKind.u64.wrap (a2)) (IntKind.u64.wrap (wrap64 ((Go.bits .and .i64 a1 511) + 1))))) t125 t129 t133 x67_9 = some r) ∧ Aside0 (kq ≤ k) ∧ Aside0 (Kd.R k35 35 wc w.heap.size (fun k_ => some k_ ≠ (v131 : Value).ownBlock ∧ some k_ ≠ (v135 : Value).ownBlock) v127 t125) ∧ Aside0 (Kd.R k35 35 wc w.heap.size (fun k_ => some k_ ≠ (v127 : Value).ownBlock ∧ some k_ ≠ (v135 : Value).ownBlock) v131 t129) ∧ Aside0 (Kd.R k35 35 wc w.heap.size (fun k_ => some k_ ≠ (v127 : Value).ownBlock ∧ some k_ ≠ (v131 : Value).ownBlock) v135 t133) ∧ Aside0 (Below w.heap.size w wc))
      case first =>
        have H := HC10.out
        clear HC10
        replace H := Option.bind_eq_some_iff.mp H
        obtain ⟨t137, A150, H⟩ := H
        replace H : (if t137 = 0 then ((caissonlaw0_Num.f t130).bind fun t138 => (if t138 = 0 then ((caissonlaw0_Num.f t134).bind fun t139 => (caissonlaw1_AddrParts.j0 k (Go.bits .and .i64 a0 1023) (Go.bits .and .i64 a1 511) (wrap64 (Int.tmod (IntKind.u64.wrap (a2)) (IntKind.u64.wrap (wrap64 ((Go.bits .and .i64 a1 511) + 1))))) t125 t129 t133 (t139 != 0))) else (caissonlaw1_AddrParts.j0 k (Go.bits .and .i64 a0 1023) (Go.bits .and .i64 a1 511) (wrap64 (Int.tmod (IntKind.u64.wrap (a2)) (IntKind.u64.wrap (wrap64 ((Go.bits .and .i64 a1 511) + 1))))) t125 t129 t133 true))) else (caissonlaw1_AddrParts.j0 k (Go.bits .and .i64 a0 1023) (Go.bits .and .i64 a1 511) (wrap64 (Int.tmod (IntKind.u64.wrap (a2)) (IntKind.u64.wrap (wrap64 ((Go.bits .and .i64 a1 511) + 1))))) t125 t129 t133 true)) = some r := H
        have A15 := Aside0.mk A150
        clear A150
        by_cases c16 : t137 = 0
        · rw [if_pos c16] at H
          have c16b0 : (t137 == 0) = true := beq_iff_eq.mpr c16
          have c16b1 : (t137 != 0) = false := bne_eq_false_iff_eq.mpr c16
          clear c16
          (first | rw [c16b0] | (simp only [i64_w, i32_w]; rw [c16b0]) | skip)
          replace H := Option.bind_eq_some_iff.mp H
          obtain ⟨t138, A170, H⟩ := H
          replace H : (if t138 = 0 then ((caissonlaw0_Num.f t134).bind fun t139 => (caissonlaw1_AddrParts.j0 k (Go.bits .and .i64 a0 1023) (Go.bits .and .i64 a1 511) (wrap64 (Int.tmod (IntKind.u64.wrap (a2)) (IntKind.u64.wrap (wrap64 ((Go.bits .and .i64 a1 511) + 1))))) t125 t129 t133 (t139 != 0))) else (caissonlaw1_AddrParts.j0 k (Go.bits .and .i64 a0 1023) (Go.bits .and .i64 a1 511) (wrap64 (Int.tmod (IntKind.u64.wrap (a2)) (IntKind.u64.wrap (wrap64 ((Go.bits .and .i64 a1 511) + 1))))) t125 t129 t133 true)) = some r := H
          have A17 := Aside0.mk A170
          clear A170
          by_cases c18 : t138 = 0
          · rw [if_pos c18] at H
            have c18b0 : (t138 == 0) = true := beq_iff_eq.mpr c18
            have c18b1 : (t138 != 0) = false := bne_eq_false_iff_eq.mpr c18
            clear c18
            replace H := Option.bind_eq_some_iff.mp H
            obtain ⟨t139, A190, H⟩ := H
            replace H : (caissonlaw1_AddrParts.j0 k (Go.bits .and .i64 a0 1023) (Go.bits .and .i64 a1 511) (wrap64 (Int.tmod (IntKind.u64.wrap (a2)) (IntKind.u64.wrap (wrap64 ((Go.bits .and .i64 a1 511) + 1))))) t125 t129 t133 (t139 != 0)) = some r := H
            have A19 := Aside0.mk A190
            clear A190
            have H' := Aside0.mk H
            clear H
            go_wp2_with (first | ((with_reducible refine gate_callee (f := 11) rfl ?_); refine goesL_ (some 56) rfl rfl Try.func11 (by kernel_rfl) rfl #[.int .i64 t126] rfl (by (try simp only [List.map_toArray, List.map_cons, List.map_nil]); first | done | rfl | (simp only [List.length_drop, List.length_take]; rfl)) ?_; (with_reducible refine (caissonlaw0_Num.calls t126 t137 _ A15.out).mono ?_); rintro e w' ⟨rfl, ⟨nd, rfl⟩⟩; refine ⟨_, rfl, ?_⟩) | (go_at_call 11; (with_reducible refine (caissonlaw0_Num.calls t130 t138 _ A17.out).mono ?_); rintro e w' ⟨rfl, ⟨nd, rfl⟩⟩) | (go_at_call 11; (with_reducible refine (caissonlaw0_Num.calls t134 t139 _ A19.out).mono ?_); rintro e w' ⟨rfl, ⟨nd, rfl⟩⟩))
            go_meet
            case rel => exact ⟨_, ((t139 != 0)), (by first | rfl | (simp; done) | (simp [*]; done)), H', ⟨by first | omega | exact Nat.le_refl _⟩, ⟨by (with_reducible repeat (first | apply Kd.R_alloc | apply Kd.R_drewN | apply Kd.R_drew)); exact Kd.R_mono HO128.out (fun _ hk => ⟨hk.1.2, hk.2⟩)⟩, ⟨by (with_reducible repeat (first | apply Kd.R_alloc | apply Kd.R_drewN | apply Kd.R_drew)); exact Kd.R_mono HO132.out (fun _ hk => ⟨hk.1.2, hk.2⟩)⟩, ⟨by (with_reducible repeat (first | apply Kd.R_alloc | apply Kd.R_drewN | apply Kd.R_drew)); exact Kd.R_mono HO136.out (fun _ hk => ⟨hk.1.2, hk.2⟩)⟩, ⟨by repeat (first | (with_reducible first | exact HB.out | apply below_alloc | apply pw_below_drewN | apply below_drew1) | exact HB.out)⟩⟩
          · rw [if_neg c18] at H
            have c18b0 : (t138 == 0) = false := beq_eq_false_iff_ne.mpr c18
            have c18b1 : (t138 != 0) = true := bne_iff_ne.mpr c18
            have H' := Aside0.mk H
            clear H
            go_wp2_with (first | ((with_reducible refine gate_callee (f := 11) rfl ?_); refine goesL_ (some 56) rfl rfl Try.func11 (by kernel_rfl) rfl #[.int .i64 t126] rfl (by (try simp only [List.map_toArray, List.map_cons, List.map_nil]); first | done | rfl | (simp only [List.length_drop, List.length_take]; rfl)) ?_; (with_reducible refine (caissonlaw0_Num.calls t126 t137 _ A15.out).mono ?_); rintro e w' ⟨rfl, ⟨nd, rfl⟩⟩; refine ⟨_, rfl, ?_⟩) | (go_at_call 11; (with_reducible refine (caissonlaw0_Num.calls t130 t138 _ A17.out).mono ?_); rintro e w' ⟨rfl, ⟨nd, rfl⟩⟩))
            go_meet
            case rel => exact ⟨_, (true), (by first | rfl | (simp; done) | (simp [*]; done)), H', ⟨by first | omega | exact Nat.le_refl _⟩, ⟨by (with_reducible repeat (first | apply Kd.R_alloc | apply Kd.R_drewN | apply Kd.R_drew)); exact Kd.R_mono HO128.out (fun _ hk => ⟨hk.1.2, hk.2⟩)⟩, ⟨by (with_reducible repeat (first | apply Kd.R_alloc | apply Kd.R_drewN | apply Kd.R_drew)); exact Kd.R_mono HO132.out (fun _ hk => ⟨hk.1.2, hk.2⟩)⟩, ⟨by (with_reducible repeat (first | apply Kd.R_alloc | apply Kd.R_drewN | apply Kd.R_drew)); exact Kd.R_mono HO136.out (fun _ hk => ⟨hk.1.2, hk.2⟩)⟩, ⟨by repeat (first | (with_reducible first | exact HB.out | apply below_alloc | apply pw_below_drewN | apply below_drew1) | exact HB.out)⟩⟩
        · rw [if_neg c16] at H
          have c16b0 : (t137 == 0) = false := beq_eq_false_iff_ne.mpr c16
          have c16b1 : (t137 != 0) = true := bne_iff_ne.mpr c16
          (first | rw [c16b0] | (simp only [i64_w, i32_w]; rw [c16b0]) | skip)
          have H' := Aside0.mk H
          clear H
          go_wp2_with (first | ((with_reducible refine gate_callee (f := 11) rfl ?_); refine goesL_ (some 56) rfl rfl Try.func11 (by kernel_rfl) rfl #[.int .i64 t126] rfl (by (try simp only [List.map_toArray, List.map_cons, List.map_nil]); first | done | rfl | (simp only [List.length_drop, List.length_take]; rfl)) ?_; (with_reducible refine (caissonlaw0_Num.calls t126 t137 _ A15.out).mono ?_); rintro e w' ⟨rfl, ⟨nd, rfl⟩⟩; refine ⟨_, rfl, ?_⟩))
          go_meet
          case rel => exact ⟨_, (true), (by first | rfl | (simp; done) | (simp [*]; done)), H', ⟨by first | omega | exact Nat.le_refl _⟩, ⟨by (with_reducible repeat (first | apply Kd.R_alloc | apply Kd.R_drewN | apply Kd.R_drew)); exact Kd.R_mono HO128.out (fun _ hk => ⟨hk.1.2, hk.2⟩)⟩, ⟨by (with_reducible repeat (first | apply Kd.R_alloc | apply Kd.R_drewN | apply Kd.R_drew)); exact Kd.R_mono HO132.out (fun _ hk => ⟨hk.1.2, hk.2⟩)⟩, ⟨by (with_reducible repeat (first | apply Kd.R_alloc | apply Kd.R_drewN | apply Kd.R_drew)); exact Kd.R_mono HO136.out (fun _ hk => ⟨hk.1.2, hk.2⟩)⟩, ⟨by repeat (first | (with_reducible first | exact HB.out | apply below_alloc | apply pw_below_drewN | apply below_drew1) | exact HB.out)⟩⟩
      case rest =>
        clear HC10
        try clear c1
        try clear p2
        try clear c5
        try clear c6
        try clear c6b0
        try clear c6b1
        try clear p6
        try clear c8
        try clear c11
        try clear c15
        try clear c16
        try clear c16b0
        try clear c16b1
        try clear c18
        try clear c18b0
        try clear c18b1
        obtain ⟨kq, x67_9, rfl, HA, HJ9, HO_10, HO_12, HO_14, HB⟩ := hcut
        cases kq with
        | zero => exact absurd HA.out (by simp [caissonlaw1_AddrParts.j0])
        | succ kj9 =>
          have H := HA.out
          clear HA
          simp only [caissonlaw1_AddrParts.j0] at H
          by_cases c20 : x67_9 = true
          · subst c20
            have H1 : (some false) = some r := by rw [if_pos rfl] at H; exact H
            clear H
            have H := H1
            clear H1
            obtain rfl := Option.some.inj H
            go_wp2
            go_ret
            exact ⟨by first | rfl | (simp [errW_none, errW_some] <;> rfl) | (simp [*, errW_none, errW_some] <;> rfl), by repeat (first | (with_reducible first | exact HB.out | apply below_alloc | apply pw_below_drewN | apply below_drew1) | exact HB.out)⟩
          · replace c20 := Bool.eq_false_iff.mpr c20
            subst c20
            have H1 : (if (Int.tmod (wrap64 ((Go.bits .and .i64 a0 1023) + (wrap64 (Int.tmod (IntKind.u64.wrap (a2)) (IntKind.u64.wrap (wrap64 ((Go.bits .and .i64 a1 511) + 1))))))) 64) = 0 then (caissonlaw1_AddrParts.j1 kj9 (Go.bits .and .i64 a1 511) t125 t129 t133 false) else (if (wrap64 (Int.tmod (IntKind.u64.wrap (a2)) (IntKind.u64.wrap (wrap64 ((Go.bits .and .i64 a1 511) + 1))))) > 0 then (caissonlaw1_AddrParts.j1 kj9 (Go.bits .and .i64 a1 511) t125 t129 t133 (decide ((wrap64 (Int.tmod (IntKind.u64.wrap (a2)) (IntKind.u64.wrap (wrap64 ((Go.bits .and .i64 a1 511) + 1))))) < (Go.bits .and .i64 a1 511)))) else (caissonlaw1_AddrParts.j1 kj9 (Go.bits .and .i64 a1 511) t125 t129 t133 false))) = some r := by rw [if_neg (show ¬ (false = true) by decide)] at H; exact H
            clear H
            have H := H1
            clear H1
            have HC21 := Aside0.mk H
            clear H
            go_upto_region 10 with (fail)
            go_cut [16] (fun v16 wc => ∃ (kq : Nat) (x16_20 : Bool), v16 = .bool x16_20 ∧ Aside0 (caissonlaw1_AddrParts.j1 kq (Go.bits .and .i64 a1 511) t125 t129 t133 x16_20 = some r) ∧ Aside0 (kq ≤ kj9) ∧ Aside0 (Kd.R k35 35 wc w.heap.size (fun k_ => some k_ ≠ (v131 : Value).ownBlock ∧ some k_ ≠ (v135 : Value).ownBlock) v127 t125) ∧ Aside0 (Kd.R k35 35 wc w.heap.size (fun k_ => some k_ ≠ (v127 : Value).ownBlock ∧ some k_ ≠ (v135 : Value).ownBlock) v131 t129) ∧ Aside0 (Kd.R k35 35 wc w.heap.size (fun k_ => some k_ ≠ (v127 : Value).ownBlock ∧ some k_ ≠ (v131 : Value).ownBlock) v135 t133) ∧ Aside0 (Below w.heap.size w wc))
            case first =>
              have H := HC21.out
              clear HC21
              by_cases c22 : (Int.tmod (wrap64 ((Go.bits .and .i64 a0 1023) + (wrap64 (Int.tmod (IntKind.u64.wrap (a2)) (IntKind.u64.wrap (wrap64 ((Go.bits .and .i64 a1 511) + 1))))))) 64) = 0
              · rw [if_pos c22] at H
                have c22b0 : ((Int.tmod (wrap64 ((Go.bits .and .i64 a0 1023) + (wrap64 (Int.tmod (IntKind.u64.wrap (a2)) (IntKind.u64.wrap (wrap64 ((Go.bits .and .i64 a1 511) + 1))))))) 64) == 0) = true := beq_iff_eq.mpr c22
                have c22b1 : ((Int.tmod (wrap64 ((Go.bits .and .i64 a0 1023) + (wrap64 (Int.tmod (IntKind.u64.wrap (a2)) (IntKind.u64.wrap (wrap64 ((Go.bits .and .i64 a1 511) + 1))))))) 64) != 0) = false := bne_eq_false_iff_eq.mpr c22
                clear c22
                (first | rw [c22b0] | (simp only [i64_w, i32_w]; rw [c22b0]) | skip)
                have H' := Aside0.mk H
                clear H
                go_wp2
                go_meet
                case rel => exact ⟨_, (false), (by first | rfl | (simp; done) | (simp [*]; done)), H', ⟨by have := HJ9.out; first | omega | exact Nat.le_refl _⟩, ⟨by (with_reducible repeat (first | apply Kd.R_alloc | apply Kd.R_drewN | apply Kd.R_drew)); exact HO_10.out⟩, ⟨by (with_reducible repeat (first | apply Kd.R_alloc | apply Kd.R_drewN | apply Kd.R_drew)); exact HO_12.out⟩, ⟨by (with_reducible repeat (first | apply Kd.R_alloc | apply Kd.R_drewN | apply Kd.R_drew)); exact HO_14.out⟩, ⟨by repeat (first | (with_reducible first | exact HB.out | apply below_alloc | apply pw_below_drewN | apply below_drew1) | exact HB.out)⟩⟩
              · rw [if_neg c22] at H
                have c22b0 : ((Int.tmod (wrap64 ((Go.bits .and .i64 a0 1023) + (wrap64 (Int.tmod (IntKind.u64.wrap (a2)) (IntKind.u64.wrap (wrap64 ((Go.bits .and .i64 a1 511) + 1))))))) 64) == 0) = false := beq_eq_false_iff_ne.mpr c22
                have c22b1 : ((Int.tmod (wrap64 ((Go.bits .and .i64 a0 1023) + (wrap64 (Int.tmod (IntKind.u64.wrap (a2)) (IntKind.u64.wrap (wrap64 ((Go.bits .and .i64 a1 511) + 1))))))) 64) != 0) = true := bne_iff_ne.mpr c22
                (first | rw [c22b0] | (simp only [i64_w, i32_w]; rw [c22b0]) | skip)
                by_cases c23 : (wrap64 (Int.tmod (IntKind.u64.wrap (a2)) (IntKind.u64.wrap (wrap64 ((Go.bits .and .i64 a1 511) + 1))))) > 0
                · rw [if_pos c23] at H
                  have c23b0 : decide (0 < (wrap64 (Int.tmod (IntKind.u64.wrap (a2)) (IntKind.u64.wrap (wrap64 ((Go.bits .and .i64 a1 511) + 1)))))) = true := decide_eq_true c23
                  clear c23
                  have H' := Aside0.mk H
                  clear H
                  go_wp2
                  go_meet
                  case rel => exact ⟨_, (decide ((wrap64 (Int.tmod (IntKind.u64.wrap (a2)) (IntKind.u64.wrap (wrap64 ((Go.bits .and .i64 a1 511) + 1))))) < (Go.bits .and .i64 a1 511))), (by first | rfl | (simp; done) | (simp [*]; done)), H', ⟨by have := HJ9.out; first | omega | exact Nat.le_refl _⟩, ⟨by (with_reducible repeat (first | apply Kd.R_alloc | apply Kd.R_drewN | apply Kd.R_drew)); exact HO_10.out⟩, ⟨by (with_reducible repeat (first | apply Kd.R_alloc | apply Kd.R_drewN | apply Kd.R_drew)); exact HO_12.out⟩, ⟨by (with_reducible repeat (first | apply Kd.R_alloc | apply Kd.R_drewN | apply Kd.R_drew)); exact HO_14.out⟩, ⟨by repeat (first | (with_reducible first | exact HB.out | apply below_alloc | apply pw_below_drewN | apply below_drew1) | exact HB.out)⟩⟩
                · rw [if_neg c23] at H
                  have c23b0 : decide (0 < (wrap64 (Int.tmod (IntKind.u64.wrap (a2)) (IntKind.u64.wrap (wrap64 ((Go.bits .and .i64 a1 511) + 1)))))) = false := decide_eq_false c23
                  clear c23
                  have H' := Aside0.mk H
                  clear H
                  go_wp2
                  go_meet
                  case rel => exact ⟨_, (false), (by first | rfl | (simp; done) | (simp [*]; done)), H', ⟨by have := HJ9.out; first | omega | exact Nat.le_refl _⟩, ⟨by (with_reducible repeat (first | apply Kd.R_alloc | apply Kd.R_drewN | apply Kd.R_drew)); exact HO_10.out⟩, ⟨by (with_reducible repeat (first | apply Kd.R_alloc | apply Kd.R_drewN | apply Kd.R_drew)); exact HO_12.out⟩, ⟨by (with_reducible repeat (first | apply Kd.R_alloc | apply Kd.R_drewN | apply Kd.R_drew)); exact HO_14.out⟩, ⟨by repeat (first | (with_reducible first | exact HB.out | apply below_alloc | apply pw_below_drewN | apply below_drew1) | exact HB.out)⟩⟩
            case rest =>
              clear HC21
              try clear c1
              try clear c2
              try clear p2
              try clear c5
              try clear c6
              try clear c6b0
              try clear c6b1
              try clear p6
              try clear c8
              try clear c11
              try clear c15
              try clear c16
              try clear c16b0
              try clear c16b1
              try clear c18
              try clear c18b0
              try clear c18b1
              try clear c20
              try clear c22
              try clear c22b0
              try clear c22b1
              try clear c23
              try clear c23b0
              try clear p2
              try clear p6
              obtain ⟨kq, x16_20, rfl, HA, HJ20, HO_10, HO_12, HO_14, HB⟩ := hcut
              cases kq with
              | zero => exact absurd HA.out (by simp [caissonlaw1_AddrParts.j1])
              | succ kj20 =>
                have H := HA.out
                clear HA
                simp only [caissonlaw1_AddrParts.j1] at H
                have HC24 := Aside0.mk H
                clear H
                obtain ⟨Ao25, co25, eo25⟩ := Kd.R_slice HO_12.out
                subst eo25
                obtain ⟨Ao26, co26, eo26⟩ := Kd.R_slice HO_14.out
                subst eo26
                go_upto_if 87 with (fail)
                go_cut [17] (fun v17 wc => ∃ (kq : Nat) (x17_23 : Int), v17 = .int .i64 x17_23 ∧ Aside0 (caissonlaw1_AddrParts.j2 kq (Go.bits .and .i64 a1 511) t125 x17_23 = some r) ∧ Aside0 (kq ≤ kj20) ∧ Aside0 (Kd.R k35 35 wc w.heap.size (fun _ => True) v127 t125) ∧ Aside0 (Below w.heap.size w wc))
                case first =>
                  have H := HC24.out
                  clear HC24
                  by_cases c27 : x16_20 = true
                  · subst c27
                    have H1 : (caissonlaw1_AddrParts.j2 kj20 (Go.bits .and .i64 a1 511) t125 (wrap64 ((wrap64 ((t129.length : Int) + (t133.length : Int))) - 1))) = some r := by rw [if_pos rfl] at H; exact H
                    clear H
                    have H := H1
                    clear H1
                    have H' := Aside0.mk H
                    clear H
                    go_wp2
                    go_meet
                    case rel => exact ⟨_, (wrap64 ((wrap64 ((t129.length : Int) + (t133.length : Int))) - 1)), (by first | rfl | (simp; done) | (simp [*]; done)), H', ⟨by have := HJ9.out; have := HJ20.out; first | omega | exact Nat.le_refl _⟩, ⟨by (with_reducible repeat (first | apply Kd.R_alloc | apply Kd.R_drewN | apply Kd.R_drew)); exact Kd.R_mono HO_10.out (fun _ hk => trivial)⟩, ⟨by repeat (first | (with_reducible first | exact HB.out | apply below_alloc | apply pw_below_drewN | apply below_drew1) | exact HB.out)⟩⟩
                  · replace c27 := Bool.eq_false_iff.mpr c27
                    subst c27
                    have H1 : (caissonlaw1_AddrParts.j2 kj20 (Go.bits .and .i64 a1 511) t125 (wrap64 ((t129.length : Int) + (t133.length : Int)))) = some r := by rw [if_neg (show ¬ (false = true) by decide)] at H; exact H
                    clear H
                    have H := H1
                    clear H1
                    have H' := Aside0.mk H
                    clear H
                    go_wp2
                    go_meet
                    case rel => exact ⟨_, (wrap64 ((t129.length : Int) + (t133.length : Int))), (by first | rfl | (simp; done) | (simp [*]; done)), H', ⟨by have := HJ9.out; have := HJ20.out; first | omega | exact Nat.le_refl _⟩, ⟨by (with_reducible repeat (first | apply Kd.R_alloc | apply Kd.R_drewN | apply Kd.R_drew)); exact Kd.R_mono HO_10.out (fun _ hk => trivial)⟩, ⟨by repeat (first | (with_reducible first | exact HB.out | apply below_alloc | apply pw_below_drewN | apply below_drew1) | exact HB.out)⟩⟩
                case rest =>
                  clear HC24
                  try clear c1
                  try clear c2
                  try clear p2
                  try clear c5
                  try clear c6
                  try clear c6b0
                  try clear c6b1
                  try clear p6
                  try clear c8
                  try clear c11
                  try clear c15
                  try clear c16
                  try clear c16b0
                  try clear c16b1
                  try clear c18
                  try clear c18b0
                  try clear c18b1
                  try clear c20
                  try clear c22
                  try clear c22b0
                  try clear c22b1
                  try clear c23
                  try clear c23b0
                  try clear c27
                  try clear p2
                  try clear p6
                  obtain ⟨kq, x17_23, rfl, HA, HJ23, HO_10, HB⟩ := hcut
                  cases kq with
                  | zero => exact absurd HA.out (by simp [caissonlaw1_AddrParts.j2])
                  | succ kj23 =>
                    have H := HA.out
                    clear HA
                    simp only [caissonlaw1_AddrParts.j2] at H
                    have H' := Aside0.mk H
                    clear H
                    go_wp2
                    go_loopg [18, 19] kj23 (fun kq v18 v19 w' => ∃ (x18_4 : Int) (x19_4 : Int), v18 = .int .i64 x18_4 ∧ v19 = .int .i64 x19_4 ∧ Aside0 (caissonlaw1_AddrParts.l0 kq (Go.bits .and .i64 a1 511) t125 x17_23 x18_4 x19_4 = some r) ∧ Aside0 (kq ≤ kj23) ∧ Aside0 (Kd.R k35 35 w' w.heap.size (fun _ => True) v127 t125) ∧ Aside0 (Below w.heap.size w w'))
                    case atStart => exact ⟨(0), (0), (by first | rfl | (simp; done) | (simp [*]; done)), (by first | rfl | (simp; done) | (simp [*]; done)), H', ⟨Nat.le_refl _⟩, ⟨by (with_reducible repeat (first | apply Kd.R_alloc | apply Kd.R_drewN | apply Kd.R_drew)); exact HO_10.out⟩, ⟨by repeat (first | (with_reducible first | exact HB.out | apply below_alloc | apply pw_below_drewN | apply below_drew1) | exact HB.out)⟩⟩
                    case round =>
                      clear H'
                      try clear c1
                      try clear c2
                      try clear p2
                      try clear c5
                      try clear c6
                      try clear c6b0
                      try clear c6b1
                      try clear p6
                      try clear c8
                      try clear c11
                      try clear c15
                      try clear c16
                      try clear c16b0
                      try clear c16b1
                      try clear c18
                      try clear c18b0
                      try clear c18b1
                      try clear c20
                      try clear c22
                      try clear c22b0
                      try clear c22b1
                      try clear c23
                      try clear c23b0
                      try clear c27
                      try clear p2
                      try clear p6
                      obtain ⟨x18_4, x19_4, rfl, rfl, HA, HK4, HO_10, HB⟩ := hrel
                      cases gk with
                      | zero => exact absurd HA.out (by simp [caissonlaw1_AddrParts.l0])
                      | succ k4 =>
                        have H := HA.out
                        clear HA
                        simp only [caissonlaw1_AddrParts.l0] at H
                        by_cases c28 : x19_4 < (t125.length : Int)
                        · rw [if_pos c28] at H
                          have c28b0 : decide (x19_4 < (t125.length : Int)) = true := decide_eq_true c28
                          clear c28
                          by_cases c29 : 0 ≤ x19_4
                          · rw [if_pos c29] at H
                            have c29b0 : decide (0 ≤ x19_4) = true := decide_eq_true c29
                            clear c29
                            have H' := Aside0.mk H
                            clear H
                            obtain ⟨Ao30, co30, eo30⟩ := Kd.R_slice HO_10.out
                            subst eo30
                            have p140 : 0 ≤ (x19_4 : Int) := of_decide_eq_true (by first | (with_reducible assumption) | assumption)
                            have q140 : x19_4 < (t125.length : Int) := of_decide_eq_true (by first | (with_reducible assumption) | assumption)
                            obtain ⟨ad140, e140, hx140_0, hx140_1, hx140_2⟩ := at_T35 (Kd.R_reads' HO_10.out).2.2 x19_4 p140 q140
                            cases e140
                            replace p140 := eq_true p140
                            replace q140 := eq_true q140
                            go_wp2
                            go_roundg k4
                            case measure => have := HJ9.out; have := HJ20.out; have := HJ23.out; have := HK4.out; omega
                            case rel => exact ⟨(wrap64 (x18_4 + ((rd_T35 t125 x19_4).f2))), (wrap64 (x19_4 + 1)), (by first | rfl | (simp; done) | (simp [*]; done)), (by first | rfl | (simp; done) | (simp [*]; done)), H', ⟨by have := HJ9.out; have := HJ20.out; have := HJ23.out; have := HK4.out; omega⟩, ⟨by (with_reducible repeat (first | apply Kd.R_alloc | apply Kd.R_drewN | apply Kd.R_drew)); exact HO_10.out⟩, ⟨by repeat (first | (with_reducible first | exact HB.out | apply below_alloc | apply pw_below_drewN | apply below_drew1) | exact HB.out)⟩⟩
                          · rw [if_neg c29] at H
                            exact absurd H (by simp)
                        · rw [if_neg c28] at H
                          have c28b0 : decide (x19_4 < (t125.length : Int)) = false := decide_eq_false c28
                          clear c28
                          by_cases c31 : (t125.length : Int) = x17_23
                          · rw [if_pos c31] at H
                            have c31b0 : ((t125.length : Int) == x17_23) = true := beq_iff_eq.mpr c31
                            have c31b1 : ((t125.length : Int) != x17_23) = false := bne_eq_false_iff_eq.mpr c31
                            clear c31
                            obtain rfl := Option.some.inj H
                            obtain ⟨Ao32, co32, eo32⟩ := Kd.R_slice HO_10.out
                            subst eo32
                            go_wp2
                            go_ret
                            exact ⟨by first | rfl | (simp [errW_none, errW_some] <;> rfl) | (simp [*, errW_none, errW_some] <;> rfl), by repeat (first | (with_reducible first | exact HB.out | apply below_alloc | apply pw_below_drewN | apply below_drew1) | exact HB.out)⟩
                          · rw [if_neg c31] at H
                            have c31b0 : ((t125.length : Int) == x17_23) = false := beq_eq_false_iff_ne.mpr c31
                            have c31b1 : ((t125.length : Int) != x17_23) = true := bne_iff_ne.mpr c31
                            obtain rfl := Option.some.inj H
                            obtain ⟨Ao33, co33, eo33⟩ := Kd.R_slice HO_10.out
                            subst eo33
                            go_wp2
                            go_ret
                            exact ⟨by first | rfl | (simp [errW_none, errW_some] <;> rfl) | (simp [*, errW_none, errW_some] <;> rfl), by repeat (first | (with_reducible first | exact HB.out | apply below_alloc | apply pw_below_drewN | apply below_drew1) | exact HB.out)⟩
  · replace c5 := Bool.eq_false_iff.mpr c5
    subst c5
    have H1 : (some false) = some r := by rw [if_neg (show ¬ (false = true) by decide)] at H; exact H
    clear H
    have H := H1
    clear H1
    obtain rfl := Option.some.inj H
    go_enter Try.func6, Try.ntmps6
    go_wp2_with (first | ((with_reducible refine gate_callee (f := 15) rfl ?_); refine goesL_ (some 20) rfl rfl Try.func15 (by kernel_rfl) rfl #[] rfl (by (try simp only [List.map_toArray, List.map_cons, List.map_nil]); first | done | rfl | (simp only [List.length_drop, List.length_take]; rfl)) ?_; (with_reducible refine (caissonlaw1_awake.calls k  false _ A4.out).mono ?_); rintro e w34 ⟨rfl, hb⟩; refine ⟨_, rfl, ?_⟩; have n0_ := Aside0.mk (below_step (by repeat (first | (with_reducible first | exact HB.out | apply below_alloc | apply pw_below_drewN | apply below_drew1) | exact HB.out)) hb); clear HB; have HB := n0_; clear n0_; (try clear hb); (try clear hb2); (try clear hk); (try clear hi)))
    go_ret
    exact ⟨by first | rfl | (simp [errW_none, errW_some] <;> rfl) | (simp [*, errW_none, errW_some] <;> rfl), by repeat (first | (with_reducible first | exact HB.out | apply below_alloc | apply pw_below_drewN | apply below_drew1) | exact HB.out)⟩

/-- THE ONE PURE STATEMENT of caissonlaw1_AddrParts: yours. -/
def caissonlaw1_AddrParts.Pure : Prop := ∀ (a0 : Int) (a1 : Int) (a2 : Int), (Lit.int .i64 a0).wf = true → (Lit.int .i64 a1).wf = true → (Lit.int .i64 a2).wf = true → ∃ k, caissonlaw1_AddrParts.f k a0 a1 a2 = some true
theorem caissonlaw1_AddrParts.walk (P : caissonlaw1_AddrParts.Pure) (a0 : Int) (a1 : Int) (a2 : Int) (w : World) (w0 : (Lit.int .i64 a0).wf = true) (w1 : (Lit.int .i64 a1).wf = true) (w2 : (Lit.int .i64 a2).wf = true) :
    Calls Try.prog 6 #[.int .i64 a0, .int .i64 a1, .int .i64 a2] w fun e w' => e = .returned (.bool true) ∧ Below w.heap.size w w' := by
  obtain ⟨k, h⟩ := P a0 a1 a2 w0 w1 w2
  refine (caissonlaw1_AddrParts.calls k a0 a1 a2 true w h).mono ?_
  rintro e w' ⟨rfl, hd⟩
  exact ⟨rfl, hd⟩

end Go.Proofs.Ytnplemkacpljaaa.PAddrParts
