/- Contracts of desc.Get and of the reference's reading of a descriptor. No condition. -/
import Derived.Test.YtefcppldkepmhaaDescA
import Derived.Test.YtefcppldkepmhaaSets
namespace Go.Proofs.Ytefcppldkepmhaa
open Go.RowKit
set_option linter.unusedVariables false
set_option linter.unusedSimpArgs false
/-- Two bytes of a string, the low one first. -/
def two (x y : UInt8) : Int := (x.toNat : Int) + 256 * (y.toNat : Int)
theorem or_bytes (x y : UInt8) : bits .or .i64 (x.toNat : Int) ((y.toNat : Int) * 256) = two x y := by
  have hx := x.toNat_lt
  have hy := y.toNat_lt
  have h1 : (BitVec.ofInt 64 (x.toNat : Int)).toNat = x.toNat := by rw [BitVec.toNat_ofInt]; omega
  have h2 : (BitVec.ofInt 64 ((y.toNat : Int) * 256)).toNat = 256 * y.toNat := by rw [BitVec.toNat_ofInt]; omega
  have key : (BitVec.ofInt 64 (x.toNat : Int) ||| BitVec.ofInt 64 ((y.toNat : Int) * 256)).toNat = 256 * y.toNat + x.toNat := by
    rw [BitVec.toNat_or, h1, h2, Nat.or_comm, show 256 * y.toNat = 2 ^ 8 * y.toNat from rfl, ← Nat.two_pow_add_eq_or_of_lt (by omega)]
  show IntKind.i64.wrap ((BitVec.ofInt 64 (x.toNat : Int) ||| BitVec.ofInt 64 ((y.toNat : Int) * 256)).toNat : Nat) = _
  rw [key, IntKind.wrap_i64]
  unfold two
  omega
def gotD (r : Bool) (a b c d e : Int) : Value := if r then .tuple #[.agg #[.int .i64 a, .int .i64 b, .int .i64 c, .int .i64 d, .int .i64 e], .int .i64 0] else .tuple #[.agg #[.int .i64 0, .int .i64 0, .int .i64 0, .int .i64 0, .int .i64 0], .int .i64 1600]
theorem byte_wrap (x : UInt8) : IntKind.i64.wrap (x.toNat : Int) = (x.toNat : Int) := by
  have hx := x.toNat_lt
  exact IntWalk.i64_in _ ⟨by omega, by omega⟩
theorem or_wrap (x y : UInt8) : bits .or .i64 (wrap64 (x.toNat : Int)) (wrap64 (wrap64 (y.toNat : Int) * 256)) = two x y := by
  have hx := x.toNat_lt
  have hy := y.toNat_lt
  have e1 : wrap64 (x.toNat : Int) = (x.toNat : Int) := by unfold wrap64; omega
  have e2 : wrap64 (y.toNat : Int) = (y.toNat : Int) := by unfold wrap64; omega
  have e3 : wrap64 ((y.toNat : Int) * 256) = (y.toNat : Int) * 256 := by unfold wrap64; omega
  rw [e1, e2, e3, or_bytes]
set_option maxHeartbeats 1000000 in
theorem two_2 (s : ByteArray) (b : Nat) (w : World) (hb : w.cell? ⟨b, 0, none⟩ = some (.string s)) (h8 : s.size = 8) :
    Calls Try.prog 15 #[.int .i64 2, .pointer (some ⟨b, 0, none⟩)] w fun e' w' => e' = .returned (.int .i64 (two (s[2]'(by omega)) (s[3]'(by omega)))) ∧ Below w.heap.size w w' := by
  have ho := or_bytes
  go_enter Try.func15, Try.ntmps15
  go_wp2_with fail
  go_quiet (fail)
  go_wp2
  go_returns
  exact ⟨congrArg (fun q => Ending.returned (Value.int .i64 q)) (or_wrap _ _), below_drewN (Below.refl _ _) _⟩
set_option maxHeartbeats 1000000 in
theorem two_4 (s : ByteArray) (b : Nat) (w : World) (hb : w.cell? ⟨b, 0, none⟩ = some (.string s)) (h8 : s.size = 8) :
    Calls Try.prog 15 #[.int .i64 4, .pointer (some ⟨b, 0, none⟩)] w fun e' w' => e' = .returned (.int .i64 (two (s[4]'(by omega)) (s[5]'(by omega)))) ∧ Below w.heap.size w w' := by
  have ho := or_bytes
  go_enter Try.func15, Try.ntmps15
  go_wp2_with fail
  go_quiet (fail)
  go_wp2
  go_returns
  exact ⟨congrArg (fun q => Ending.returned (Value.int .i64 q)) (or_wrap _ _), below_drewN (Below.refl _ _) _⟩
set_option maxHeartbeats 4000000 in
theorem get_len (s : ByteArray) (w : World) (h : (s.size : Int) ≠ 8) :
    Calls Try.prog 9 #[.string s] w fun e' w' => e' = .returned (.tuple #[.agg #[.int .i64 0, .int .i64 0, .int .i64 0, .int .i64 0, .int .i64 0], .int .i64 1600]) ∧ Below w.heap.size w w' := by
  have h1 : ((s.size : Int) != 8) = true := by simpa using h
  go_enter Try.func9, Try.ntmps9
  go_wp2_with fail
  go_returns
  exact ⟨rfl, by repeat (first | exact Below.refl _ _ | assumption | (refine Below.drew ?_) | (refine Below.setCell ?_ (by first | omega | (simp; omega) | simp) _) | (refine Below.alloc ?_ (by first | omega | (simp; omega) | simp) _) | (refine bthen (by assumption) ?_ (by first | omega | (simp; omega) | simp)))⟩
set_option maxHeartbeats 4000000 in
theorem get_end (s : ByteArray) (w : World) (h8 : s.size = 8) (h : ((s[7]'(by omega)).toNat : Int) ≠ 0) :
    Calls Try.prog 9 #[.string s] w fun e' w' => e' = .returned (.tuple #[.agg #[.int .i64 0, .int .i64 0, .int .i64 0, .int .i64 0, .int .i64 0], .int .i64 1600]) ∧ Below w.heap.size w w' := by
  have h1 : (((s[7]'(by omega)).toNat : Int) != 0) = true := by simpa using h
  go_enter Try.func9, Try.ntmps9
  go_wp2_with fail
  go_returns
  exact ⟨rfl, by repeat (first | exact Below.refl _ _ | assumption | (refine Below.drew ?_) | (refine Below.setCell ?_ (by first | omega | (simp; omega) | simp) _) | (refine Below.alloc ?_ (by first | omega | (simp; omega) | simp) _) | (refine bthen (by assumption) ?_ (by first | omega | (simp; omega) | simp)))⟩
set_option maxHeartbeats 4000000 in
theorem get_mid (s : ByteArray) (w : World) (h8 : s.size = 8) (h : ((s[7]'(by omega)).toNat : Int) = 0) (r : Bool) (hm : mayD ((s[0]'(by omega)).toNat : Int) ((s[1]'(by omega)).toNat : Int) (two (s[2]'(by omega)) (s[3]'(by omega))) (two (s[4]'(by omega)) (s[5]'(by omega))) ((s[6]'(by omega)).toNat : Int) = r) :
    Calls Try.prog 9 #[.string s] w fun e' w' => e' = .returned (gotD r ((s[0]'(by omega)).toNat : Int) ((s[1]'(by omega)).toNat : Int) (two (s[2]'(by omega)) (s[3]'(by omega))) (two (s[4]'(by omega)) (s[5]'(by omega))) ((s[6]'(by omega)).toNat : Int)) ∧ Below w.heap.size w w' := by
  have h1 : (((s[7]'(by omega)).toNat : Int) != 0) = false := by simpa using h
  clear h
  go_enter Try.func9, Try.ntmps9
  go_wp2_with fail
  refine name_world fun W hW => ?_
  have kW_0_0 : W.cell? ⟨w.heap.size, 0, none⟩ = some (.string s) := by rw [hW]; exact (by first | (go_simp; done) | ((repeat rw [cell_al (by first | omega | (simp; omega) | simp)]); first | assumption | (go_simp; done)))
  have zW_0 : w.heap.size < W.heap.size := by rw [hW]; first | omega | (simp; omega) | simp
  have kW_1_0 : W.cell? ⟨w.heap.size + 1, 0, none⟩ = some (.int .i64 0) := by rw [hW]; exact (by first | (go_simp; done) | ((repeat rw [cell_al (by first | omega | (simp; omega) | simp)]); first | assumption | (go_simp; done)))
  have fW_1_0 : W.frozen? ⟨w.heap.size + 1, 0, none⟩ = false := by rw [hW]; exact (by first | (go_simp; done) | ((repeat rw [cell_al (by first | omega | (simp; omega) | simp)]); first | assumption | (go_simp; done)))
  have kW_1_1 : W.cell? ⟨w.heap.size + 1, 1, none⟩ = some (.int .i64 0) := by rw [hW]; exact (by first | (go_simp; done) | ((repeat rw [cell_al (by first | omega | (simp; omega) | simp)]); first | assumption | (go_simp; done)))
  have fW_1_1 : W.frozen? ⟨w.heap.size + 1, 1, none⟩ = false := by rw [hW]; exact (by first | (go_simp; done) | ((repeat rw [cell_al (by first | omega | (simp; omega) | simp)]); first | assumption | (go_simp; done)))
  have kW_1_2 : W.cell? ⟨w.heap.size + 1, 2, none⟩ = some (.int .i64 0) := by rw [hW]; exact (by first | (go_simp; done) | ((repeat rw [cell_al (by first | omega | (simp; omega) | simp)]); first | assumption | (go_simp; done)))
  have fW_1_2 : W.frozen? ⟨w.heap.size + 1, 2, none⟩ = false := by rw [hW]; exact (by first | (go_simp; done) | ((repeat rw [cell_al (by first | omega | (simp; omega) | simp)]); first | assumption | (go_simp; done)))
  have kW_1_3 : W.cell? ⟨w.heap.size + 1, 3, none⟩ = some (.int .i64 0) := by rw [hW]; exact (by first | (go_simp; done) | ((repeat rw [cell_al (by first | omega | (simp; omega) | simp)]); first | assumption | (go_simp; done)))
  have fW_1_3 : W.frozen? ⟨w.heap.size + 1, 3, none⟩ = false := by rw [hW]; exact (by first | (go_simp; done) | ((repeat rw [cell_al (by first | omega | (simp; omega) | simp)]); first | assumption | (go_simp; done)))
  have kW_1_4 : W.cell? ⟨w.heap.size + 1, 4, none⟩ = some (.int .i64 0) := by rw [hW]; exact (by first | (go_simp; done) | ((repeat rw [cell_al (by first | omega | (simp; omega) | simp)]); first | assumption | (go_simp; done)))
  have fW_1_4 : W.frozen? ⟨w.heap.size + 1, 4, none⟩ = false := by rw [hW]; exact (by first | (go_simp; done) | ((repeat rw [cell_al (by first | omega | (simp; omega) | simp)]); first | assumption | (go_simp; done)))
  have zW_1 : w.heap.size + 1 < W.heap.size := by rw [hW]; first | omega | (simp; omega) | simp
  have hBW : Below w.heap.size w W := by
    rw [hW]
    repeat (first | exact Below.refl _ _ | assumption | (refine Below.drew ?_) | (refine Below.setCell ?_ (by first | omega | (simp; omega) | simp) _) | (refine Below.alloc ?_ (by first | omega | (simp; omega) | simp) _) | (refine bthen (by assumption) ?_ (by first | omega | (simp; omega) | simp)))
  clear hW 
  have hvW := hBW.size
  have HS := SW.start W; have hB3 := Below.refl W.heap.size W; have hc := True.intro; have hcf := True.intro
  have hbw := byte_wrap
  clear HS hc hB3 hcf
  refine wp_region_row (S := fun β L w' => Below W.heap.size W w' ∧ Made 14 15 W [.int .i64 0, .int .i64 0, .int .i64 0, .int .i64 0, .int .i64 0] [.int .i64 ((s[0]'(by omega)).toNat : Int), .int .i64 ((s[1]'(by omega)).toNat : Int), .int .i64 (two (s[2]'(by omega)) (s[3]'(by omega))), .int .i64 (two (s[4]'(by omega)) (s[5]'(by omega))), .int .i64 ((s[6]'(by omega)).toNat : Int)] β L w') (fun _ => 0) (by kernel_rfl) (by kernel_rfl) ⟨(Below.refl _ _).drew, Made.start⟩ ?_
  refine' WalksL.op rfl ?hs ?hl ?hr
  case hs =>
    intro β L w' hi hp hS
    obtain ⟨hb, hX⟩ := hS
    have hc := (bcell hb).1
    have hz' := hb.size
    have hcf := (bcell hb).2
    go_simp
    exact Gives.value ⟨rfl, hb, hX.same (by decide) (by decide)⟩
  case hl => intros; first | rfl | (rename_i h h'; simp [upd] at *; (try rintro rfl); (try (revert h'; decide)))
  case hr =>
  simp only [Act.put, List.setIfInBounds_toArray, List.set_cons_zero, List.set_cons_succ, Nat.reduceAdd, Nat.zero_add]
  refine' WalksL.op rfl ?hs ?hl ?hr
  case hs =>
    intro β L w' hi hp hS
    obtain ⟨hb, hX⟩ := hS
    have hc := (bcell hb).1
    have hz' := hb.size
    have hcf := (bcell hb).2
    go_simp
    exact Gives.value ⟨rfl, hb, hX.same (by decide) (by decide)⟩
  case hl => intros; first | rfl | (rename_i h h'; simp [upd] at *; (try rintro rfl); (try (revert h'; decide)))
  case hr =>
  simp only [Act.put, List.setIfInBounds_toArray, List.set_cons_zero, List.set_cons_succ, Nat.reduceAdd, Nat.zero_add]
  refine' WalksL.op rfl ?hs ?hl ?hr
  case hs =>
    intro β L w' hi hp hS
    obtain ⟨hb, hX⟩ := hS
    have hc := (bcell hb).1
    have hz' := hb.size
    have hcf := (bcell hb).2
    go_simp
    exact Gives.value ⟨rfl, hb, hX.same (by decide) (by decide)⟩
  case hl => intros; first | rfl | (rename_i h h'; simp [upd] at *; (try rintro rfl); (try (revert h'; decide)))
  case hr =>
  simp only [Act.put, List.setIfInBounds_toArray, List.set_cons_zero, List.set_cons_succ, Nat.reduceAdd, Nat.zero_add]
  refine' WalksL.op rfl ?hs ?hl ?hr
  case hs =>
    intro β L w' hi hp hS
    obtain ⟨hb, hX⟩ := hS
    have hc := (bcell hb).1
    have hz' := hb.size
    have hcf := (bcell hb).2
    go_simp
    exact Gives.value ⟨rfl, hb, hX.same (by decide) (by decide)⟩
  case hl => intros; first | rfl | (rename_i h h'; simp [upd] at *; (try rintro rfl); (try (revert h'; decide)))
  case hr =>
  simp only [Act.put, List.setIfInBounds_toArray, List.set_cons_zero, List.set_cons_succ, Nat.reduceAdd, Nat.zero_add]
  refine' WalksL.op rfl ?hs ?hl ?hr
  case hs =>
    intro β L w' hi hp hS
    obtain ⟨hb, hX⟩ := hS
    have hc := (bcell hb).1
    have hz' := hb.size
    have hcf := (bcell hb).2
    go_simp
    exact Gives.value ⟨rfl, hb, hX.same (by decide) (by decide)⟩
  case hl => intros; first | rfl | (rename_i h h'; simp [upd] at *; (try rintro rfl); (try (revert h'; decide)))
  case hr =>
  simp only [Act.put, List.setIfInBounds_toArray, List.set_cons_zero, List.set_cons_succ, Nat.reduceAdd, Nat.zero_add]
  refine' WalksL.op rfl ?hs ?hl ?hr
  case hs =>
    intro β L w' hi hp hS
    obtain ⟨hb, hX⟩ := hS
    have hc := (bcell hb).1
    have hz' := hb.size
    have hcf := (bcell hb).2
    go_simp
    exact Gives.value ⟨rfl, hb, hX.same (by decide) (by decide)⟩
  case hl => intros; first | rfl | (rename_i h h'; simp [upd] at *; (try rintro rfl); (try (revert h'; decide)))
  case hr =>
  simp only [Act.put, List.setIfInBounds_toArray, List.set_cons_zero, List.set_cons_succ, Nat.reduceAdd, Nat.zero_add]
  refine' WalksL.op rfl ?hs ?hl ?hr
  case hs =>
    intro β L w' hi hp hS
    obtain ⟨hb, hX⟩ := hS
    have hc := (bcell hb).1
    have hz' := hb.size
    have hcf := (bcell hb).2
    go_simp
    exact Gives.value ⟨rfl, hb, hX.same (by decide) (by decide)⟩
  case hl => intros; first | rfl | (rename_i h h'; simp [upd] at *; (try rintro rfl); (try (revert h'; decide)))
  case hr =>
  simp only [Act.put, List.setIfInBounds_toArray, List.set_cons_zero, List.set_cons_succ, Nat.reduceAdd, Nat.zero_add]
  refine' WalksL.op rfl ?hs ?hl ?hr
  case hs =>
    intro β L w' hi hp hS
    obtain ⟨hb, hX⟩ := hS
    have hc := (bcell hb).1
    have hz' := hb.size
    have hcf := (bcell hb).2
    go_simp
    refine Gives.enter ?_
    first
    | (go_at_call 15; (with_reducible refine (two_2 s _ _ (by simp [*]) h8).mono ?_); rintro e w3 ⟨rfl, hb3⟩; exact ⟨_, rfl, rfl, bthen hb3 hb hb.size, hX.other (by decide) (by decide) hb3⟩)
    | (go_at_call 15; (with_reducible refine (two_4 s _ _ (by simp [*]) h8).mono ?_); rintro e w3 ⟨rfl, hb3⟩; exact ⟨_, rfl, rfl, bthen hb3 hb hb.size, hX.other (by decide) (by decide) hb3⟩)
  case hl => intros; first | rfl | (rename_i h h'; simp [upd] at *; (try rintro rfl); (try (revert h'; decide)))
  case hr =>
  simp only [Act.put, List.setIfInBounds_toArray, List.set_cons_zero, List.set_cons_succ, Nat.reduceAdd, Nat.zero_add]
  refine' WalksL.op rfl ?hs ?hl ?hr
  case hs =>
    intro β L w' hi hp hS
    obtain ⟨hb, hX⟩ := hS
    have hc := (bcell hb).1
    have hz' := hb.size
    have hcf := (bcell hb).2
    go_simp
    exact Gives.value ⟨rfl, hb, hX.same (by decide) (by decide)⟩
  case hl => intros; first | rfl | (rename_i h h'; simp [upd] at *; (try rintro rfl); (try (revert h'; decide)))
  case hr =>
  simp only [Act.put, List.setIfInBounds_toArray, List.set_cons_zero, List.set_cons_succ, Nat.reduceAdd, Nat.zero_add]
  refine' WalksL.op rfl ?hs ?hl ?hr
  case hs =>
    intro β L w' hi hp hS
    obtain ⟨hb, hX⟩ := hS
    have hc := (bcell hb).1
    have hz' := hb.size
    have hcf := (bcell hb).2
    go_simp
    refine Gives.enter ?_
    first
    | (go_at_call 15; (with_reducible refine (two_2 s _ _ (by simp [*]) h8).mono ?_); rintro e w3 ⟨rfl, hb3⟩; exact ⟨_, rfl, rfl, bthen hb3 hb hb.size, hX.other (by decide) (by decide) hb3⟩)
    | (go_at_call 15; (with_reducible refine (two_4 s _ _ (by simp [*]) h8).mono ?_); rintro e w3 ⟨rfl, hb3⟩; exact ⟨_, rfl, rfl, bthen hb3 hb hb.size, hX.other (by decide) (by decide) hb3⟩)
  case hl => intros; first | rfl | (rename_i h h'; simp [upd] at *; (try rintro rfl); (try (revert h'; decide)))
  case hr =>
  simp only [Act.put, List.setIfInBounds_toArray, List.set_cons_zero, List.set_cons_succ, Nat.reduceAdd, Nat.zero_add]
  refine' WalksL.op rfl ?hs ?hl ?hr
  case hs =>
    intro β L w' hi hp hS
    obtain ⟨hb, hX⟩ := hS
    have hc := (bcell hb).1
    have hz' := hb.size
    have hcf := (bcell hb).2
    go_simp
    exact Gives.value ⟨rfl, hb, hX.same (by decide) (by decide)⟩
  case hl => intros; first | rfl | (rename_i h h'; simp [upd] at *; (try rintro rfl); (try (revert h'; decide)))
  case hr =>
  simp only [Act.put, List.setIfInBounds_toArray, List.set_cons_zero, List.set_cons_succ, Nat.reduceAdd, Nat.zero_add]
  refine' WalksL.op rfl ?hs ?hl ?hr
  case hs =>
    intro β L w' hi hp hS
    obtain ⟨hb, hX⟩ := hS
    have hc := (bcell hb).1
    have hz' := hb.size
    have hcf := (bcell hb).2
    go_simp
    exact Gives.value ⟨rfl, hb, hX.same (by decide) (by decide)⟩
  case hl => intros; first | rfl | (rename_i h h'; simp [upd] at *; (try rintro rfl); (try (revert h'; decide)))
  case hr =>
  simp only [Act.put, List.setIfInBounds_toArray, List.set_cons_zero, List.set_cons_succ, Nat.reduceAdd, Nat.zero_add]
  refine' WalksL.op rfl ?hs ?hl ?hr
  case hs =>
    intro β L w' hi hp hS
    obtain ⟨hb, hX⟩ := hS
    have hc := (bcell hb).1
    have hz' := hb.size
    have hcf := (bcell hb).2
    go_simp
    exact Gives.value ⟨rfl, hb, hX.same (by decide) (by decide)⟩
  case hl => intros; first | rfl | (rename_i h h'; simp [upd] at *; (try rintro rfl); (try (revert h'; decide)))
  case hr =>
  simp only [Act.put, List.setIfInBounds_toArray, List.set_cons_zero, List.set_cons_succ, Nat.reduceAdd, Nat.zero_add]
  refine' WalksL.op rfl ?hs ?hl ?hr
  case hs =>
    intro β L w' hi hp hS
    obtain ⟨hb, hX⟩ := hS
    have hc := (bcell hb).1
    have hz' := hb.size
    have hcf := (bcell hb).2
    go_simp
    exact Gives.value ⟨rfl, hb, hX.same (by decide) (by decide)⟩
  case hl => intros; first | rfl | (rename_i h h'; simp [upd] at *; (try rintro rfl); (try (revert h'; decide)))
  case hr =>
  simp only [Act.put, List.setIfInBounds_toArray, List.set_cons_zero, List.set_cons_succ, Nat.reduceAdd, Nat.zero_add]
  refine' WalksL.make (fun b => .pointer (some ⟨b, 0, none⟩)) rfl ?hs ?hr
  case hs =>
    intro β L w' hi hp hS
    obtain ⟨hb, hX⟩ := hS
    have hc := (bcell hb).1
    have hz' := hb.size
    have hcf := (bcell hb).2
    go_simp
    exact Gives.value ⟨_, rfl, hb.alloc hb.size _, hX.make hi (by decide) ⟨hb.size, by simp, (by intro j u hj; rcases j with _ | _ | _ | _ | _ | j <;> simp at hj <;> subst hj <;> constructor <;> go_simp)⟩⟩
  case hr =>
  simp only [Act.put, List.setIfInBounds_toArray, List.set_cons_zero, List.set_cons_succ, Nat.reduceAdd, Nat.zero_add]
  refine' WalksL.op rfl ?hs ?hl ?hr
  case hs =>
    intro β L w' hi hp hS
    obtain ⟨hb, hX⟩ := hS
    have hc := (bcell hb).1
    have hz' := hb.size
    have hcf := (bcell hb).2
    have hF := hX.now (hp 14 (by kernel_rfl)) hi
    have hF1 := hF.1
    obtain ⟨hk0, hf0⟩ := hF.2.2 0 _ rfl
    obtain ⟨hk1, hf1⟩ := hF.2.2 1 _ rfl
    obtain ⟨hk2, hf2⟩ := hF.2.2 2 _ rfl
    obtain ⟨hk3, hf3⟩ := hF.2.2 3 _ rfl
    obtain ⟨hk4, hf4⟩ := hF.2.2 4 _ rfl
    go_simp
    exact Gives.skip ⟨rfl, by repeat (first | exact Below.refl _ _ | exact hb | (refine Below.drew ?_) | (refine Below.setCell ?_ (by first | omega | (simp; omega) | simp) _) | (refine Below.alloc ?_ (by first | omega | (simp; omega) | simp) _) | (refine bthen (by assumption) ?_ (by first | omega | (simp; omega) | simp))), hX.store (hp 14 (by kernel_rfl)) ⟨hF.1, by simpa using hF.2.1, (by intro j u hj; rcases j with _ | _ | _ | _ | _ | j <;> simp at hj <;> subst hj <;> constructor <;> go_simp)⟩⟩
  case hl => intros; first | rfl | (rename_i h h'; simp [upd] at *; (try rintro rfl); (try (revert h'; decide)))
  case hr =>
  simp only [Act.put, List.setIfInBounds_toArray, List.set_cons_zero, List.set_cons_succ, Nat.reduceAdd, Nat.zero_add]
  refine fun β L W2 hl hS => ?_
  obtain ⟨hb, hX⟩ := hS
  have hFr := hX.end (hl 14 (by decide)) (hl 15 (by decide))
  dsimp only
  generalize β 14 = bW2 at hFr ⊢
  have hF1 := hFr.1; have zW2_2 := hFr.2.1
  obtain ⟨kW2_2_0, fW2_2_0⟩ := hFr.2.2 0 _ rfl
  obtain ⟨kW2_2_1, fW2_2_1⟩ := hFr.2.2 1 _ rfl
  obtain ⟨kW2_2_2, fW2_2_2⟩ := hFr.2.2 2 _ rfl
  obtain ⟨kW2_2_3, fW2_2_3⟩ := hFr.2.2 3 _ rfl
  obtain ⟨kW2_2_4, fW2_2_4⟩ := hFr.2.2 4 _ rfl
  clear hX hl hFr β L
  have zW2_0 : w.heap.size < W2.heap.size := Nat.lt_of_lt_of_le zW_0 hb.size
  have kW2_0_0 := (hb.cell (p := ⟨w.heap.size, 0, none⟩) zW_0).trans kW_0_0
  have zW2_1 : w.heap.size + 1 < W2.heap.size := Nat.lt_of_lt_of_le zW_1 hb.size
  have kW2_1_0 := (hb.cell (p := ⟨w.heap.size + 1, 0, none⟩) zW_1).trans kW_1_0
  have fW2_1_0 := (hb.frozen (p := ⟨w.heap.size + 1, 0, none⟩) zW_1).trans fW_1_0
  have kW2_1_1 := (hb.cell (p := ⟨w.heap.size + 1, 1, none⟩) zW_1).trans kW_1_1
  have fW2_1_1 := (hb.frozen (p := ⟨w.heap.size + 1, 1, none⟩) zW_1).trans fW_1_1
  have kW2_1_2 := (hb.cell (p := ⟨w.heap.size + 1, 2, none⟩) zW_1).trans kW_1_2
  have fW2_1_2 := (hb.frozen (p := ⟨w.heap.size + 1, 2, none⟩) zW_1).trans fW_1_2
  have kW2_1_3 := (hb.cell (p := ⟨w.heap.size + 1, 3, none⟩) zW_1).trans kW_1_3
  have fW2_1_3 := (hb.frozen (p := ⟨w.heap.size + 1, 3, none⟩) zW_1).trans fW_1_3
  have kW2_1_4 := (hb.cell (p := ⟨w.heap.size + 1, 4, none⟩) zW_1).trans kW_1_4
  have fW2_1_4 := (hb.frozen (p := ⟨w.heap.size + 1, 4, none⟩) zW_1).trans fW_1_4
  have hBW2 : Below w.heap.size w W2 := bthen hb hBW hBW.size
  have hvW2 := hBW2.size; have hvvW2 := hb.size
  clear hb hBW kW_0_0 kW_1_0 kW_1_1 kW_1_2 kW_1_3 kW_1_4 zW_0 zW_1 fW_1_0 fW_1_1 fW_1_2 fW_1_3 fW_1_4
  have HS := SW.start W2; have hB3 := Below.refl W2.heap.size W2; have hc := True.intro; have hcf := True.intro
  clear hbw
  cases r
  · skip
    go_wp2_with (first
      | (go_at_call 12; (with_reducible refine (mayD_any _ _ _ _ _ _).mono ?_); rintro e w3 ⟨rfl, hb⟩; have hS' := HS.keep hb; clear hb HS hc hB3 hcf; have HS := hS'; clear hS'; have hc := HS.cells; have hB3 := HS.below; have hcf := HS.frz))
    refine bodyPost_ret (by simp [results, Try.results9, go_sem, *]; try rfl) rfl ?_
    refine ⟨rfl, ?_⟩
    repeat (first | exact Below.refl _ _ | assumption | (refine Below.drew ?_) | (refine Below.setCell ?_ (by first | omega | (simp; omega) | simp) _) | (refine Below.alloc ?_ (by first | omega | (simp; omega) | simp) _) | (refine bthen (by assumption) ?_ (by first | omega | (simp; omega) | simp)))
  · skip
    go_wp2_with (first
      | (go_at_call 12; (with_reducible refine (mayD_any _ _ _ _ _ _).mono ?_); rintro e w3 ⟨rfl, hb⟩; have hS' := HS.keep hb; clear hb HS hc hB3 hcf; have HS := hS'; clear hS'; have hc := HS.cells; have hB3 := HS.below; have hcf := HS.frz))
    refine bodyPost_ret (by simp [results, Try.results9, go_sem, *]; try rfl) rfl ?_
    refine ⟨rfl, ?_⟩
    repeat (first | exact Below.refl _ _ | assumption | (refine Below.drew ?_) | (refine Below.setCell ?_ (by first | omega | (simp; omega) | simp) _) | (refine Below.alloc ?_ (by first | omega | (simp; omega) | simp) _) | (refine bthen (by assumption) ?_ (by first | omega | (simp; omega) | simp)))
end Go.Proofs.Ytefcppldkepmhaa

