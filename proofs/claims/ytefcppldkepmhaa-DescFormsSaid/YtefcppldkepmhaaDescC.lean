/- Contracts of the reference's reading of a descriptor. No condition. -/
import Derived.Test.YtefcppldkepmhaaDescB
namespace Go.Proofs.Ytefcppldkepmhaa
open Go.RowKit
set_option linter.unusedVariables false
set_option linter.unusedSimpArgs false
theorem or_half (x y : UInt8) : bits .or .i64 (x.toNat : Int) (IntKind.i64.wrap ((y.toNat : Int) * 256)) = two x y := by
  have hy := y.toNat_lt
  rw [show IntKind.i64.wrap ((y.toNat : Int) * 256) = (y.toNat : Int) * 256 from IntWalk.i64_in _ ⟨by omega, by omega⟩, or_bytes]
set_option maxHeartbeats 4000000 in
theorem rget_len (s : ByteArray) (w : World) (h : (s.size : Int) ≠ 8) :
    Calls Try.prog 10 #[.string s] w fun e' w' => e' = .returned (.tuple #[.agg #[.int .i64 0, .int .i64 0, .int .i64 0, .int .i64 0, .int .i64 0], .int .i64 1600]) ∧ Below w.heap.size w w' := by
  have h1 : ((s.size : Int) != 8) = true := by simpa using h
  go_enter Try.func10, Try.ntmps10
  go_wp2_with fail
  go_returns
  exact ⟨rfl, by repeat (first | exact Below.refl _ _ | assumption | (refine Below.drew ?_) | (refine Below.setCell ?_ (by first | omega | (simp; omega) | simp) _) | (refine Below.alloc ?_ (by first | omega | (simp; omega) | simp) _) | (refine bthen (by assumption) ?_ (by first | omega | (simp; omega) | simp)))⟩
set_option maxHeartbeats 4000000 in
theorem rget_end (s : ByteArray) (w : World) (h8 : s.size = 8) (h : ((s[7]'(by omega)).toNat : Int) ≠ 0) :
    Calls Try.prog 10 #[.string s] w fun e' w' => e' = .returned (.tuple #[.agg #[.int .i64 0, .int .i64 0, .int .i64 0, .int .i64 0, .int .i64 0], .int .i64 1600]) ∧ Below w.heap.size w w' := by
  have h1 : (((s[7]'(by omega)).toNat : Int) != 0) = true := by simpa using h
  go_enter Try.func10, Try.ntmps10
  go_wp2_with fail
  go_returns
  exact ⟨rfl, by repeat (first | exact Below.refl _ _ | assumption | (refine Below.drew ?_) | (refine Below.setCell ?_ (by first | omega | (simp; omega) | simp) _) | (refine Below.alloc ?_ (by first | omega | (simp; omega) | simp) _) | (refine bthen (by assumption) ?_ (by first | omega | (simp; omega) | simp)))⟩
set_option maxHeartbeats 4000000 in
theorem rget_mid (s : ByteArray) (w : World) (h8 : s.size = 8) (h : ((s[7]'(by omega)).toNat : Int) = 0) (r : Bool) (hm : mayD ((s[0]'(by omega)).toNat : Int) ((s[1]'(by omega)).toNat : Int) (two (s[2]'(by omega)) (s[3]'(by omega))) (two (s[4]'(by omega)) (s[5]'(by omega))) ((s[6]'(by omega)).toNat : Int) = r) :
    Calls Try.prog 10 #[.string s] w fun e' w' => e' = .returned (gotD r ((s[0]'(by omega)).toNat : Int) ((s[1]'(by omega)).toNat : Int) (two (s[2]'(by omega)) (s[3]'(by omega))) (two (s[4]'(by omega)) (s[5]'(by omega))) ((s[6]'(by omega)).toNat : Int)) ∧ Below w.heap.size w w' := by
  have h1 : (((s[7]'(by omega)).toNat : Int) != 0) = false := by simpa using h
  clear h
  go_enter Try.func10, Try.ntmps10
  go_wp2_with fail
  refine name_world fun W hW => ?_
  have kW_0_0 : W.cell? ⟨w.heap.size, 0, none⟩ = some (.int .i64 0) := by rw [hW]; exact (by first | (go_simp; done) | ((repeat rw [cell_al (by first | omega | (simp; omega) | simp)]); first | assumption | (go_simp; done)))
  have fW_0_0 : W.frozen? ⟨w.heap.size, 0, none⟩ = false := by rw [hW]; exact (by first | (go_simp; done) | ((repeat rw [cell_al (by first | omega | (simp; omega) | simp)]); first | assumption | (go_simp; done)))
  have kW_0_1 : W.cell? ⟨w.heap.size, 1, none⟩ = some (.int .i64 0) := by rw [hW]; exact (by first | (go_simp; done) | ((repeat rw [cell_al (by first | omega | (simp; omega) | simp)]); first | assumption | (go_simp; done)))
  have fW_0_1 : W.frozen? ⟨w.heap.size, 1, none⟩ = false := by rw [hW]; exact (by first | (go_simp; done) | ((repeat rw [cell_al (by first | omega | (simp; omega) | simp)]); first | assumption | (go_simp; done)))
  have kW_0_2 : W.cell? ⟨w.heap.size, 2, none⟩ = some (.int .i64 0) := by rw [hW]; exact (by first | (go_simp; done) | ((repeat rw [cell_al (by first | omega | (simp; omega) | simp)]); first | assumption | (go_simp; done)))
  have fW_0_2 : W.frozen? ⟨w.heap.size, 2, none⟩ = false := by rw [hW]; exact (by first | (go_simp; done) | ((repeat rw [cell_al (by first | omega | (simp; omega) | simp)]); first | assumption | (go_simp; done)))
  have kW_0_3 : W.cell? ⟨w.heap.size, 3, none⟩ = some (.int .i64 0) := by rw [hW]; exact (by first | (go_simp; done) | ((repeat rw [cell_al (by first | omega | (simp; omega) | simp)]); first | assumption | (go_simp; done)))
  have fW_0_3 : W.frozen? ⟨w.heap.size, 3, none⟩ = false := by rw [hW]; exact (by first | (go_simp; done) | ((repeat rw [cell_al (by first | omega | (simp; omega) | simp)]); first | assumption | (go_simp; done)))
  have kW_0_4 : W.cell? ⟨w.heap.size, 4, none⟩ = some (.int .i64 0) := by rw [hW]; exact (by first | (go_simp; done) | ((repeat rw [cell_al (by first | omega | (simp; omega) | simp)]); first | assumption | (go_simp; done)))
  have fW_0_4 : W.frozen? ⟨w.heap.size, 4, none⟩ = false := by rw [hW]; exact (by first | (go_simp; done) | ((repeat rw [cell_al (by first | omega | (simp; omega) | simp)]); first | assumption | (go_simp; done)))
  have zW_0 : w.heap.size < W.heap.size := by rw [hW]; first | omega | (simp; omega) | simp
  have hBW : Below w.heap.size w W := by
    rw [hW]
    repeat (first | exact Below.refl _ _ | assumption | (refine Below.drew ?_) | (refine Below.setCell ?_ (by first | omega | (simp; omega) | simp) _) | (refine Below.alloc ?_ (by first | omega | (simp; omega) | simp) _) | (refine bthen (by assumption) ?_ (by first | omega | (simp; omega) | simp)))
  clear hW 
  have hvW := hBW.size
  have HS := SW.start W; have hB3 := Below.refl W.heap.size W; have hc := True.intro; have hcf := True.intro
  have hbw := byte_wrap
  have ho1 := or_bytes
  have ho2 := or_wrap
  have ho3 := or_half
  clear HS hc hB3 hcf
  refine wp_region_row (S := fun β L w' => Below W.heap.size W w' ∧ Made 26 27 W [.int .i64 0, .int .i64 0, .int .i64 0, .int .i64 0, .int .i64 0] [.int .i64 ((s[0]'(by omega)).toNat : Int), .int .i64 ((s[1]'(by omega)).toNat : Int), .int .i64 (two (s[2]'(by omega)) (s[3]'(by omega))), .int .i64 (two (s[4]'(by omega)) (s[5]'(by omega))), .int .i64 ((s[6]'(by omega)).toNat : Int)] β L w') (fun _ => 0) (by kernel_rfl) (by kernel_rfl) ⟨(Below.refl _ _).drew, Made.start⟩ ?_
  refine' WalksL.op rfl ?hs ?hl ?hr
  case hs =>
    intro β L w' hi hp hS
    obtain ⟨hb, hX⟩ := hS
    have hc := (bcell hb).1
    have hz' := hb.size
    have hcf := (bcell hb).2
    go_simp
    exact Gives.value ⟨rfl, hb, hX.same (by decide) (by decide)⟩
  case hl => intros; first | rfl | (rename_i h h'; simp [upd] at *; (try rintro rfl); (try (revert h'; decide)))
  case hr =>
  simp only [Act.put, List.setIfInBounds_toArray, List.set_cons_zero, List.set_cons_succ, Nat.reduceAdd, Nat.zero_add]
  refine' WalksL.op rfl ?hs ?hl ?hr
  case hs =>
    intro β L w' hi hp hS
    obtain ⟨hb, hX⟩ := hS
    have hc := (bcell hb).1
    have hz' := hb.size
    have hcf := (bcell hb).2
    go_simp
    exact Gives.value ⟨rfl, hb, hX.same (by decide) (by decide)⟩
  case hl => intros; first | rfl | (rename_i h h'; simp [upd] at *; (try rintro rfl); (try (revert h'; decide)))
  case hr =>
  simp only [Act.put, List.setIfInBounds_toArray, List.set_cons_zero, List.set_cons_succ, Nat.reduceAdd, Nat.zero_add]
  refine' WalksL.op rfl ?hs ?hl ?hr
  case hs =>
    intro β L w' hi hp hS
    obtain ⟨hb, hX⟩ := hS
    have hc := (bcell hb).1
    have hz' := hb.size
    have hcf := (bcell hb).2
    go_simp
    exact Gives.value ⟨rfl, hb, hX.same (by decide) (by decide)⟩
  case hl => intros; first | rfl | (rename_i h h'; simp [upd] at *; (try rintro rfl); (try (revert h'; decide)))
  case hr =>
  simp only [Act.put, List.setIfInBounds_toArray, List.set_cons_zero, List.set_cons_succ, Nat.reduceAdd, Nat.zero_add]
  refine' WalksL.op rfl ?hs ?hl ?hr
  case hs =>
    intro β L w' hi hp hS
    obtain ⟨hb, hX⟩ := hS
    have hc := (bcell hb).1
    have hz' := hb.size
    have hcf := (bcell hb).2
    go_simp
    exact Gives.value ⟨rfl, hb, hX.same (by decide) (by decide)⟩
  case hl => intros; first | rfl | (rename_i h h'; simp [upd] at *; (try rintro rfl); (try (revert h'; decide)))
  case hr =>
  simp only [Act.put, List.setIfInBounds_toArray, List.set_cons_zero, List.set_cons_succ, Nat.reduceAdd, Nat.zero_add]
  refine' WalksL.op rfl ?hs ?hl ?hr
  case hs =>
    intro β L w' hi hp hS
    obtain ⟨hb, hX⟩ := hS
    have hc := (bcell hb).1
    have hz' := hb.size
    have hcf := (bcell hb).2
    go_simp
    exact Gives.value ⟨rfl, hb, hX.same (by decide) (by decide)⟩
  case hl => intros; first | rfl | (rename_i h h'; simp [upd] at *; (try rintro rfl); (try (revert h'; decide)))
  case hr =>
  simp only [Act.put, List.setIfInBounds_toArray, List.set_cons_zero, List.set_cons_succ, Nat.reduceAdd, Nat.zero_add]
  refine' WalksL.op rfl ?hs ?hl ?hr
  case hs =>
    intro β L w' hi hp hS
    obtain ⟨hb, hX⟩ := hS
    have hc := (bcell hb).1
    have hz' := hb.size
    have hcf := (bcell hb).2
    go_simp
    exact Gives.value ⟨rfl, hb, hX.same (by decide) (by decide)⟩
  case hl => intros; first | rfl | (rename_i h h'; simp [upd] at *; (try rintro rfl); (try (revert h'; decide)))
  case hr =>
  simp only [Act.put, List.setIfInBounds_toArray, List.set_cons_zero, List.set_cons_succ, Nat.reduceAdd, Nat.zero_add]
  refine' WalksL.op rfl ?hs ?hl ?hr
  case hs =>
    intro β L w' hi hp hS
    obtain ⟨hb, hX⟩ := hS
    have hc := (bcell hb).1
    have hz' := hb.size
    have hcf := (bcell hb).2
    go_simp
    exact Gives.value ⟨rfl, hb, hX.same (by decide) (by decide)⟩
  case hl => intros; first | rfl | (rename_i h h'; simp [upd] at *; (try rintro rfl); (try (revert h'; decide)))
  case hr =>
  simp only [Act.put, List.setIfInBounds_toArray, List.set_cons_zero, List.set_cons_succ, Nat.reduceAdd, Nat.zero_add]
  refine' WalksL.op rfl ?hs ?hl ?hr
  case hs =>
    intro β L w' hi hp hS
    obtain ⟨hb, hX⟩ := hS
    have hc := (bcell hb).1
    have hz' := hb.size
    have hcf := (bcell hb).2
    go_simp
    exact Gives.value ⟨rfl, hb, hX.same (by decide) (by decide)⟩
  case hl => intros; first | rfl | (rename_i h h'; simp [upd] at *; (try rintro rfl); (try (revert h'; decide)))
  case hr =>
  simp only [Act.put, List.setIfInBounds_toArray, List.set_cons_zero, List.set_cons_succ, Nat.reduceAdd, Nat.zero_add]
  refine' WalksL.op rfl ?hs ?hl ?hr
  case hs =>
    intro β L w' hi hp hS
    obtain ⟨hb, hX⟩ := hS
    have hc := (bcell hb).1
    have hz' := hb.size
    have hcf := (bcell hb).2
    go_simp
    exact Gives.value ⟨rfl, hb, hX.same (by decide) (by decide)⟩
  case hl => intros; first | rfl | (rename_i h h'; simp [upd] at *; (try rintro rfl); (try (revert h'; decide)))
  case hr =>
  simp only [Act.put, List.setIfInBounds_toArray, List.set_cons_zero, List.set_cons_succ, Nat.reduceAdd, Nat.zero_add]
  refine' WalksL.op rfl ?hs ?hl ?hr
  case hs =>
    intro β L w' hi hp hS
    obtain ⟨hb, hX⟩ := hS
    have hc := (bcell hb).1
    have hz' := hb.size
    have hcf := (bcell hb).2
    go_simp
    exact Gives.value ⟨rfl, hb, hX.same (by decide) (by decide)⟩
  case hl => intros; first | rfl | (rename_i h h'; simp [upd] at *; (try rintro rfl); (try (revert h'; decide)))
  case hr =>
  simp only [Act.put, List.setIfInBounds_toArray, List.set_cons_zero, List.set_cons_succ, Nat.reduceAdd, Nat.zero_add]
  refine' WalksL.op rfl ?hs ?hl ?hr
  case hs =>
    intro β L w' hi hp hS
    obtain ⟨hb, hX⟩ := hS
    have hc := (bcell hb).1
    have hz' := hb.size
    have hcf := (bcell hb).2
    go_simp
    exact Gives.value ⟨rfl, hb, hX.same (by decide) (by decide)⟩
  case hl => intros; first | rfl | (rename_i h h'; simp [upd] at *; (try rintro rfl); (try (revert h'; decide)))
  case hr =>
  simp only [Act.put, List.setIfInBounds_toArray, List.set_cons_zero, List.set_cons_succ, Nat.reduceAdd, Nat.zero_add]
  refine' WalksL.op rfl ?hs ?hl ?hr
  case hs =>
    intro β L w' hi hp hS
    obtain ⟨hb, hX⟩ := hS
    have hc := (bcell hb).1
    have hz' := hb.size
    have hcf := (bcell hb).2
    go_simp
    exact Gives.value ⟨rfl, hb, hX.same (by decide) (by decide)⟩
  case hl => intros; first | rfl | (rename_i h h'; simp [upd] at *; (try rintro rfl); (try (revert h'; decide)))
  case hr =>
  simp only [Act.put, List.setIfInBounds_toArray, List.set_cons_zero, List.set_cons_succ, Nat.reduceAdd, Nat.zero_add]
  refine' WalksL.op rfl ?hs ?hl ?hr
  case hs =>
    intro β L w' hi hp hS
    obtain ⟨hb, hX⟩ := hS
    have hc := (bcell hb).1
    have hz' := hb.size
    have hcf := (bcell hb).2
    go_simp
    exact Gives.value ⟨rfl, hb, hX.same (by decide) (by decide)⟩
  case hl => intros; first | rfl | (rename_i h h'; simp [upd] at *; (try rintro rfl); (try (revert h'; decide)))
  case hr =>
  simp only [Act.put, List.setIfInBounds_toArray, List.set_cons_zero, List.set_cons_succ, Nat.reduceAdd, Nat.zero_add]
  refine' WalksL.op rfl ?hs ?hl ?hr
  case hs =>
    intro β L w' hi hp hS
    obtain ⟨hb, hX⟩ := hS
    have hc := (bcell hb).1
    have hz' := hb.size
    have hcf := (bcell hb).2
    go_simp
    exact Gives.value ⟨rfl, hb, hX.same (by decide) (by decide)⟩
  case hl => intros; first | rfl | (rename_i h h'; simp [upd] at *; (try rintro rfl); (try (revert h'; decide)))
  case hr =>
  simp only [Act.put, List.setIfInBounds_toArray, List.set_cons_zero, List.set_cons_succ, Nat.reduceAdd, Nat.zero_add]
  refine' WalksL.op rfl ?hs ?hl ?hr
  case hs =>
    intro β L w' hi hp hS
    obtain ⟨hb, hX⟩ := hS
    have hc := (bcell hb).1
    have hz' := hb.size
    have hcf := (bcell hb).2
    go_simp
    exact Gives.value ⟨rfl, hb, hX.same (by decide) (by decide)⟩
  case hl => intros; first | rfl | (rename_i h h'; simp [upd] at *; (try rintro rfl); (try (revert h'; decide)))
  case hr =>
  simp only [Act.put, List.setIfInBounds_toArray, List.set_cons_zero, List.set_cons_succ, Nat.reduceAdd, Nat.zero_add]
  refine' WalksL.op rfl ?hs ?hl ?hr
  case hs =>
    intro β L w' hi hp hS
    obtain ⟨hb, hX⟩ := hS
    have hc := (bcell hb).1
    have hz' := hb.size
    have hcf := (bcell hb).2
    go_simp
    exact Gives.value ⟨rfl, hb, hX.same (by decide) (by decide)⟩
  case hl => intros; first | rfl | (rename_i h h'; simp [upd] at *; (try rintro rfl); (try (revert h'; decide)))
  case hr =>
  simp only [Act.put, List.setIfInBounds_toArray, List.set_cons_zero, List.set_cons_succ, Nat.reduceAdd, Nat.zero_add]
  refine' WalksL.op rfl ?hs ?hl ?hr
  case hs =>
    intro β L w' hi hp hS
    obtain ⟨hb, hX⟩ := hS
    have hc := (bcell hb).1
    have hz' := hb.size
    have hcf := (bcell hb).2
    go_simp
    exact Gives.value ⟨rfl, hb, hX.same (by decide) (by decide)⟩
  case hl => intros; first | rfl | (rename_i h h'; simp [upd] at *; (try rintro rfl); (try (revert h'; decide)))
  case hr =>
  simp only [Act.put, List.setIfInBounds_toArray, List.set_cons_zero, List.set_cons_succ, Nat.reduceAdd, Nat.zero_add]
  refine' WalksL.op rfl ?hs ?hl ?hr
  case hs =>
    intro β L w' hi hp hS
    obtain ⟨hb, hX⟩ := hS
    have hc := (bcell hb).1
    have hz' := hb.size
    have hcf := (bcell hb).2
    go_simp
    exact Gives.value ⟨rfl, hb, hX.same (by decide) (by decide)⟩
  case hl => intros; first | rfl | (rename_i h h'; simp [upd] at *; (try rintro rfl); (try (revert h'; decide)))
  case hr =>
  simp only [Act.put, List.setIfInBounds_toArray, List.set_cons_zero, List.set_cons_succ, Nat.reduceAdd, Nat.zero_add]
  refine' WalksL.op rfl ?hs ?hl ?hr
  case hs =>
    intro β L w' hi hp hS
    obtain ⟨hb, hX⟩ := hS
    have hc := (bcell hb).1
    have hz' := hb.size
    have hcf := (bcell hb).2
    go_simp
    exact Gives.value ⟨rfl, hb, hX.same (by decide) (by decide)⟩
  case hl => intros; first | rfl | (rename_i h h'; simp [upd] at *; (try rintro rfl); (try (revert h'; decide)))
  case hr =>
  simp only [Act.put, List.setIfInBounds_toArray, List.set_cons_zero, List.set_cons_succ, Nat.reduceAdd, Nat.zero_add]
  refine' WalksL.op rfl ?hs ?hl ?hr
  case hs =>
    intro β L w' hi hp hS
    obtain ⟨hb, hX⟩ := hS
    have hc := (bcell hb).1
    have hz' := hb.size
    have hcf := (bcell hb).2
    go_simp
    exact Gives.value ⟨rfl, hb, hX.same (by decide) (by decide)⟩
  case hl => intros; first | rfl | (rename_i h h'; simp [upd] at *; (try rintro rfl); (try (revert h'; decide)))
  case hr =>
  simp only [Act.put, List.setIfInBounds_toArray, List.set_cons_zero, List.set_cons_succ, Nat.reduceAdd, Nat.zero_add]
  refine' WalksL.op rfl ?hs ?hl ?hr
  case hs =>
    intro β L w' hi hp hS
    obtain ⟨hb, hX⟩ := hS
    have hc := (bcell hb).1
    have hz' := hb.size
    have hcf := (bcell hb).2
    go_simp
    exact Gives.value ⟨rfl, hb, hX.same (by decide) (by decide)⟩
  case hl => intros; first | rfl | (rename_i h h'; simp [upd] at *; (try rintro rfl); (try (revert h'; decide)))
  case hr =>
  simp only [Act.put, List.setIfInBounds_toArray, List.set_cons_zero, List.set_cons_succ, Nat.reduceAdd, Nat.zero_add]
  refine' WalksL.op rfl ?hs ?hl ?hr
  case hs =>
    intro β L w' hi hp hS
    obtain ⟨hb, hX⟩ := hS
    have hc := (bcell hb).1
    have hz' := hb.size
    have hcf := (bcell hb).2
    go_simp
    exact Gives.value ⟨rfl, hb, hX.same (by decide) (by decide)⟩
  case hl => intros; first | rfl | (rename_i h h'; simp [upd] at *; (try rintro rfl); (try (revert h'; decide)))
  case hr =>
  simp only [Act.put, List.setIfInBounds_toArray, List.set_cons_zero, List.set_cons_succ, Nat.reduceAdd, Nat.zero_add]
  refine' WalksL.op rfl ?hs ?hl ?hr
  case hs =>
    intro β L w' hi hp hS
    obtain ⟨hb, hX⟩ := hS
    have hc := (bcell hb).1
    have hz' := hb.size
    have hcf := (bcell hb).2
    go_simp
    exact Gives.value ⟨rfl, hb, hX.same (by decide) (by decide)⟩
  case hl => intros; first | rfl | (rename_i h h'; simp [upd] at *; (try rintro rfl); (try (revert h'; decide)))
  case hr =>
  simp only [Act.put, List.setIfInBounds_toArray, List.set_cons_zero, List.set_cons_succ, Nat.reduceAdd, Nat.zero_add]
  refine' WalksL.op rfl ?hs ?hl ?hr
  case hs =>
    intro β L w' hi hp hS
    obtain ⟨hb, hX⟩ := hS
    have hc := (bcell hb).1
    have hz' := hb.size
    have hcf := (bcell hb).2
    go_simp
    exact Gives.value ⟨rfl, hb, hX.same (by decide) (by decide)⟩
  case hl => intros; first | rfl | (rename_i h h'; simp [upd] at *; (try rintro rfl); (try (revert h'; decide)))
  case hr =>
  simp only [Act.put, List.setIfInBounds_toArray, List.set_cons_zero, List.set_cons_succ, Nat.reduceAdd, Nat.zero_add]
  refine' WalksL.op rfl ?hs ?hl ?hr
  case hs =>
    intro β L w' hi hp hS
    obtain ⟨hb, hX⟩ := hS
    have hc := (bcell hb).1
    have hz' := hb.size
    have hcf := (bcell hb).2
    go_simp
    exact Gives.value ⟨rfl, hb, hX.same (by decide) (by decide)⟩
  case hl => intros; first | rfl | (rename_i h h'; simp [upd] at *; (try rintro rfl); (try (revert h'; decide)))
  case hr =>
  simp only [Act.put, List.setIfInBounds_toArray, List.set_cons_zero, List.set_cons_succ, Nat.reduceAdd, Nat.zero_add]
  refine' WalksL.op rfl ?hs ?hl ?hr
  case hs =>
    intro β L w' hi hp hS
    obtain ⟨hb, hX⟩ := hS
    have hc := (bcell hb).1
    have hz' := hb.size
    have hcf := (bcell hb).2
    go_simp
    exact Gives.value ⟨rfl, hb, hX.same (by decide) (by decide)⟩
  case hl => intros; first | rfl | (rename_i h h'; simp [upd] at *; (try rintro rfl); (try (revert h'; decide)))
  case hr =>
  simp only [Act.put, List.setIfInBounds_toArray, List.set_cons_zero, List.set_cons_succ, Nat.reduceAdd, Nat.zero_add]
  refine' WalksL.make (fun b => .pointer (some ⟨b, 0, none⟩)) rfl ?hs ?hr
  case hs =>
    intro β L w' hi hp hS
    obtain ⟨hb, hX⟩ := hS
    have hc := (bcell hb).1
    have hz' := hb.size
    have hcf := (bcell hb).2
    go_simp
    exact Gives.value ⟨_, rfl, hb.alloc hb.size _, hX.make hi (by decide) ⟨hb.size, by simp, (by intro j u hj; rcases j with _ | _ | _ | _ | _ | j <;> simp at hj <;> subst hj <;> constructor <;> go_simp)⟩⟩
  case hr =>
  simp only [Act.put, List.setIfInBounds_toArray, List.set_cons_zero, List.set_cons_succ, Nat.reduceAdd, Nat.zero_add]
  refine' WalksL.op rfl ?hs ?hl ?hr
  case hs =>
    intro β L w' hi hp hS
    obtain ⟨hb, hX⟩ := hS
    have hc := (bcell hb).1
    have hz' := hb.size
    have hcf := (bcell hb).2
    have hF := hX.now (hp 26 (by kernel_rfl)) hi
    have hF1 := hF.1
    obtain ⟨hk0, hf0⟩ := hF.2.2 0 _ rfl
    obtain ⟨hk1, hf1⟩ := hF.2.2 1 _ rfl
    obtain ⟨hk2, hf2⟩ := hF.2.2 2 _ rfl
    obtain ⟨hk3, hf3⟩ := hF.2.2 3 _ rfl
    obtain ⟨hk4, hf4⟩ := hF.2.2 4 _ rfl
    go_simp
    exact Gives.skip ⟨rfl, by repeat (first | exact Below.refl _ _ | exact hb | (refine Below.drew ?_) | (refine Below.setCell ?_ (by first | omega | (simp; omega) | simp) _) | (refine Below.alloc ?_ (by first | omega | (simp; omega) | simp) _) | (refine bthen (by assumption) ?_ (by first | omega | (simp; omega) | simp))), hX.store (hp 26 (by kernel_rfl)) ⟨hF.1, by simpa using hF.2.1, (by intro j u hj; rcases j with _ | _ | _ | _ | _ | j <;> simp at hj <;> subst hj <;> constructor <;> go_simp)⟩⟩
  case hl => intros; first | rfl | (rename_i h h'; simp [upd] at *; (try rintro rfl); (try (revert h'; decide)))
  case hr =>
  simp only [Act.put, List.setIfInBounds_toArray, List.set_cons_zero, List.set_cons_succ, Nat.reduceAdd, Nat.zero_add]
  refine fun β L W2 hl hS => ?_
  obtain ⟨hb, hX⟩ := hS
  have hFr := hX.end (hl 26 (by decide)) (hl 27 (by decide))
  dsimp only
  generalize β 26 = bW2 at hFr ⊢
  have hF1 := hFr.1; have zW2_1 := hFr.2.1
  obtain ⟨kW2_1_0, fW2_1_0⟩ := hFr.2.2 0 _ rfl
  obtain ⟨kW2_1_1, fW2_1_1⟩ := hFr.2.2 1 _ rfl
  obtain ⟨kW2_1_2, fW2_1_2⟩ := hFr.2.2 2 _ rfl
  obtain ⟨kW2_1_3, fW2_1_3⟩ := hFr.2.2 3 _ rfl
  obtain ⟨kW2_1_4, fW2_1_4⟩ := hFr.2.2 4 _ rfl
  clear hX hl hFr β L
  have zW2_0 : w.heap.size < W2.heap.size := Nat.lt_of_lt_of_le zW_0 hb.size
  have kW2_0_0 := (hb.cell (p := ⟨w.heap.size, 0, none⟩) zW_0).trans kW_0_0
  have fW2_0_0 := (hb.frozen (p := ⟨w.heap.size, 0, none⟩) zW_0).trans fW_0_0
  have kW2_0_1 := (hb.cell (p := ⟨w.heap.size, 1, none⟩) zW_0).trans kW_0_1
  have fW2_0_1 := (hb.frozen (p := ⟨w.heap.size, 1, none⟩) zW_0).trans fW_0_1
  have kW2_0_2 := (hb.cell (p := ⟨w.heap.size, 2, none⟩) zW_0).trans kW_0_2
  have fW2_0_2 := (hb.frozen (p := ⟨w.heap.size, 2, none⟩) zW_0).trans fW_0_2
  have kW2_0_3 := (hb.cell (p := ⟨w.heap.size, 3, none⟩) zW_0).trans kW_0_3
  have fW2_0_3 := (hb.frozen (p := ⟨w.heap.size, 3, none⟩) zW_0).trans fW_0_3
  have kW2_0_4 := (hb.cell (p := ⟨w.heap.size, 4, none⟩) zW_0).trans kW_0_4
  have fW2_0_4 := (hb.frozen (p := ⟨w.heap.size, 4, none⟩) zW_0).trans fW_0_4
  have hBW2 : Below w.heap.size w W2 := bthen hb hBW hBW.size
  have hvW2 := hBW2.size; have hvvW2 := hb.size
  clear hb hBW kW_0_0 kW_0_1 kW_0_2 kW_0_3 kW_0_4 zW_0 fW_0_0 fW_0_1 fW_0_2 fW_0_3 fW_0_4
  have HS := SW.start W2; have hB3 := Below.refl W2.heap.size W2; have hc := True.intro; have hcf := True.intro
  clear hbw ho1 ho2 ho3
  cases r
  · skip
    go_wp2_with (first
      | (go_at_call 13; (with_reducible refine (rmayD_any _ _ _ _ _ _).mono ?_); rintro e w3 ⟨rfl, hb⟩; have hS' := HS.keep hb; clear hb HS hc hB3 hcf; have HS := hS'; clear hS'; have hc := HS.cells; have hB3 := HS.below; have hcf := HS.frz))
    refine bodyPost_ret (by simp [results, Try.results10, go_sem, *]; try rfl) rfl ?_
    refine ⟨rfl, ?_⟩
    repeat (first | exact Below.refl _ _ | assumption | (refine Below.drew ?_) | (refine Below.setCell ?_ (by first | omega | (simp; omega) | simp) _) | (refine Below.alloc ?_ (by first | omega | (simp; omega) | simp) _) | (refine bthen (by assumption) ?_ (by first | omega | (simp; omega) | simp)))
  · skip
    go_wp2_with (first
      | (go_at_call 13; (with_reducible refine (rmayD_any _ _ _ _ _ _).mono ?_); rintro e w3 ⟨rfl, hb⟩; have hS' := HS.keep hb; clear hb HS hc hB3 hcf; have HS := hS'; clear hS'; have hc := HS.cells; have hB3 := HS.below; have hcf := HS.frz))
    refine bodyPost_ret (by simp [results, Try.results10, go_sem, *]; try rfl) rfl ?_
    refine ⟨rfl, ?_⟩
    repeat (first | exact Below.refl _ _ | assumption | (refine Below.drew ?_) | (refine Below.setCell ?_ (by first | omega | (simp; omega) | simp) _) | (refine Below.alloc ?_ (by first | omega | (simp; omega) | simp) _) | (refine bthen (by assumption) ?_ (by first | omega | (simp; omega) | simp)))
end Go.Proofs.Ytefcppldkepmhaa

