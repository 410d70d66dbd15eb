/- Package nic: contracts of the document's Decimal, and of SameMessages. No condition. -/
import Derived.Test.YtkekeomkbcghnaaAgO
import Derived.ProofKit
import Derived.WalkKit
import Derived.Handy
import Derived.Below
import Derived.Lib.SliceRun
import Derived.Test.YtkekeomkbcghnaaProg
namespace Go.Proofs.Ytkekeomkbcghnaa.nc
open Go Go.Proofs Go.AE Go.RowKit
set_option maxRecDepth 100000
set_option linter.unusedVariables false
set_option linter.unusedSimpArgs false
theorem pk : PK Try.prog [41] := ⟨by kernel_rfl, by kernel_rfl, good_of (by kernel_rfl), nonum_of (by kernel_rfl)⟩
/-- the digits of a small number -/
def decB (x : Nat) : ByteArray := if x < 10 then ⟨#[UInt8.ofNat (48 + x)]⟩ else ⟨#[UInt8.ofNat (48 + x / 10), UInt8.ofNat (48 + x % 10)]⟩
theorem size_decB (x : Nat) : 1 ≤ (decB x).size ∧ (decB x).size ≤ 2 := by
  unfold decB; split <;> exact ⟨Nat.le_of_ble_eq_true rfl, Nat.le_of_ble_eq_true rfl⟩
def cDec : C1 := fun xs s => match xs with
  | [.int .i64 x] => some (0 ≤ x ∧ x < 60, .str (decB (Int.toNat x)), s)
  | _ => none

theorem dec_0 : (callK (Hn Try.prog False cond [41] 100) Try.prog 25 [.int .i64 ((0 : Nat) : Int)] s0 (fun v _ => v = .str (decB 0))) = (SV.str (decB 0) = SV.str (decB 0)) := by kernel_rfl
theorem dec_1 : (callK (Hn Try.prog False cond [41] 100) Try.prog 25 [.int .i64 ((1 : Nat) : Int)] s0 (fun v _ => v = .str (decB 1))) = (SV.str (decB 1) = SV.str (decB 1)) := by kernel_rfl
theorem dec_2 : (callK (Hn Try.prog False cond [41] 100) Try.prog 25 [.int .i64 ((2 : Nat) : Int)] s0 (fun v _ => v = .str (decB 2))) = (SV.str (decB 2) = SV.str (decB 2)) := by kernel_rfl
theorem dec_3 : (callK (Hn Try.prog False cond [41] 100) Try.prog 25 [.int .i64 ((3 : Nat) : Int)] s0 (fun v _ => v = .str (decB 3))) = (SV.str (decB 3) = SV.str (decB 3)) := by kernel_rfl
theorem dec_4 : (callK (Hn Try.prog False cond [41] 100) Try.prog 25 [.int .i64 ((4 : Nat) : Int)] s0 (fun v _ => v = .str (decB 4))) = (SV.str (decB 4) = SV.str (decB 4)) := by kernel_rfl
theorem dec_5 : (callK (Hn Try.prog False cond [41] 100) Try.prog 25 [.int .i64 ((5 : Nat) : Int)] s0 (fun v _ => v = .str (decB 5))) = (SV.str (decB 5) = SV.str (decB 5)) := by kernel_rfl
theorem dec_6 : (callK (Hn Try.prog False cond [41] 100) Try.prog 25 [.int .i64 ((6 : Nat) : Int)] s0 (fun v _ => v = .str (decB 6))) = (SV.str (decB 6) = SV.str (decB 6)) := by kernel_rfl
theorem dec_7 : (callK (Hn Try.prog False cond [41] 100) Try.prog 25 [.int .i64 ((7 : Nat) : Int)] s0 (fun v _ => v = .str (decB 7))) = (SV.str (decB 7) = SV.str (decB 7)) := by kernel_rfl
theorem dec_8 : (callK (Hn Try.prog False cond [41] 100) Try.prog 25 [.int .i64 ((8 : Nat) : Int)] s0 (fun v _ => v = .str (decB 8))) = (SV.str (decB 8) = SV.str (decB 8)) := by kernel_rfl
theorem dec_9 : (callK (Hn Try.prog False cond [41] 100) Try.prog 25 [.int .i64 ((9 : Nat) : Int)] s0 (fun v _ => v = .str (decB 9))) = (SV.str (decB 9) = SV.str (decB 9)) := by kernel_rfl
theorem dec_10 : (callK (Hn Try.prog False cond [41] 100) Try.prog 25 [.int .i64 ((10 : Nat) : Int)] s0 (fun v _ => v = .str (decB 10))) = (SV.str (decB 10) = SV.str (decB 10)) := by kernel_rfl
theorem dec_11 : (callK (Hn Try.prog False cond [41] 100) Try.prog 25 [.int .i64 ((11 : Nat) : Int)] s0 (fun v _ => v = .str (decB 11))) = (SV.str (decB 11) = SV.str (decB 11)) := by kernel_rfl
theorem dec_12 : (callK (Hn Try.prog False cond [41] 100) Try.prog 25 [.int .i64 ((12 : Nat) : Int)] s0 (fun v _ => v = .str (decB 12))) = (SV.str (decB 12) = SV.str (decB 12)) := by kernel_rfl
theorem dec_13 : (callK (Hn Try.prog False cond [41] 100) Try.prog 25 [.int .i64 ((13 : Nat) : Int)] s0 (fun v _ => v = .str (decB 13))) = (SV.str (decB 13) = SV.str (decB 13)) := by kernel_rfl
theorem dec_14 : (callK (Hn Try.prog False cond [41] 100) Try.prog 25 [.int .i64 ((14 : Nat) : Int)] s0 (fun v _ => v = .str (decB 14))) = (SV.str (decB 14) = SV.str (decB 14)) := by kernel_rfl
theorem dec_15 : (callK (Hn Try.prog False cond [41] 100) Try.prog 25 [.int .i64 ((15 : Nat) : Int)] s0 (fun v _ => v = .str (decB 15))) = (SV.str (decB 15) = SV.str (decB 15)) := by kernel_rfl
theorem dec_16 : (callK (Hn Try.prog False cond [41] 100) Try.prog 25 [.int .i64 ((16 : Nat) : Int)] s0 (fun v _ => v = .str (decB 16))) = (SV.str (decB 16) = SV.str (decB 16)) := by kernel_rfl
theorem dec_17 : (callK (Hn Try.prog False cond [41] 100) Try.prog 25 [.int .i64 ((17 : Nat) : Int)] s0 (fun v _ => v = .str (decB 17))) = (SV.str (decB 17) = SV.str (decB 17)) := by kernel_rfl
theorem dec_18 : (callK (Hn Try.prog False cond [41] 100) Try.prog 25 [.int .i64 ((18 : Nat) : Int)] s0 (fun v _ => v = .str (decB 18))) = (SV.str (decB 18) = SV.str (decB 18)) := by kernel_rfl
theorem dec_19 : (callK (Hn Try.prog False cond [41] 100) Try.prog 25 [.int .i64 ((19 : Nat) : Int)] s0 (fun v _ => v = .str (decB 19))) = (SV.str (decB 19) = SV.str (decB 19)) := by kernel_rfl
theorem dec_20 : (callK (Hn Try.prog False cond [41] 100) Try.prog 25 [.int .i64 ((20 : Nat) : Int)] s0 (fun v _ => v = .str (decB 20))) = (SV.str (decB 20) = SV.str (decB 20)) := by kernel_rfl
theorem dec_21 : (callK (Hn Try.prog False cond [41] 100) Try.prog 25 [.int .i64 ((21 : Nat) : Int)] s0 (fun v _ => v = .str (decB 21))) = (SV.str (decB 21) = SV.str (decB 21)) := by kernel_rfl
theorem dec_22 : (callK (Hn Try.prog False cond [41] 100) Try.prog 25 [.int .i64 ((22 : Nat) : Int)] s0 (fun v _ => v = .str (decB 22))) = (SV.str (decB 22) = SV.str (decB 22)) := by kernel_rfl
theorem dec_23 : (callK (Hn Try.prog False cond [41] 100) Try.prog 25 [.int .i64 ((23 : Nat) : Int)] s0 (fun v _ => v = .str (decB 23))) = (SV.str (decB 23) = SV.str (decB 23)) := by kernel_rfl
theorem dec_24 : (callK (Hn Try.prog False cond [41] 100) Try.prog 25 [.int .i64 ((24 : Nat) : Int)] s0 (fun v _ => v = .str (decB 24))) = (SV.str (decB 24) = SV.str (decB 24)) := by kernel_rfl
theorem dec_25 : (callK (Hn Try.prog False cond [41] 100) Try.prog 25 [.int .i64 ((25 : Nat) : Int)] s0 (fun v _ => v = .str (decB 25))) = (SV.str (decB 25) = SV.str (decB 25)) := by kernel_rfl
theorem dec_26 : (callK (Hn Try.prog False cond [41] 100) Try.prog 25 [.int .i64 ((26 : Nat) : Int)] s0 (fun v _ => v = .str (decB 26))) = (SV.str (decB 26) = SV.str (decB 26)) := by kernel_rfl
theorem dec_27 : (callK (Hn Try.prog False cond [41] 100) Try.prog 25 [.int .i64 ((27 : Nat) : Int)] s0 (fun v _ => v = .str (decB 27))) = (SV.str (decB 27) = SV.str (decB 27)) := by kernel_rfl
theorem dec_28 : (callK (Hn Try.prog False cond [41] 100) Try.prog 25 [.int .i64 ((28 : Nat) : Int)] s0 (fun v _ => v = .str (decB 28))) = (SV.str (decB 28) = SV.str (decB 28)) := by kernel_rfl
theorem dec_29 : (callK (Hn Try.prog False cond [41] 100) Try.prog 25 [.int .i64 ((29 : Nat) : Int)] s0 (fun v _ => v = .str (decB 29))) = (SV.str (decB 29) = SV.str (decB 29)) := by kernel_rfl
theorem dec_30 : (callK (Hn Try.prog False cond [41] 100) Try.prog 25 [.int .i64 ((30 : Nat) : Int)] s0 (fun v _ => v = .str (decB 30))) = (SV.str (decB 30) = SV.str (decB 30)) := by kernel_rfl
theorem dec_31 : (callK (Hn Try.prog False cond [41] 100) Try.prog 25 [.int .i64 ((31 : Nat) : Int)] s0 (fun v _ => v = .str (decB 31))) = (SV.str (decB 31) = SV.str (decB 31)) := by kernel_rfl
theorem dec_32 : (callK (Hn Try.prog False cond [41] 100) Try.prog 25 [.int .i64 ((32 : Nat) : Int)] s0 (fun v _ => v = .str (decB 32))) = (SV.str (decB 32) = SV.str (decB 32)) := by kernel_rfl
theorem dec_33 : (callK (Hn Try.prog False cond [41] 100) Try.prog 25 [.int .i64 ((33 : Nat) : Int)] s0 (fun v _ => v = .str (decB 33))) = (SV.str (decB 33) = SV.str (decB 33)) := by kernel_rfl
theorem dec_34 : (callK (Hn Try.prog False cond [41] 100) Try.prog 25 [.int .i64 ((34 : Nat) : Int)] s0 (fun v _ => v = .str (decB 34))) = (SV.str (decB 34) = SV.str (decB 34)) := by kernel_rfl
theorem dec_35 : (callK (Hn Try.prog False cond [41] 100) Try.prog 25 [.int .i64 ((35 : Nat) : Int)] s0 (fun v _ => v = .str (decB 35))) = (SV.str (decB 35) = SV.str (decB 35)) := by kernel_rfl
theorem dec_36 : (callK (Hn Try.prog False cond [41] 100) Try.prog 25 [.int .i64 ((36 : Nat) : Int)] s0 (fun v _ => v = .str (decB 36))) = (SV.str (decB 36) = SV.str (decB 36)) := by kernel_rfl
theorem dec_37 : (callK (Hn Try.prog False cond [41] 100) Try.prog 25 [.int .i64 ((37 : Nat) : Int)] s0 (fun v _ => v = .str (decB 37))) = (SV.str (decB 37) = SV.str (decB 37)) := by kernel_rfl
theorem dec_38 : (callK (Hn Try.prog False cond [41] 100) Try.prog 25 [.int .i64 ((38 : Nat) : Int)] s0 (fun v _ => v = .str (decB 38))) = (SV.str (decB 38) = SV.str (decB 38)) := by kernel_rfl
theorem dec_39 : (callK (Hn Try.prog False cond [41] 100) Try.prog 25 [.int .i64 ((39 : Nat) : Int)] s0 (fun v _ => v = .str (decB 39))) = (SV.str (decB 39) = SV.str (decB 39)) := by kernel_rfl
theorem dec_40 : (callK (Hn Try.prog False cond [41] 100) Try.prog 25 [.int .i64 ((40 : Nat) : Int)] s0 (fun v _ => v = .str (decB 40))) = (SV.str (decB 40) = SV.str (decB 40)) := by kernel_rfl
theorem dec_41 : (callK (Hn Try.prog False cond [41] 100) Try.prog 25 [.int .i64 ((41 : Nat) : Int)] s0 (fun v _ => v = .str (decB 41))) = (SV.str (decB 41) = SV.str (decB 41)) := by kernel_rfl
theorem dec_42 : (callK (Hn Try.prog False cond [41] 100) Try.prog 25 [.int .i64 ((42 : Nat) : Int)] s0 (fun v _ => v = .str (decB 42))) = (SV.str (decB 42) = SV.str (decB 42)) := by kernel_rfl
theorem dec_43 : (callK (Hn Try.prog False cond [41] 100) Try.prog 25 [.int .i64 ((43 : Nat) : Int)] s0 (fun v _ => v = .str (decB 43))) = (SV.str (decB 43) = SV.str (decB 43)) := by kernel_rfl
theorem dec_44 : (callK (Hn Try.prog False cond [41] 100) Try.prog 25 [.int .i64 ((44 : Nat) : Int)] s0 (fun v _ => v = .str (decB 44))) = (SV.str (decB 44) = SV.str (decB 44)) := by kernel_rfl
theorem dec_45 : (callK (Hn Try.prog False cond [41] 100) Try.prog 25 [.int .i64 ((45 : Nat) : Int)] s0 (fun v _ => v = .str (decB 45))) = (SV.str (decB 45) = SV.str (decB 45)) := by kernel_rfl
theorem dec_46 : (callK (Hn Try.prog False cond [41] 100) Try.prog 25 [.int .i64 ((46 : Nat) : Int)] s0 (fun v _ => v = .str (decB 46))) = (SV.str (decB 46) = SV.str (decB 46)) := by kernel_rfl
theorem dec_47 : (callK (Hn Try.prog False cond [41] 100) Try.prog 25 [.int .i64 ((47 : Nat) : Int)] s0 (fun v _ => v = .str (decB 47))) = (SV.str (decB 47) = SV.str (decB 47)) := by kernel_rfl
theorem dec_48 : (callK (Hn Try.prog False cond [41] 100) Try.prog 25 [.int .i64 ((48 : Nat) : Int)] s0 (fun v _ => v = .str (decB 48))) = (SV.str (decB 48) = SV.str (decB 48)) := by kernel_rfl
theorem dec_49 : (callK (Hn Try.prog False cond [41] 100) Try.prog 25 [.int .i64 ((49 : Nat) : Int)] s0 (fun v _ => v = .str (decB 49))) = (SV.str (decB 49) = SV.str (decB 49)) := by kernel_rfl
theorem dec_50 : (callK (Hn Try.prog False cond [41] 100) Try.prog 25 [.int .i64 ((50 : Nat) : Int)] s0 (fun v _ => v = .str (decB 50))) = (SV.str (decB 50) = SV.str (decB 50)) := by kernel_rfl
theorem dec_51 : (callK (Hn Try.prog False cond [41] 100) Try.prog 25 [.int .i64 ((51 : Nat) : Int)] s0 (fun v _ => v = .str (decB 51))) = (SV.str (decB 51) = SV.str (decB 51)) := by kernel_rfl
theorem dec_52 : (callK (Hn Try.prog False cond [41] 100) Try.prog 25 [.int .i64 ((52 : Nat) : Int)] s0 (fun v _ => v = .str (decB 52))) = (SV.str (decB 52) = SV.str (decB 52)) := by kernel_rfl
theorem dec_53 : (callK (Hn Try.prog False cond [41] 100) Try.prog 25 [.int .i64 ((53 : Nat) : Int)] s0 (fun v _ => v = .str (decB 53))) = (SV.str (decB 53) = SV.str (decB 53)) := by kernel_rfl
theorem dec_54 : (callK (Hn Try.prog False cond [41] 100) Try.prog 25 [.int .i64 ((54 : Nat) : Int)] s0 (fun v _ => v = .str (decB 54))) = (SV.str (decB 54) = SV.str (decB 54)) := by kernel_rfl
theorem dec_55 : (callK (Hn Try.prog False cond [41] 100) Try.prog 25 [.int .i64 ((55 : Nat) : Int)] s0 (fun v _ => v = .str (decB 55))) = (SV.str (decB 55) = SV.str (decB 55)) := by kernel_rfl
theorem dec_56 : (callK (Hn Try.prog False cond [41] 100) Try.prog 25 [.int .i64 ((56 : Nat) : Int)] s0 (fun v _ => v = .str (decB 56))) = (SV.str (decB 56) = SV.str (decB 56)) := by kernel_rfl
theorem dec_57 : (callK (Hn Try.prog False cond [41] 100) Try.prog 25 [.int .i64 ((57 : Nat) : Int)] s0 (fun v _ => v = .str (decB 57))) = (SV.str (decB 57) = SV.str (decB 57)) := by kernel_rfl
theorem dec_58 : (callK (Hn Try.prog False cond [41] 100) Try.prog 25 [.int .i64 ((58 : Nat) : Int)] s0 (fun v _ => v = .str (decB 58))) = (SV.str (decB 58) = SV.str (decB 58)) := by kernel_rfl
theorem dec_59 : (callK (Hn Try.prog False cond [41] 100) Try.prog 25 [.int .i64 ((59 : Nat) : Int)] s0 (fun v _ => v = .str (decB 59))) = (SV.str (decB 59) = SV.str (decB 59)) := by kernel_rfl
theorem dec_w (k : Nat) (hk : k < 60) : callK (Hn Try.prog False cond [41] 100) Try.prog 25 [.int .i64 (k : Int)] s0 (fun v _ => v = .str (decB k)) = (SV.str (decB k) = SV.str (decB k)) := match k, hk with
  | 0, _ => dec_0
  | 1, _ => dec_1
  | 2, _ => dec_2
  | 3, _ => dec_3
  | 4, _ => dec_4
  | 5, _ => dec_5
  | 6, _ => dec_6
  | 7, _ => dec_7
  | 8, _ => dec_8
  | 9, _ => dec_9
  | 10, _ => dec_10
  | 11, _ => dec_11
  | 12, _ => dec_12
  | 13, _ => dec_13
  | 14, _ => dec_14
  | 15, _ => dec_15
  | 16, _ => dec_16
  | 17, _ => dec_17
  | 18, _ => dec_18
  | 19, _ => dec_19
  | 20, _ => dec_20
  | 21, _ => dec_21
  | 22, _ => dec_22
  | 23, _ => dec_23
  | 24, _ => dec_24
  | 25, _ => dec_25
  | 26, _ => dec_26
  | 27, _ => dec_27
  | 28, _ => dec_28
  | 29, _ => dec_29
  | 30, _ => dec_30
  | 31, _ => dec_31
  | 32, _ => dec_32
  | 33, _ => dec_33
  | 34, _ => dec_34
  | 35, _ => dec_35
  | 36, _ => dec_36
  | 37, _ => dec_37
  | 38, _ => dec_38
  | 39, _ => dec_39
  | 40, _ => dec_40
  | 41, _ => dec_41
  | 42, _ => dec_42
  | 43, _ => dec_43
  | 44, _ => dec_44
  | 45, _ => dec_45
  | 46, _ => dec_46
  | 47, _ => dec_47
  | 48, _ => dec_48
  | 49, _ => dec_49
  | 50, _ => dec_50
  | 51, _ => dec_51
  | 52, _ => dec_52
  | 53, _ => dec_53
  | 54, _ => dec_54
  | 55, _ => dec_55
  | 56, _ => dec_56
  | 57, _ => dec_57
  | 58, _ => dec_58
  | 59, _ => dec_59
  | k + 60, h => absurd h (by omega)
/-! ### messages: rows of a number and a text -/
def rM (f : Nat → Int) (d : Nat → ByteArray) (k : Nat) : List SV := [.int .i64 (f k), .str (d k)]
def gs (r : List SV) (k : Nat) : ByteArray := match r[k]? with
  | some (.str b) => b
  | _ => ⟨#[]⟩
abbrev fO (row : Nat → List SV) : Nat → Int := fun k => gi (row k) 0
abbrev dO (row : Nat → List SV) : Nat → ByteArray := fun k => gs (row k) 1
theorem lowL_rM (n : Nat) (f : Nat → Int) (d : Nat → ByteArray) (k : Nat) : lowL n (rM f d k) = true := rfl
theorem renL_rM (π : Nat → Nat) (f : Nat → Int) (d : Nat → ByteArray) (k : Nat) : renL π (rM f d k) = rM f d k := rfl
def eqM (f f' : Nat → Int) (d d' : Nat → ByteArray) (k : Nat) : Bool := decide (f k = f' k) && seqB (d k) (d' k)
def neM (f f' : Nat → Int) (d d' : Nat → ByteArray) (k : Nat) : Bool := !eqM f f' d d' k
def sameM (f : Nat → Int) (d : Nat → ByteArray) (n : Nat) (f' : Nat → Int) (d' : Nat → ByteArray) (m : Nat) : Bool := decide (n = m ∧ fi (neM f f' d d') n = n)
theorem seqB_of {a b : ByteArray} (h : a = b) : seqB a b = true := by subst h; simp [seqB]
theorem nm_0 {f f' : Nat → Int} {d d' : Nat → ByteArray} {i : Nat} (h : f i = f' i ∧ seqB (d i) (d' i) = true) : neM f f' d d' i = false := by unfold neM eqM; rw [decide_eq_true h.1, h.2]; rfl
theorem nm_1 {f f' : Nat → Int} {d d' : Nat → ByteArray} {i : Nat} (h : f i = f' i → seqB (d i) (d' i) = false) : neM f f' d d' i = true := by unfold neM eqM; (cases g : decide (f i = f' i) with | true => (rw [h (of_decide_eq_true g)]; rfl) | false => rfl)
theorem sameM_yes {f f' : Nat → Int} {d d' : Nat → ByteArray} {n m : Nat} (h : n = m) (h2 : ∀ k, k < n → f k = f' k ∧ d k = d' k) : sameM f d n f' d' m = true :=
  decide_eq_true ⟨h, fi_all.2 fun k hk => by unfold neM eqM; rw [decide_eq_true (h2 k hk).1, seqB_of (h2 k hk).2]; rfl⟩
def SM (f : Nat → Int) (d : Nat → ByteArray) (N : Nat) (f' : Nat → Int) (d' : Nat → ByteArray) (M : Nat) : St := { h := [(0, 0, .fam 2 true N (rM f d)), (1, 0, .fam 2 true M (rM f' d'))], nx := 2, ck := 1, st := 1 }
def T_m (n i : Nat) : List SV := fr 26 [(0, .sl 0 0 n n false), (1, .sl 1 0 n n false), (4, .bool false), (5, .int .i64 i)]
def Tr_m : List SV := fr 26 [(4, .bool false)]
theorem r_m (f : Nat → Int) (d : Nat → ByteArray) (N : Nat) (f' : Nat → Int) (d' : Nat → ByteArray) (M n i : Nat) (hN : n ≤ N) (hM : n ≤ M) (hb : n ≤ 9223372036854775807) (hi : i ≤ n) (hI : fi (neM f f' d d') i = i) : ∃ r, exec (HS Try.prog [41] (ctrL [])) Try.prog (lp Try.prog 20 0) (T_m n i) (SM f d N f' d' M) (kN 2 (T_m n) (fun _ => SM f d N f' d' M) (fun i => n - i) (fun i => i ≤ n ∧ fi (neM f f' d d') i = i) i) (kX 2 (two (fi (neM f f' d d') n = n) (fi (neM f f' d d') n < n)) (out2 (.x 0 (T_m n n) (SM f d N f' d' M)) (.r Tr_m (SM f d N f' d' M)))) (kR 2 (two (fi (neM f f' d d') n = n) (fi (neM f f' d d') n < n)) (out2 (.x 0 (T_m n n) (SM f d N f' d' M)) (.r Tr_m (SM f d N f' d' M)))) r := by
  refine ⟨.B (.tn 4 <| .B (.E (1) []) (.E (i + 1) [])) (.E (0) []), Go.AE.kchange (b := (((decide ((↑i : Int) < (↑n : Int))) = true → (decide ((0 : Int) ≤ (↑i : Int)) && decide ((↑i : Int) < (↑n : Int))) = true ∧
 (decide (0 + Int.toNat (↑i : Int) * 1 < N)) = true ∧
 (decide ((0 : Int) ≤ (↑i : Int)) && decide ((↑i : Int) < (↑n : Int))) = true ∧
 (decide (0 + Int.toNat (↑i : Int) * 1 < M)) = true ∧
 (((!(f (0 + Int.toNat (↑i : Int) * 1) == f' (0 + Int.toNat (↑i : Int) * 1) && (Go.AE.seqB (d (0 + Int.toNat (↑i : Int) * 1)) (d' (0 + Int.toNat (↑i : Int) * 1)) && Bool.true))) = true → Go.AE.fi (neM f f' d d') n < n ∧ (Bool.false = Bool.false ∧ True) ∧ (N ≤ N ∧ (∀ (jj0 : Nat), (jj0 < N → True ∧ f jj0 = f jj0 ∧ d jj0 = d jj0 ∧ True))) ∧ (M ≤ M ∧ (∀ (jj0 : Nat), (jj0 < M → True ∧ f' jj0 = f' jj0 ∧ d' jj0 = d' jj0 ∧ True))) ∧ True) ∧ ((!(f (0 + Int.toNat (↑i : Int) * 1) == f' (0 + Int.toNat (↑i : Int) * 1) && (Go.AE.seqB (d (0 + Int.toNat (↑i : Int) * 1)) (d' (0 + Int.toNat (↑i : Int) * 1)) && Bool.true))) = false → (i + 1 ≤ n ∧ Go.AE.fi (neM f f' d d') (i + 1) = i + 1) ∧ n - (i + 1) < n - i ∧ ((0 = 0 ∧ n = n ∧ n ≤ n ∧ n ≤ n) ∧ (0 = 0 ∧ n = n ∧ n ≤ n ∧ n ≤ n) ∧ Bool.false = Bool.false ∧ IntKind.wrap IntKind.i64 ((↑i : Int) + (1 : Int)) = (↑(i + 1) : Int) ∧ True) ∧ (N ≤ N ∧ (∀ (jj0 : Nat), (jj0 < N → True ∧ f jj0 = f jj0 ∧ d jj0 = d jj0 ∧ True))) ∧ (M ≤ M ∧ (∀ (jj0 : Nat), (jj0 < M → True ∧ f' jj0 = f' jj0 ∧ d' jj0 = d' jj0 ∧ True))) ∧ True))) ∧ ((decide ((↑i : Int) < (↑n : Int))) = false → Go.AE.fi (neM f f' d d') n = n ∧ ((0 = 0 ∧ n = n ∧ n ≤ n ∧ n ≤ n) ∧ (0 = 0 ∧ n = n ∧ n ≤ n ∧ n ≤ n) ∧ Bool.false = Bool.false ∧ (↑i : Int) = (↑n : Int) ∧ True) ∧ (N ≤ N ∧ (∀ (jj0 : Nat), (jj0 < N → True ∧ f jj0 = f jj0 ∧ d jj0 = d jj0 ∧ True))) ∧ (M ≤ M ∧ (∀ (jj0 : Nat), (jj0 < M → True ∧ f' jj0 = f' jj0 ∧ d' jj0 = d' jj0 ∧ True))) ∧ True))) (by kernel_rfl) ?_⟩
  repeat' (first | (refine And.intro ?_ ?_) | (with_reducible intro hh; (try simp (disch := omega) only [decide_eq_true_eq, decide_eq_false_iff_not, Bool.and_eq_true, Bool.and_eq_false_imp, Bool.not_eq_true', Bool.not_eq_false', reduceCtorEq, or_false, or_true, Bool.or_eq_true, Bool.or_eq_false_iff, Int.not_lt, Int.not_le, beq_iff_eq, beq_eq_false_iff_ne, Nat.zero_add, Nat.mul_one, Nat.sub_zero, Int.toNat_natCast, decide_true, decide_false, cond_true, cond_false, wrap_id, Bool.true_and, Bool.and_true, true_and, and_true, and_self] at hh)))
  all_goals (first | with_reducible rfl | exact True.intro | (first | with_reducible assumption | omega | (simp only [decide_eq_true_eq, decide_eq_false_iff_not, Bool.and_eq_true, Bool.and_eq_false_imp, Bool.not_eq_true', Bool.not_eq_false', reduceCtorEq, or_false, or_true, Bool.or_eq_true, Bool.or_eq_false_iff, Int.not_lt, Int.not_le, beq_iff_eq, beq_eq_false_iff_ne]; omega) | (simp (disch := omega) only [decide_eq_true_eq, decide_eq_false_iff_not, Bool.and_eq_true, Bool.and_eq_false_imp, Bool.not_eq_true', Bool.not_eq_false', reduceCtorEq, or_false, or_true, Bool.or_eq_true, Bool.or_eq_false_iff, Int.not_lt, Int.not_le, beq_iff_eq, beq_eq_false_iff_ne, Nat.zero_add, Nat.mul_one, Nat.sub_zero, Int.toNat_natCast, decide_true, decide_false, cond_true, cond_false, wrap_id, Bool.true_and, Bool.and_true, true_and, and_true, and_self]; first | done | omega) | omega) | (rw [show n = i by omega]; first | exact hI | done) | exact fi_step hI (nm_0 (by assumption)) | (have := fi_at hI (nm_1 (by assumption)) (n := n) (by omega); omega) | trace_state)
theorem l_m (f : Nat → Int) (d : Nat → ByteArray) (N : Nat) (f' : Nat → Int) (d' : Nat → ByteArray) (M n : Nat) (hN : n ≤ N) (hM : n ≤ M) (hb : n ≤ 9223372036854775807) : LQ Try.prog (lp Try.prog 20 0) (T_m n 0) (SM f d N f' d' M) (two (fi (neM f f' d d') n = n) (fi (neM f f' d d') n < n)) (out2 (.x 0 (T_m n n) (SM f d N f' d' M)) (.r Tr_m (SM f d N f' d' M))) :=
  loop_scr pk (okC_nil _) (by kernel_rfl) 2 (T_m n) (fun _ => SM f d N f' d' M) (fun i => n - i) (fun i => i ≤ n ∧ fi (neM f f' d d') i = i) _ _ (fun _ => rfl) (fun i hi => r_m f d N f' d' M n i hN hM hb hi.1 hi.2) ⟨Nat.zero_le _, rfl⟩ rfl
theorem w_m_a (f : Nat → Int) (d : Nat → ByteArray) (N : Nat) (f' : Nat → Int) (d' : Nat → ByteArray) (M n m : Nat) (R : Bool) (hN : n ≤ N) (hM : m ≤ M) (hR : n = m → R = true) (hR2 : ¬ n = m → R = false) (hL : n = m → LO Try.prog (lp Try.prog 20 0) (T_m n 0) (SM f d N f' d' M) (.x 0 (T_m n n) (SM f d N f' d' M))) : ∃ r, callK (HS Try.prog [41] (ctrL [])) Try.prog 20 [.sl 0 0 n n false, .sl 1 0 m m false] (SM f d N f' d' M) (kV (.bool R) (SM f d N f' d' M) 2) r := by
  refine ⟨.B (.E (0) []) (.L (T_m n 0) (SM f d N f' d' M) (Go.AE.Out.x 0 (T_m n n) (SM f d N f' d' M)) <| .E (0) []), Go.AE.kchange (b := (((!decide ((↑n : Int) = (↑m : Int))) = true → (Bool.false = R ∧ True) ∧ (N ≤ N ∧ (∀ (jj0 : Nat), (jj0 < N → True ∧ f jj0 = f jj0 ∧ d jj0 = d jj0 ∧ True))) ∧ (M ≤ M ∧ (∀ (jj0 : Nat), (jj0 < M → True ∧ f' jj0 = f' jj0 ∧ d' jj0 = d' jj0 ∧ True))) ∧ True) ∧ ((!decide ((↑n : Int) = (↑m : Int))) = false → (((0 = 0 ∧ n = n ∧ n ≤ n ∧ n ≤ n) ∧ (0 = 0 ∧ m = n ∧ n ≤ n ∧ n ≤ m) ∧ Bool.false = Bool.false ∧ (0 : Int) = (0 : Int) ∧ True) ∧ (N ≤ N ∧ (∀ (jj0 : Nat), (jj0 < N → True ∧ f jj0 = f jj0 ∧ d jj0 = d jj0 ∧ True))) ∧ (M ≤ M ∧ (∀ (jj0 : Nat), (jj0 < M → True ∧ f' jj0 = f' jj0 ∧ d' jj0 = d' jj0 ∧ True))) ∧ True) ∧
 LO (Go.Proofs.Try.prog) (Go.AE.lp Go.Proofs.Try.prog 20 0) (T_m n 0) (SM f d N f' d' M) (Go.AE.Out.x 0 (T_m n n) (SM f d N f' d' M)) ∧
 (Bool.true = R ∧ True) ∧ (N ≤ N ∧ (∀ (jj0 : Nat), (jj0 < N → True ∧ f jj0 = f jj0 ∧ d jj0 = d jj0 ∧ True))) ∧ (M ≤ M ∧ (∀ (jj0 : Nat), (jj0 < M → True ∧ f' jj0 = f' jj0 ∧ d' jj0 = d' jj0 ∧ True))) ∧ True))) (by kernel_rfl) ?_⟩
  repeat' (first | (with_reducible exact hL (by omega)) | (refine And.intro ?_ ?_) | (with_reducible intro hh; (try simp (disch := omega) only [decide_eq_true_eq, decide_eq_false_iff_not, Bool.and_eq_true, Bool.and_eq_false_imp, Bool.not_eq_true', Bool.not_eq_false', reduceCtorEq, or_false, or_true, Bool.or_eq_true, Bool.or_eq_false_iff, Int.not_lt, Int.not_le, beq_iff_eq, beq_eq_false_iff_ne, Nat.zero_add, Nat.mul_one, Nat.sub_zero, Int.toNat_natCast, decide_true, decide_false, cond_true, cond_false, wrap_id, Bool.true_and, Bool.and_true, true_and, and_true, and_self] at hh)))
  all_goals (first | with_reducible rfl | exact True.intro | (first | with_reducible assumption | omega | (simp only [decide_eq_true_eq, decide_eq_false_iff_not, Bool.and_eq_true, Bool.and_eq_false_imp, Bool.not_eq_true', Bool.not_eq_false', reduceCtorEq, or_false, or_true, Bool.or_eq_true, Bool.or_eq_false_iff, Int.not_lt, Int.not_le, beq_iff_eq, beq_eq_false_iff_ne]; omega) | (simp (disch := omega) only [decide_eq_true_eq, decide_eq_false_iff_not, Bool.and_eq_true, Bool.and_eq_false_imp, Bool.not_eq_true', Bool.not_eq_false', reduceCtorEq, or_false, or_true, Bool.or_eq_true, Bool.or_eq_false_iff, Int.not_lt, Int.not_le, beq_iff_eq, beq_eq_false_iff_ne, Nat.zero_add, Nat.mul_one, Nat.sub_zero, Int.toNat_natCast, decide_true, decide_false, cond_true, cond_false, wrap_id, Bool.true_and, Bool.and_true, true_and, and_true, and_self]; first | done | omega) | omega) | exact (hR (by omega)).symm | exact (hR2 (by omega)).symm | trace_state)
theorem w_m_b (f : Nat → Int) (d : Nat → ByteArray) (N : Nat) (f' : Nat → Int) (d' : Nat → ByteArray) (M n m : Nat) (R : Bool) (hN : n ≤ N) (hM : m ≤ M) (hR : n = m → R = false) (hR2 : ¬ n = m → R = false) (hL : n = m → LO Try.prog (lp Try.prog 20 0) (T_m n 0) (SM f d N f' d' M) (.r Tr_m (SM f d N f' d' M))) : ∃ r, callK (HS Try.prog [41] (ctrL [])) Try.prog 20 [.sl 0 0 n n false, .sl 1 0 m m false] (SM f d N f' d' M) (kV (.bool R) (SM f d N f' d' M) 2) r := by
  refine ⟨.B (.E (0) []) (.L (T_m n 0) (SM f d N f' d' M) (Go.AE.Out.r Tr_m (SM f d N f' d' M)) <| .E (0) []), Go.AE.kchange (b := (((!decide ((↑n : Int) = (↑m : Int))) = true → (Bool.false = R ∧ True) ∧ (N ≤ N ∧ (∀ (jj0 : Nat), (jj0 < N → True ∧ f jj0 = f jj0 ∧ d jj0 = d jj0 ∧ True))) ∧ (M ≤ M ∧ (∀ (jj0 : Nat), (jj0 < M → True ∧ f' jj0 = f' jj0 ∧ d' jj0 = d' jj0 ∧ True))) ∧ True) ∧ ((!decide ((↑n : Int) = (↑m : Int))) = false → (((0 = 0 ∧ n = n ∧ n ≤ n ∧ n ≤ n) ∧ (0 = 0 ∧ m = n ∧ n ≤ n ∧ n ≤ m) ∧ Bool.false = Bool.false ∧ (0 : Int) = (0 : Int) ∧ True) ∧ (N ≤ N ∧ (∀ (jj0 : Nat), (jj0 < N → True ∧ f jj0 = f jj0 ∧ d jj0 = d jj0 ∧ True))) ∧ (M ≤ M ∧ (∀ (jj0 : Nat), (jj0 < M → True ∧ f' jj0 = f' jj0 ∧ d' jj0 = d' jj0 ∧ True))) ∧ True) ∧
 LO (Go.Proofs.Try.prog) (Go.AE.lp Go.Proofs.Try.prog 20 0) (T_m n 0) (SM f d N f' d' M) (Go.AE.Out.r Tr_m (SM f d N f' d' M)) ∧
 (Bool.false = R ∧ True) ∧ (N ≤ N ∧ (∀ (jj0 : Nat), (jj0 < N → True ∧ f jj0 = f jj0 ∧ d jj0 = d jj0 ∧ True))) ∧ (M ≤ M ∧ (∀ (jj0 : Nat), (jj0 < M → True ∧ f' jj0 = f' jj0 ∧ d' jj0 = d' jj0 ∧ True))) ∧ True))) (by kernel_rfl) ?_⟩
  repeat' (first | (with_reducible exact hL (by omega)) | (refine And.intro ?_ ?_) | (with_reducible intro hh; (try simp (disch := omega) only [decide_eq_true_eq, decide_eq_false_iff_not, Bool.and_eq_true, Bool.and_eq_false_imp, Bool.not_eq_true', Bool.not_eq_false', reduceCtorEq, or_false, or_true, Bool.or_eq_true, Bool.or_eq_false_iff, Int.not_lt, Int.not_le, beq_iff_eq, beq_eq_false_iff_ne, Nat.zero_add, Nat.mul_one, Nat.sub_zero, Int.toNat_natCast, decide_true, decide_false, cond_true, cond_false, wrap_id, Bool.true_and, Bool.and_true, true_and, and_true, and_self] at hh)))
  all_goals (first | with_reducible rfl | exact True.intro | (first | with_reducible assumption | omega | (simp only [decide_eq_true_eq, decide_eq_false_iff_not, Bool.and_eq_true, Bool.and_eq_false_imp, Bool.not_eq_true', Bool.not_eq_false', reduceCtorEq, or_false, or_true, Bool.or_eq_true, Bool.or_eq_false_iff, Int.not_lt, Int.not_le, beq_iff_eq, beq_eq_false_iff_ne]; omega) | (simp (disch := omega) only [decide_eq_true_eq, decide_eq_false_iff_not, Bool.and_eq_true, Bool.and_eq_false_imp, Bool.not_eq_true', Bool.not_eq_false', reduceCtorEq, or_false, or_true, Bool.or_eq_true, Bool.or_eq_false_iff, Int.not_lt, Int.not_le, beq_iff_eq, beq_eq_false_iff_ne, Nat.zero_add, Nat.mul_one, Nat.sub_zero, Int.toNat_natCast, decide_true, decide_false, cond_true, cond_false, wrap_id, Bool.true_and, Bool.and_true, true_and, and_true, and_self]; first | done | omega) | omega) | exact (hR (by omega)).symm | exact (hR2 (by omega)).symm | trace_state)
theorem cl_m (f : Nat → Int) (d : Nat → ByteArray) (N : Nat) (f' : Nat → Int) (d' : Nat → ByteArray) (M n m : Nat) (hN : n ≤ N) (hM : m ≤ M) (hb : n ≤ 9223372036854775807) : CL Try.prog 20 [.sl 0 0 n n false, .sl 1 0 m m false] (SM f d N f' d' M) (fun v s => v = .bool (sameM f d n f' d' m) ∧ s = SM f d N f' d' M) := by
  have hle := fi_le (neM f f' d d') n
  have hx : ¬ n = m → sameM f d n f' d' m = false := fun h => decide_eq_false fun g => h g.1
  rcases Nat.lt_or_ge (fi (neM f f' d d') n) n with g | g
  · exact scr_to pk (okC_nil _) rfl (w_m_b f d N f' d' M n m _ hN hM (fun _ => decide_eq_false fun k => by omega) hx fun e => (l_m f d N f' d' M n hN (by omega) hb).snd (by omega))
  · exact scr_to pk (okC_nil _) rfl (w_m_a f d N f' d' M n m _ hN hM (fun h => decide_eq_true ⟨h, by omega⟩) hx fun e => (l_m f d N f' d' M n hN (by omega) hb).fst (by omega))
def cSM : C1 := fun xs s => match xs with
  | [.sl a 0 n _ _, .sl b 0 m _ _] => match find s.h a with
    | some (_, .fam 2 _ N r) => match find s.h b with
      | some (_, .fam 2 _ M r') => some ((n ≤ N ∧ m ≤ M ∧ n ≤ 9223372036854775807) ∧ (∀ k, k < n → r k = rM (fO r) (dO r) k) ∧ ∀ k, k < m → r' k = rM (fO r') (dO r') k, .bool (sameM (fO r) (dO r) n (fO r') (dO r') m), s)
      | _ => none
    | _ => none
  | _ => none
theorem ok_m : ok1 Try.prog 20 cSM := fun xs s q v s' hc hp => by
  unfold cSM at hc
  split at hc
  · rename_i a n cap x b m cap1 x1
    split at hc
    · rename_i ver ro N r hf
      split at hc
      · rename_i ver1 ro1 M r1 hf1
        simp only [Option.some.injEq, Prod.mk.injEq] at hc
        obtain ⟨rfl, rfl, rfl⟩ := hc
        obtain ⟨⟨h1, h2, h3⟩, hr, hr1⟩ := hp
        refine CL.args (ys := [.sl a 0 n n false, .sl b 0 m m false]) (fun ρ us hv => by cases hv with | cons q1 q2 => cases q2 with | cons q2 q3 => exact .cons q1.forget (.cons q2.forget q3)) ?_
        have h3 := CL.reads' (π := fun i => match i with | 0 => a | _ => b) (s := s) ((cl_m (fO r) (dO r) n (fO r1) (dO r1) m n m (Nat.le_refl _) (Nat.le_refl _) h3).imp (k' := fun v _ => v = .bool (sameM (fO r) (dO r) n (fO r1) (dO r1) m)) fun v s h => h.1) (fun k x hk => ?_) rfl rfl (fun k x hk => ?_)
        · exact h3
        · match k, hk with
          | 0, hk => cases hk; exact ⟨by decide, rfl, fun i _ => rfl⟩
          | 1, hk => cases hk; exact ⟨by decide, rfl, fun i _ => rfl⟩
          | k + 2, hk => have hk2 : (none : Option (Nat × Bk)) = some x := hk; cases hk2
        · match k, hk with
          | 0, hk => cases hk; exact ⟨ver, _, hf, fun ρ w p hb => bx_fam h1 (fun k hk => (hr k hk).trans (renL_rM _ _ _ k).symm) hb⟩
          | 1, hk => cases hk; exact ⟨ver1, _, hf1, fun ρ w p hb => bx_fam h2 (fun k hk => (hr1 k hk).trans (renL_rM _ _ _ k).symm) hb⟩
          | k + 2, hk => have hk2 : (none : Option (Nat × Bk)) = some x := hk; cases hk2
      · cases hc
    · cases hc
  · cases hc
theorem ok_dec : ok1 Try.prog 25 cDec := fun xs s q v s' hc hp => by
  unfold cDec at hc
  split at hc
  · rename_i x
    simp only [Option.some.injEq, Prod.mk.injEq] at hc
    obtain ⟨rfl, rfl, rfl⟩ := hc
    obtain ⟨k, rfl⟩ : ∃ k : Nat, x = (k : Int) := ⟨Int.toNat x, by omega⟩
    have h : callK (Hn Try.prog False cond [41] 100) Try.prog 25 [.int .i64 (k : Int)] s0 (fun v _ => v = .str (decB k)) := by rw [dec_w k (by omega)]
    exact CL.reads (π := fun i => i) (call_n pk 100 h) (fun i x h => by cases h) rfl rfl (fun i x h => by cases h)
  · cases hc
/-! ### a list that is copied -/
theorem rows0 (k : Nat) : Rows.row 2 (Rows.lst []) k = [] := by simp [Rows.row]
theorem selL0 (k : Nat) (b : List SV) : selL (decide (k < 0)) (Rows.row 2 (Rows.lst []) k) b = b := by rw [decide_eq_false (Nat.not_lt_zero k), rows0]; cases b <;> rfl
theorem row_fam (d n k : Nat) (f : Nat → List SV) : Rows.row d (.fam n f) k = f k := rfl
def SQ (f : Nat → Int) (d : Nat → ByteArray) (n : Nat) : St := { h := [(0, 0, .fam 2 true n (rM f d))], nx := 1, ck := 1, st := 1 }
def SQ2 (f : Nat → Int) (d : Nat → ByteArray) (n : Nat) : St := { h := [(1, 0, .fam 2 false n (rM f d)), (0, 0, .fam 2 true n (rM f d))], nx := 2, ck := 1, st := 1 }
theorem w_cla (f : Nat → Int) (d : Nat → ByteArray) (n : Nat) (hb : n ≤ 1000000) (h1 : (1 ≤ n)) : ∃ r, callK (HS Try.prog [41] (ctrL [])) Try.prog 37 [.sl 0 0 n n false] (SQ f d n) (kV (.sl 1 0 n n false) (SQ2 f d n) 1) r := by
  refine ⟨.T <| .Z <| .T <| .N <| .T <| .E (0) [(1, 2)], Go.AE.kchange (b := (decide (0 < n)) = true ∧
 (decide (0 + n ≤ n)) = true ∧
 (decide (0 + n ≤ 0)) = false ∧
 (decide ((0 + n) * 24 ≤ 140737488355328)) = true ∧
 ((0 = 0 ∧ 0 + n = n ∧ n ≤ n ∧ n ≤ 0 + n) ∧ True) ∧ (n ≤ 0 + n ∧ (∀ (jj0 : Nat), (jj0 < n → True ∧ Go.AE.eqL [(1, 2)] (Go.AE.selL (decide (jj0 < 0)) (Go.AE.Rows.row 2 (Go.AE.Rows.lst []) jj0) (Go.AE.Rows.row 2 (Go.AE.Rows.fam n fun (i : Nat) => rM f d (0 + i)) (jj0 - 0))) (rM f d jj0)))) ∧ (n ≤ n ∧ (∀ (jj0 : Nat), (jj0 < n → True ∧ f jj0 = f jj0 ∧ d jj0 = d jj0 ∧ True))) ∧ True) (by kernel_rfl) ?_⟩
  repeat' (first | (refine And.intro ?_ ?_) | (with_reducible intro hh; (try simp (disch := omega) only [decide_eq_true_eq, decide_eq_false_iff_not, Bool.and_eq_true, Bool.and_eq_false_imp, Bool.not_eq_true', Bool.not_eq_false', reduceCtorEq, or_false, or_true, Bool.or_eq_true, Bool.or_eq_false_iff, Int.not_lt, Int.not_le, beq_iff_eq, beq_eq_false_iff_ne, Nat.zero_add, Nat.mul_one, Nat.sub_zero, Int.toNat_natCast, decide_true, decide_false, cond_true, cond_false, wrap_id, Bool.true_and, Bool.and_true, true_and, and_true, and_self] at hh)))
  all_goals (first | with_reducible rfl | exact True.intro | (first | with_reducible assumption | omega | (simp only [decide_eq_true_eq, decide_eq_false_iff_not, Bool.and_eq_true, Bool.and_eq_false_imp, Bool.not_eq_true', Bool.not_eq_false', reduceCtorEq, or_false, or_true, Bool.or_eq_true, Bool.or_eq_false_iff, Int.not_lt, Int.not_le, beq_iff_eq, beq_eq_false_iff_ne]; omega) | (simp (disch := omega) only [decide_eq_true_eq, decide_eq_false_iff_not, Bool.and_eq_true, Bool.and_eq_false_imp, Bool.not_eq_true', Bool.not_eq_false', reduceCtorEq, or_false, or_true, Bool.or_eq_true, Bool.or_eq_false_iff, Int.not_lt, Int.not_le, beq_iff_eq, beq_eq_false_iff_ne, Nat.zero_add, Nat.mul_one, Nat.sub_zero, Int.toNat_natCast, decide_true, decide_false, cond_true, cond_false, wrap_id, Bool.true_and, Bool.and_true, true_and, and_true, and_self]; first | done | omega) | omega) | (rw [selL0]; simp only [row_fam, Nat.zero_add, Nat.sub_zero]; exact ⟨rfl, rfl, trivial⟩) | trace_state)
theorem w_clb (f : Nat → Int) (d : Nat → ByteArray) (n : Nat) (hb : n ≤ 1000000) (h1 : True) : ∃ r, callK (HS Try.prog [41] (ctrL [])) Try.prog 37 [.sl 0 0 0 1 false] (SQ f d 0) (kV (.sl 1 0 0 0 false) (SQ2 f d 0) 1) r := by
  refine ⟨.zn 5 <| .E (0) [], Go.AE.kchange (b := ((0 = 0 ∧ 0 = 0 ∧ 0 ≤ 0 ∧ 0 ≤ 0) ∧ True) ∧ True ∧ (0 ≤ 0 ∧ (∀ (jj0 : Nat), (jj0 < 0 → True ∧ f jj0 = f jj0 ∧ d jj0 = d jj0 ∧ True))) ∧ True) (by kernel_rfl) ?_⟩
  repeat' (first | (refine And.intro ?_ ?_) | (with_reducible intro hh; (try simp (disch := omega) only [decide_eq_true_eq, decide_eq_false_iff_not, Bool.and_eq_true, Bool.and_eq_false_imp, Bool.not_eq_true', Bool.not_eq_false', reduceCtorEq, or_false, or_true, Bool.or_eq_true, Bool.or_eq_false_iff, Int.not_lt, Int.not_le, beq_iff_eq, beq_eq_false_iff_ne, Nat.zero_add, Nat.mul_one, Nat.sub_zero, Int.toNat_natCast, decide_true, decide_false, cond_true, cond_false, wrap_id, Bool.true_and, Bool.and_true, true_and, and_true, and_self] at hh)))
  all_goals (first | with_reducible rfl | exact True.intro | (first | with_reducible assumption | omega | (simp only [decide_eq_true_eq, decide_eq_false_iff_not, Bool.and_eq_true, Bool.and_eq_false_imp, Bool.not_eq_true', Bool.not_eq_false', reduceCtorEq, or_false, or_true, Bool.or_eq_true, Bool.or_eq_false_iff, Int.not_lt, Int.not_le, beq_iff_eq, beq_eq_false_iff_ne]; omega) | (simp (disch := omega) only [decide_eq_true_eq, decide_eq_false_iff_not, Bool.and_eq_true, Bool.and_eq_false_imp, Bool.not_eq_true', Bool.not_eq_false', reduceCtorEq, or_false, or_true, Bool.or_eq_true, Bool.or_eq_false_iff, Int.not_lt, Int.not_le, beq_iff_eq, beq_eq_false_iff_ne, Nat.zero_add, Nat.mul_one, Nat.sub_zero, Int.toNat_natCast, decide_true, decide_false, cond_true, cond_false, wrap_id, Bool.true_and, Bool.and_true, true_and, and_true, and_self]; first | done | omega) | omega) | (rw [selL0]; simp only [row_fam, Nat.zero_add, Nat.sub_zero]; exact ⟨rfl, rfl, trivial⟩) | trace_state)
theorem w_clc (f : Nat → Int) (d : Nat → ByteArray) (n : Nat) (hb : n ≤ 1000000) (h1 : True) : ∃ r, callK (HS Try.prog [41] (ctrL [])) Try.prog 37 [.nils] (SQ f d 0) (kV (.sl 1 0 0 0 false) (SQ2 f d 0) 1) r := by
  refine ⟨.Z <| .E (0) [], Go.AE.kchange (b := ((0 = 0 ∧ 0 = 0) ∧ True) ∧ 0 = 0 ∧ (0 ≤ 0 ∧ (∀ (jj0 : Nat), (jj0 < 0 → True ∧ f jj0 = f jj0 ∧ d jj0 = d jj0 ∧ True))) ∧ True) (by kernel_rfl) ?_⟩
  repeat' (first | (refine And.intro ?_ ?_) | (with_reducible intro hh; (try simp (disch := omega) only [decide_eq_true_eq, decide_eq_false_iff_not, Bool.and_eq_true, Bool.and_eq_false_imp, Bool.not_eq_true', Bool.not_eq_false', reduceCtorEq, or_false, or_true, Bool.or_eq_true, Bool.or_eq_false_iff, Int.not_lt, Int.not_le, beq_iff_eq, beq_eq_false_iff_ne, Nat.zero_add, Nat.mul_one, Nat.sub_zero, Int.toNat_natCast, decide_true, decide_false, cond_true, cond_false, wrap_id, Bool.true_and, Bool.and_true, true_and, and_true, and_self] at hh)))
  all_goals (first | with_reducible rfl | exact True.intro | (first | with_reducible assumption | omega | (simp only [decide_eq_true_eq, decide_eq_false_iff_not, Bool.and_eq_true, Bool.and_eq_false_imp, Bool.not_eq_true', Bool.not_eq_false', reduceCtorEq, or_false, or_true, Bool.or_eq_true, Bool.or_eq_false_iff, Int.not_lt, Int.not_le, beq_iff_eq, beq_eq_false_iff_ne]; omega) | (simp (disch := omega) only [decide_eq_true_eq, decide_eq_false_iff_not, Bool.and_eq_true, Bool.and_eq_false_imp, Bool.not_eq_true', Bool.not_eq_false', reduceCtorEq, or_false, or_true, Bool.or_eq_true, Bool.or_eq_false_iff, Int.not_lt, Int.not_le, beq_iff_eq, beq_eq_false_iff_ne, Nat.zero_add, Nat.mul_one, Nat.sub_zero, Int.toNat_natCast, decide_true, decide_false, cond_true, cond_false, wrap_id, Bool.true_and, Bool.and_true, true_and, and_true, and_self]; first | done | omega) | omega) | (rw [selL0]; simp only [row_fam, Nat.zero_add, Nat.sub_zero]; exact ⟨rfl, rfl, trivial⟩) | trace_state)
set_option maxHeartbeats 4000000 in
theorem clone_e (x : Addr) (w : World) : Calls Try.prog 37 #[.slice (some x) 0 0] w fun e w' => e = .returned (.slice (some { block := w.heap.size, off := 0 }) 0 0) ∧ w' = w.alloc (Obj.cells #[] 41) := by
  have qT : ∀ (w : World) (a : Option Addr) (n c n' c' : Nat), (binOp .eql 46 (.slice a n c) (.slice none n' c')).run Try.prog w = .ok (.bool a.isNone) w := fun w a n c n' c' => Lib.run_eql_slice_nil w _ _ a n c n' c' Try.underlying46
  go_enter Try.func37, Try.ntmps37
  go_wp2_with fail
  go_returns
  exact ⟨rfl, rfl⟩
def cCl : C1 := fun xs s => match xs with
  | [.sl b 0 n _ _] => match find s.h b with
    | some (_, .fam 2 _ N row) => newC s (n ≤ N ∧ n ≤ 1000000 ∧ ∀ k, k < n → row k = rM (fO row) (dO row) k) (fun m => .sl m 0 n n false) (.fam 2 false n (rM (fO row) (dO row)))
    | _ => none
  | _ => none
theorem rel_e {C : Cx} {ρ : Map} {w : World} {f : Nat → Int} {d : Nat → ByteArray} (t : TypeId) (hR : Rel C ρ (SQ f d 0) w) : ∃ σ, Ext (SQ f d 0) (SQ2 f d 0) ρ σ ∧ Rel C σ (SQ2 f d 0) (w.alloc (Obj.cells #[] t)) := by
  let p : Pl := { blk := w.heap.size, base := 0, w := 2, size := 0 }
  have hh : (w.alloc (Obj.cells #[] t)).heap[w.heap.size]? = some (Obj.cells #[] t (0, 0)) := Array.getElem?_push_size
  have hb : BR (upd ρ 1 p) (w.alloc (Obj.cells #[] t)) p (.fam 2 false 0 (rM f d)) := ⟨rfl, #[], t, (0, 0), hh, rfl, fun _ => rfl, fun i hi => absurd hi (Nat.not_lt_zero _)⟩
  have hN := Rel.new (s := SQ f d 0) hR (b := .fam 2 false 0 (rM f d)) (p := p) (w' := w.alloc (Obj.cells #[] t)) (Obj.cells #[] t) rfl rfl rfl hb rfl rfl rfl
  have g : ∀ {n : Nat} {v : Nat} {b : Bk}, find (SQ2 f d 0).h n = some (v, b) → ∃ v', find ({ h := (1, 1, .fam 2 false 0 (rM f d)) :: (SQ f d 0).h, nx := 2, ck := 1, st := 1 } : St).h n = some (v', b) := fun {n v b} e => by
    match n, e with
    | 0, e => exact ⟨v, e⟩
    | 1, e => cases e; exact ⟨1, rfl⟩
    | n + 2, e => cases e
  refine ⟨upd ρ 1 p, upd_ext (s := SQ f d 0) (s' := SQ2 f d 0) hR.fresh0 hR.stp rfl rfl, ⟨hN.os, hN.tape, hN.output, hN.size, hN.out, fun n v b e => ?_, fun n m vn bn vm bm p q e1 e2 => ?_, fun n v b p e => ?_, hN.fresh, hN.stp, hN.inb, fun n p r o hn hz => ⟨(hN.frz n p r o hn hz).1, (hN.frz n p r o hn hz).2.1, fun m v b q e => by
    obtain ⟨v', e'⟩ := g e
    exact (hN.frz n p r o hn hz).2.2 m v' b q e'⟩⟩⟩
  · obtain ⟨v', e'⟩ := g e; exact hN.blk n v' b e'
  · obtain ⟨v1, e1'⟩ := g e1; obtain ⟨v2, e2'⟩ := g e2; exact hN.sep n m v1 bn v2 bm p q e1' e2'
  · obtain ⟨v', e'⟩ := g e; exact hN.own n v' b p e'
theorem cl_k (f : Nat → Int) (d : Nat → ByteArray) (C : Cx) (ρ : Map) (w : World) (x : Addr) (hR : Rel C ρ (SQ f d 0) w) : Calls Try.prog 37 #[.slice (some x) 0 0] w fun e w' => ∃ v s' σ u, (v = SV.sl 1 0 0 0 false ∧ s' = SQ2 f d 0) ∧ e = .returned u ∧ Ext (SQ f d 0) s' ρ σ ∧ VR σ v u ∧ Rel C σ s' w' := by
  refine Calls.mono (clone_e x w) ?_
  rintro e w' ⟨rfl, rfl⟩
  obtain ⟨σ, h1, h2⟩ := rel_e 41 hR
  exact ⟨_, _, σ, _, ⟨rfl, rfl⟩, rfl, h1, .sl0 _ _ _, h2⟩
theorem cl_0 (f : Nat → Int) (d : Nat → ByteArray) : CL Try.prog 37 [.sl 0 0 0 0 false] (SQ f d 0) (fun v s' => v = .sl 1 0 0 0 false ∧ s' = SQ2 f d 0) := by
  intro C ρ w us hR hv
  cases hv with
  | cons h1 h2 => cases h2 with
    | nil => cases h1 with
      | sl0 r x a => cases a with
        | none => exact (scr_to pk (okC_nil _) rfl (w_clc f d 0 (by omega) trivial)) C ρ w _ hR (.cons .nils .nil)
        | some x => exact cl_k f d C ρ w x hR
      | sl r len cap x cap' h hl hc hx hs hq => cases cap' with
        | zero => exact cl_k f d C ρ w _ hR
        | succ m => exact (scr_to pk (okC_nil _) rfl (w_clb f d 0 (by omega) trivial)) C ρ w _ hR (.cons (.sl 0 0 1 false (m + 1) h (by omega) (by omega) (fun h => by cases h) hs hq) .nil)
theorem cl_cl (f : Nat → Int) (d : Nat → ByteArray) (n : Nat) (hb : n ≤ 1000000) : CL Try.prog 37 [.sl 0 0 n n false] (SQ f d n) (fun v s' => v = .sl 1 0 n n false ∧ s' = SQ2 f d n) := by
  rcases Nat.eq_zero_or_pos n with h | h
  · subst h; exact cl_0 f d
  · exact scr_to pk (okC_nil _) rfl (w_cla f d n hb h)
theorem ok_cl : ok1 Try.prog 37 cCl := fun xs s q v s' hc hp => by
  unfold cCl at hc
  split at hc
  · rename_i b n cap x
    split at hc
    · rename_i ver ro N row hf
      simp only [newC_eq, Option.some.injEq, Prod.mk.injEq] at hc
      obtain ⟨rfl, rfl, rfl⟩ := hc
      obtain ⟨h1, h2, hrow⟩ := hp
      refine CL.args (ys := [.sl b 0 n n false]) (fun ρ us hv => by cases hv with | cons h1 h2 => exact .cons h1.forget h2) ?_
      have := CL.frame' (bs := [b]) (wr := 0) (m := 1) (h1 := [(1, 0, .fam 2 false n (rM (fO row) (dO row)))]) (hF := (SQ2 (fO row) (dO row) n).h) (cl_cl (fO row) (dO row) n h2) (fun i x e => ?_) (by simp) rfl rfl (fun i x e => ?_) (fun i j hi hj h => ?_) (s := s) (fun i x e => ?_)
      · exact this.imp fun v s' h => ⟨by rw [h.1]; show SV.sl (s.nx + 0 * s.st) 0 _ _ false = _; rw [Nat.zero_mul]; rfl, by rw [h.2]; simp only [frS, renHp, appH, delL, List.take, renB, renL_rM, Nat.one_mul]; rw [show nmF [b] s.nx s.st 1 = s.nx by show s.nx + 0 * s.st = s.nx; rw [Nat.zero_mul]; rfl]⟩
      · match i, e with
        | 0, e => cases e; exact ⟨by simp, fun i _ => rfl, fun h => by cases h⟩
        | 1, e => cases e
        | i + 2, e => have e2 : (none : Option (Nat × Bk)) = some x := e; cases e2
      · match i, e with
        | 0, e => cases e
        | 1, e => cases e; exact ⟨rfl, rfl, by simp, fun i _ => rfl⟩
        | i + 2, e => have e2 : (none : Option (Nat × Bk)) = some x := e; cases e2
      · match i, j, hi, hj, h with
        | 0, 0, _, _, _ => rfl
      · match i, e with
        | 0, e => cases e; exact ⟨ver, _, hf, .inr ⟨rfl, fun ρ w p hb => bx_fam h1 (fun k hk => (hrow k hk).trans (renL_rM _ _ _ k).symm) hb⟩⟩
        | 1, e => cases e
        | i + 2, e => have e2 : (none : Option (Nat × Bk)) = some x := e; cases e2
    · cases hc
  · cases hc
theorem aw0 : (callK (Hn Try.prog False cond [41] 100) Try.prog 12 [] s0 (fun v _ => v = .bool true)) = (SV.bool true = SV.bool true) := by kernel_rfl

end Go.Proofs.Ytkekeomkbcghnaa.nc
