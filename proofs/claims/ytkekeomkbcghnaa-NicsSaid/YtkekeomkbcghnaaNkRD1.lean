/- Nics: a round. No condition. -/
import Derived.Test.YtkekeomkbcghnaaNkB
namespace Go.Proofs.Ytkekeomkbcghnaa.nics
open Go Go.Proofs Go.AE Go.RowKit nc
set_option maxRecDepth 100000
set_option linter.unusedVariables false
set_option linter.unusedSimpArgs false
set_option maxHeartbeats 4000000 in
theorem rd_d1 (z : Nat → Nat → Int) (n : Nat) (a : Nat → Nat → Int) (s : Nat → Nat → ByteArray) (m : Nat) (c : Nat → Nat → Nat) (f : Nat → Nat → Nat → Int) (d : Nat → Nat → Nat → ByteArray) (r : Nat → Nat → Int) (i K : Nat) (hn : n ≤ 4) (h1 : 1 ≤ n) (hKm : K ≤ m ∧ K ≤ 80 ∧ (K = m ∨ K = 80)) (hi : i ≤ K) (hc : c 0 i ≤ 8 ∧ c 1 i ≤ 8 ∧ c 2 i ≤ 8 ∧ c 3 i ≤ 8) (hp : LO Try.prog (lp Try.prog 3 1) (TP n m i 0) (SP z n a s m c f d r (i + 1)) (.x 2 (TP n m i (n + 2)) (SP z n a s m c f d r (i + 1)))) (hk : a i 0 < 6) (F : Nat) (hF : F < n) (hFa : a i 1 = (F : Int)) (gF : 0 ≤ z F 0 ∧ z F 0 ≤ 3 ∧ 0 ≤ z F 1 ∧ z F 1 ≤ 15) (hsz : 1 ≤ (s i 3).size ∧ (s i 3).size ≤ 32) (hT : 1 < n) (hTa : a i 2 = 1) (gT : 0 ≤ z 1 0 ∧ z 1 0 ≤ 3 ∧ 0 ≤ z 1 1 ∧ z 1 1 ≤ 15) (hd : z F 0 ≤ z 1 0) (hb1 : bits .andNot .i64 (z F 1) (z 1 1) = 0) (hb2 : bits .and .i64 (z 1 1) (z F 1) = z F 1) (h8 : c 1 i = 8) (hr0 : 0 ≤ r 1 i ∧ r 1 i ≤ 65535) (hn' : c 1 (i + 1) = c 1 i ∧ (∀ k, f 1 (i + 1) k = f 1 i k) ∧ (∀ k, d 1 (i + 1) k = d 1 i k) ∧ r 1 (i + 1) = min (r 1 i + 1) 65535) (hs0 : (c 0 (i + 1) = c 0 i ∧ (∀ k, f 0 (i + 1) k = f 0 i k) ∧ (∀ k, d 0 (i + 1) k = d 0 i k) ∧ r 0 (i + 1) = r 0 i)) (hs2 : (c 2 (i + 1) = c 2 i ∧ (∀ k, f 2 (i + 1) k = f 2 i k) ∧ (∀ k, d 2 (i + 1) k = d 2 i k) ∧ r 2 (i + 1) = r 2 i)) (hs3 : (c 3 (i + 1) = c 3 i ∧ (∀ k, f 3 (i + 1) k = f 3 i k) ∧ (∀ k, d 3 (i + 1) k = d 3 i k) ∧ r 3 (i + 1) = r 3 i)) : ∃ r', exec (HS Try.prog [41, 4000302] ctr) Try.prog (lp Try.prog 3 0) (TL n m i) (S z n a s m c f d r i) (kN 1004 (TL n m) (S z n a s m c f d r) (fun i => K - i) (fun i => i ≤ K) i) (kX 1004 (fun _ => True) fun _ => .x 0 (TL n m K) (S z n a s m c f d r K)) (kR 1004 (fun _ => True) fun _ => .n [] s0) r' := by
  refine ⟨.B (.Z <| .Z <| .B (.tn 3 <| .N <| .T <| .zn 4 <| .T <| .zn 7 <| .N <| .zn 15 <| .N <| .Z <| .Z <| .N <| .zn 3 <| .N <| .tn 5 <| .zn 3 <| .T <| .zn 3 <| .T <| .zn 3 <| .T <| .Z <| .T <| .zn 3 <| .T <| .zn 3 <| .T <| .zn 4 <| .T <| .zn 5 <| .T <| .zn 6 <| .N <| .T <| .T <| .N <| .tn 3 <| .N <| .T <| .N <| .T <| .Z <| .T <| .T <| .zn 7 <| .N <| .zn 12 <| .N <| .zn 3 <| .N <| .zn 3 <| .N <| .tn 5 <| .zn 3 <| .T <| .zn 3 <| .T <| .zn 3 <| .T <| .Z <| .T <| .zn 3 <| .T <| .zn 3 <| .T <| .zn 4 <| .T <| .zn 5 <| .T <| .zn 8 <| .N <| .Z <| .T <| .zn 3 <| .M ([(100011, 1011), (100010, 1010), (100009, 1009), (100008, 1008), (100007, 1007), (100006, 1006), (100005, 1005), (100004, 1004)]) (TP n m i 0) (SP z n a s m c f d r (i + 1)) (Go.AE.Out.x 2 (TP n m i (n + 2)) (SP z n a s m c f d r (i + 1))) <| .E (i + 1) [(1011, 100011), (1010, 100010), (1009, 100009), (1008, 100008), (1007, 100007), (1006, 100006), (1005, 100005), (1004, 100004)]) (.E (0) [])) (.zn 3 <| .E (0) []), Go.AE.kchange (b := (((decide ((↑i : Int) < (↑m : Int))) = true → (((decide ((↑i : Int) < (80 : Int))) = true → (decide ((0 : Int) ≤ (↑i : Int)) && decide ((↑i : Int) < (↑m : Int))) = true ∧
 (decide (0 + Int.toNat (↑i : Int) * 1 < m)) = true ∧
 (decide (a (0 + Int.toNat (↑i : Int) * 1) 0 < (6 : Int))) = true ∧
 (decide (a (0 + Int.toNat (↑i : Int) * 1) 2 = (0 : Int))) = false ∧
 (decide (a (0 + Int.toNat (↑i : Int) * 1) 2 = (1 : Int))) = true ∧
 (decide ((0 : Int) ≤ a (0 + Int.toNat (↑i : Int) * 1) 1)) = true ∧
 (!decide (a (0 + Int.toNat (↑i : Int) * 1) 1 < (↑n : Int))) = false ∧
 (!decide ((1 : Int) < (↑n : Int))) = false ∧
 (Go.AE.seqB (s (0 + Int.toNat (↑i : Int) * 1) 3) (ByteArray.mk #[])) = false ∧
 (decide ((32 : Int) < (↑(ByteArray.size (s (0 + Int.toNat (↑i : Int) * 1) 3)) : Int))) = false ∧
 (Bool.true && decide ((1 : Int) < (↑n : Int))) = true ∧
 (decide (1 < n)) = true ∧
 (decide ((0 : Int) ≤ a (0 + Int.toNat (↑i : Int) * 1) 1) && decide (a (0 + Int.toNat (↑i : Int) * 1) 1 < (↑n : Int))) = true ∧
 (decide (0 + Int.toNat (a (0 + Int.toNat (↑i : Int) * 1) 1) * 1 < n)) = true ∧
 (decide ((0 : Int) ≤ z 1 0)) = true ∧
 (decide (z 1 0 ≤ (3 : Int))) = true ∧
 (decide ((0 : Int) ≤ z 1 1)) = true ∧
 (decide (z 1 1 ≤ (15 : Int))) = true ∧
 (decide ((0 : Int) ≤ z (0 + Int.toNat (a (0 + Int.toNat (↑i : Int) * 1) 1) * 1) 0)) = true ∧
 (decide (z (0 + Int.toNat (a (0 + Int.toNat (↑i : Int) * 1) 1) * 1) 0 ≤ (3 : Int))) = true ∧
 (decide ((0 : Int) ≤ z (0 + Int.toNat (a (0 + Int.toNat (↑i : Int) * 1) 1) * 1) 1)) = true ∧
 (decide (z (0 + Int.toNat (a (0 + Int.toNat (↑i : Int) * 1) 1) * 1) 1 ≤ (15 : Int))) = true ∧
 (decide (z (0 + Int.toNat (a (0 + Int.toNat (↑i : Int) * 1) 1) * 1) 0 ≤ z 1 0)) = true ∧
 (!decide (Go.bits BinOp.andNot IntKind.i64 (z (0 + Int.toNat (a (0 + Int.toNat (↑i : Int) * 1) 1) * 1) 1) (z 1 1) = (0 : Int))) = false ∧
 (Bool.true && decide ((1 : Int) < (↑n : Int))) = true ∧
 (decide (1 < n)) = true ∧
 (decide ((↑(c 1 i) : Int) < (8 : Int))) = false ∧
 (decide (1 < n)) = true ∧
 (decide (1 < n)) = true ∧
 (Go.AE.sveq 9 (Go.AE.nth [SV.int IntKind.i64 (a (0 + Int.toNat (↑i : Int) * 1) 1)] 0) (Go.AE.nth [SV.int IntKind.i64 (a (0 + Int.toNat (↑i : Int) * 1) 1)] 0)) = true ∧
 (decide (a (0 + Int.toNat (↑i : Int) * 1) 2 = (0 : Int))) = false ∧
 (decide (a (0 + Int.toNat (↑i : Int) * 1) 2 = (1 : Int))) = true ∧
 (decide (a (0 + Int.toNat (↑i : Int) * 1) 2 = (0 : Int))) = false ∧
 (decide (a (0 + Int.toNat (↑i : Int) * 1) 2 = (1 : Int))) = true ∧
 (Go.AE.sveq 9 (Go.AE.nth [SV.str (s (0 + Int.toNat (↑i : Int) * 1) 3)] 0) (Go.AE.nth [SV.str (s (0 + Int.toNat (↑i : Int) * 1) 3)] 0)) = true ∧
 (decide ((0 : Int) ≤ a (0 + Int.toNat (↑i : Int) * 1) 1)) = true ∧
 (!decide (a (0 + Int.toNat (↑i : Int) * 1) 1 < (↑n : Int))) = false ∧
 (!decide ((1 : Int) < (↑n : Int))) = false ∧
 (decide ((↑(ByteArray.size (s (0 + Int.toNat (↑i : Int) * 1) 3)) : Int) < (1 : Int))) = false ∧
 (decide ((32 : Int) < (↑(ByteArray.size (s (0 + Int.toNat (↑i : Int) * 1) 3)) : Int))) = false ∧
 (Bool.true && decide ((1 : Int) < (↑n : Int))) = true ∧
 (decide (1 < n)) = true ∧
 (decide ((0 : Int) ≤ a (0 + Int.toNat (↑i : Int) * 1) 1) && decide (a (0 + Int.toNat (↑i : Int) * 1) 1 < (↑n : Int))) = true ∧
 (decide (0 + Int.toNat (a (0 + Int.toNat (↑i : Int) * 1) 1) * 1 < n)) = true ∧
 (decide ((0 : Int) ≤ z 1 0)) = true ∧
 (decide (z 1 0 ≤ (3 : Int))) = true ∧
 (decide ((0 : Int) ≤ z 1 1)) = true ∧
 (decide (z 1 1 ≤ (15 : Int))) = true ∧
 (decide ((0 : Int) ≤ z (0 + Int.toNat (a (0 + Int.toNat (↑i : Int) * 1) 1) * 1) 0)) = true ∧
 (decide (z (0 + Int.toNat (a (0 + Int.toNat (↑i : Int) * 1) 1) * 1) 0 ≤ (3 : Int))) = true ∧
 (decide ((0 : Int) ≤ z (0 + Int.toNat (a (0 + Int.toNat (↑i : Int) * 1) 1) * 1) 1)) = true ∧
 (decide (z (0 + Int.toNat (a (0 + Int.toNat (↑i : Int) * 1) 1) * 1) 1 ≤ (15 : Int))) = true ∧
 (decide (z (0 + Int.toNat (a (0 + Int.toNat (↑i : Int) * 1) 1) * 1) 0 ≤ z 1 0)) = true ∧
 (!decide (Go.bits BinOp.and IntKind.i64 (z 1 1) (z (0 + Int.toNat (a (0 + Int.toNat (↑i : Int) * 1) 1) * 1) 1) = z (0 + Int.toNat (a (0 + Int.toNat (↑i : Int) * 1) 1) * 1) 1)) = false ∧
 (decide ((8 : Int) ≤ (↑(c 1 i) : Int))) = true ∧
 (((0 = 0 ∧ n = n ∧ n ≤ n ∧ n ≤ n) ∧ (0 = 0 ∧ m = m ∧ m ≤ m ∧ m ≤ m) ∧ Bool.false = Bool.false ∧ (0 = 0 ∧ 0 = 0) ∧ (0 = 0 ∧ 0 = 0) ∧ (↑i : Int) = (↑i : Int) ∧ (-1 : Int) = (-1 : Int) ∧ True) ∧ (c 0 (i + 1) ≤ c 0 i ∧ (∀ (jj0 : Nat), (jj0 < c 0 (i + 1) → True ∧ f 0 i jj0 = f 0 (i + 1) jj0 ∧ d 0 i jj0 = d 0 (i + 1) jj0 ∧ True))) ∧ (c 1 (i + 1) ≤ c 1 i ∧ (∀ (jj0 : Nat), (jj0 < c 1 (i + 1) → True ∧ f 1 i jj0 = f 1 (i + 1) jj0 ∧ d 1 i jj0 = d 1 (i + 1) jj0 ∧ True))) ∧ (c 2 (i + 1) ≤ c 2 i ∧ (∀ (jj0 : Nat), (jj0 < c 2 (i + 1) → True ∧ f 2 i jj0 = f 2 (i + 1) jj0 ∧ d 2 i jj0 = d 2 (i + 1) jj0 ∧ True))) ∧ (c 3 (i + 1) ≤ c 3 i ∧ (∀ (jj0 : Nat), (jj0 < c 3 (i + 1) → True ∧ f 3 i jj0 = f 3 (i + 1) jj0 ∧ d 3 i jj0 = d 3 (i + 1) jj0 ∧ True))) ∧ (c 0 (i + 1) ≤ c 0 i ∧ (∀ (jj0 : Nat), (jj0 < c 0 (i + 1) → True ∧ f 0 i jj0 = f 0 (i + 1) jj0 ∧ d 0 i jj0 = d 0 (i + 1) jj0 ∧ True))) ∧ (c 1 (i + 1) ≤ c 1 i ∧ (∀ (jj0 : Nat), (jj0 < c 1 (i + 1) → True ∧ f 1 i jj0 = f 1 (i + 1) jj0 ∧ d 1 i jj0 = d 1 (i + 1) jj0 ∧ True))) ∧ (c 2 (i + 1) ≤ c 2 i ∧ (∀ (jj0 : Nat), (jj0 < c 2 (i + 1) → True ∧ f 2 i jj0 = f 2 (i + 1) jj0 ∧ d 2 i jj0 = d 2 (i + 1) jj0 ∧ True))) ∧ (c 3 (i + 1) ≤ c 3 i ∧ (∀ (jj0 : Nat), (jj0 < c 3 (i + 1) → True ∧ f 3 i jj0 = f 3 (i + 1) jj0 ∧ d 3 i jj0 = d 3 (i + 1) jj0 ∧ True))) ∧ ((0 = 0 ∧ n = n ∧ n ≤ n ∧ n ≤ n) ∧ True) ∧ (n ≤ n ∧ (∀ (jj0 : Nat), (jj0 < n → Go.AE.okL (Go.AE.St.nx (SP z n a s m c f d r (i + 1))) 4 (rowP z c r (i + 1) jj0) ∧ z jj0 0 = z jj0 0 ∧ z jj0 1 = z jj0 1 ∧ eqL [(100011, 1011), (100010, 1010), (100009, 1009), (100008, 1008), (100007, 1007), (100006, 1006), (100005, 1005), (100004, 1004)] ((match jj0 with
    | 0 => SV.sl 1004 0 (c 0 i) (c 0 i) Bool.false
    | 1 => SV.sl 1005 0 (c 1 i) (c 1 i) Bool.false
    | 2 => SV.sl 1006 0 (c 2 i) (c 2 i) Bool.false
    | 3 => SV.sl 1007 0 (c 3 i) (c 3 i) Bool.false
    | x => SV.nils) ::
    Go.AE.spliceB._f (decide (jj0 = 1)) [SV.int IntKind.i64 (r jj0 i)] ⟨Go.AE.spliceB._f (decide (jj0 = 1)) [] PUnit.unit, PUnit.unit⟩ (0) (SV.cells (SV.int IntKind.i64 (Min.min (IntKind.wrap IntKind.i64 (r 1 i + (1 : Int))) (65535 : Int))))) [match jj0 with
    | 0 => SV.sl 100004 0 (c 0 (i + 1)) (c 0 (i + 1)) Bool.false
    | 1 => SV.sl 100005 0 (c 1 (i + 1)) (c 1 (i + 1)) Bool.false
    | 2 => SV.sl 100006 0 (c 2 (i + 1)) (c 2 (i + 1)) Bool.false
    | 3 => SV.sl 100007 0 (c 3 (i + 1)) (c 3 (i + 1)) Bool.false
    | x => SV.nils,
    SV.int IntKind.i64 (r jj0 (i + 1))]))) ∧ ((0 = 0 ∧ n = n ∧ n ≤ n ∧ n ≤ n) ∧ (0 = 0 ∧ c 0 i = c 0 (i + 1) ∧ c 0 (i + 1) ≤ c 0 (i + 1) ∧ c 0 (i + 1) ≤ c 0 i) ∧ (0 = 0 ∧ c 1 i = c 1 (i + 1) ∧ c 1 (i + 1) ≤ c 1 (i + 1) ∧ c 1 (i + 1) ≤ c 1 i) ∧ (0 = 0 ∧ c 2 i = c 2 (i + 1) ∧ c 2 (i + 1) ≤ c 2 (i + 1) ∧ c 2 (i + 1) ≤ c 2 i) ∧ (0 = 0 ∧ c 3 i = c 3 (i + 1) ∧ c 3 (i + 1) ≤ c 3 (i + 1) ∧ c 3 (i + 1) ≤ c 3 i) ∧ r 0 i = r 0 (i + 1) ∧ Min.min (IntKind.wrap IntKind.i64 (r 1 i + (1 : Int))) (65535 : Int) = r 1 (i + 1) ∧ r 2 i = r 2 (i + 1) ∧ r 3 i = r 3 (i + 1) ∧ True) ∧ (n ≤ n ∧ (∀ (jj0 : Nat), (jj0 < n → True ∧ z jj0 0 = z jj0 0 ∧ z jj0 1 = z jj0 1 ∧ True))) ∧ (m ≤ m ∧ (∀ (jj0 : Nat), (jj0 < m → True ∧ a jj0 0 = a jj0 0 ∧ a jj0 1 = a jj0 1 ∧ a jj0 2 = a jj0 2 ∧ s jj0 3 = s jj0 3 ∧ True))) ∧ True) ∧
 LO (Go.Proofs.Try.prog) (Go.AE.lp Go.Proofs.Try.prog 3 1) (TP n m i 0) (SP z n a s m c f d r (i + 1)) (Go.AE.Out.x 2 (TP n m i (n + 2)) (SP z n a s m c f d r (i + 1))) ∧
 i + 1 ≤ K ∧ K - (i + 1) < K - i ∧ ((0 = 0 ∧ n = n ∧ n ≤ n ∧ n ≤ n) ∧ (0 = 0 ∧ m = m ∧ m ≤ m ∧ m ≤ m) ∧ Bool.false = Bool.false ∧ (0 = 0 ∧ 0 = 0) ∧ (0 = 0 ∧ 0 = 0) ∧ IntKind.wrap IntKind.i64 ((↑i : Int) + (1 : Int)) = (↑(i + 1) : Int) ∧ True) ∧ (c 0 (i + 1) ≤ c 0 (i + 1) ∧ (∀ (jj0 : Nat), (jj0 < c 0 (i + 1) → True ∧ f 0 (i + 1) jj0 = f 0 (i + 1) jj0 ∧ d 0 (i + 1) jj0 = d 0 (i + 1) jj0 ∧ True))) ∧ (c 1 (i + 1) ≤ c 1 (i + 1) ∧ (∀ (jj0 : Nat), (jj0 < c 1 (i + 1) → True ∧ f 1 (i + 1) jj0 = f 1 (i + 1) jj0 ∧ d 1 (i + 1) jj0 = d 1 (i + 1) jj0 ∧ True))) ∧ (c 2 (i + 1) ≤ c 2 (i + 1) ∧ (∀ (jj0 : Nat), (jj0 < c 2 (i + 1) → True ∧ f 2 (i + 1) jj0 = f 2 (i + 1) jj0 ∧ d 2 (i + 1) jj0 = d 2 (i + 1) jj0 ∧ True))) ∧ (c 3 (i + 1) ≤ c 3 (i + 1) ∧ (∀ (jj0 : Nat), (jj0 < c 3 (i + 1) → True ∧ f 3 (i + 1) jj0 = f 3 (i + 1) jj0 ∧ d 3 (i + 1) jj0 = d 3 (i + 1) jj0 ∧ True))) ∧ (c 0 (i + 1) ≤ c 0 (i + 1) ∧ (∀ (jj0 : Nat), (jj0 < c 0 (i + 1) → True ∧ f 0 (i + 1) jj0 = f 0 (i + 1) jj0 ∧ d 0 (i + 1) jj0 = d 0 (i + 1) jj0 ∧ True))) ∧ (c 1 (i + 1) ≤ c 1 (i + 1) ∧ (∀ (jj0 : Nat), (jj0 < c 1 (i + 1) → True ∧ f 1 (i + 1) jj0 = f 1 (i + 1) jj0 ∧ d 1 (i + 1) jj0 = d 1 (i + 1) jj0 ∧ True))) ∧ (c 2 (i + 1) ≤ c 2 (i + 1) ∧ (∀ (jj0 : Nat), (jj0 < c 2 (i + 1) → True ∧ f 2 (i + 1) jj0 = f 2 (i + 1) jj0 ∧ d 2 (i + 1) jj0 = d 2 (i + 1) jj0 ∧ True))) ∧ (c 3 (i + 1) ≤ c 3 (i + 1) ∧ (∀ (jj0 : Nat), (jj0 < c 3 (i + 1) → True ∧ f 3 (i + 1) jj0 = f 3 (i + 1) jj0 ∧ d 3 (i + 1) jj0 = d 3 (i + 1) jj0 ∧ True))) ∧ ((0 = 0 ∧ n = n ∧ n ≤ n ∧ n ≤ n) ∧ True) ∧ (n ≤ n ∧ (∀ (jj0 : Nat), (jj0 < n → Go.AE.okL (Go.AE.St.nx (S z n a s m c f d r (i + 1))) 4 (rowQ z c r (i + 1) jj0) ∧ z jj0 0 = z jj0 0 ∧ z jj0 1 = z jj0 1 ∧ eqL [(1011, 100011), (1010, 100010), (1009, 100009), (1008, 100008), (1007, 100007), (1006, 100006), (1005, 100005), (1004, 100004)] [match jj0 with
    | 0 => SV.sl 100004 0 (c 0 (i + 1)) (c 0 (i + 1)) Bool.false
    | 1 => SV.sl 100005 0 (c 1 (i + 1)) (c 1 (i + 1)) Bool.false
    | 2 => SV.sl 100006 0 (c 2 (i + 1)) (c 2 (i + 1)) Bool.false
    | 3 => SV.sl 100007 0 (c 3 (i + 1)) (c 3 (i + 1)) Bool.false
    | x => SV.nils,
    SV.int IntKind.i64 (r jj0 (i + 1))] [match jj0 with
    | 0 => SV.sl 1004 0 (c 0 (i + 1)) (c 0 (i + 1)) Bool.false
    | 1 => SV.sl 1005 0 (c 1 (i + 1)) (c 1 (i + 1)) Bool.false
    | 2 => SV.sl 1006 0 (c 2 (i + 1)) (c 2 (i + 1)) Bool.false
    | 3 => SV.sl 1007 0 (c 3 (i + 1)) (c 3 (i + 1)) Bool.false
    | x => SV.nils,
    SV.int IntKind.i64 (r jj0 (i + 1))]))) ∧ ((0 = 0 ∧ n = n ∧ n ≤ n ∧ n ≤ n) ∧ (0 = 0 ∧ c 0 (i + 1) = c 0 (i + 1) ∧ c 0 (i + 1) ≤ c 0 (i + 1) ∧ c 0 (i + 1) ≤ c 0 (i + 1)) ∧ (0 = 0 ∧ c 1 (i + 1) = c 1 (i + 1) ∧ c 1 (i + 1) ≤ c 1 (i + 1) ∧ c 1 (i + 1) ≤ c 1 (i + 1)) ∧ (0 = 0 ∧ c 2 (i + 1) = c 2 (i + 1) ∧ c 2 (i + 1) ≤ c 2 (i + 1) ∧ c 2 (i + 1) ≤ c 2 (i + 1)) ∧ (0 = 0 ∧ c 3 (i + 1) = c 3 (i + 1) ∧ c 3 (i + 1) ≤ c 3 (i + 1) ∧ c 3 (i + 1) ≤ c 3 (i + 1)) ∧ r 0 (i + 1) = r 0 (i + 1) ∧ r 1 (i + 1) = r 1 (i + 1) ∧ r 2 (i + 1) = r 2 (i + 1) ∧ r 3 (i + 1) = r 3 (i + 1) ∧ True) ∧ (n ≤ n ∧ (∀ (jj0 : Nat), (jj0 < n → True ∧ z jj0 0 = z jj0 0 ∧ z jj0 1 = z jj0 1 ∧ True))) ∧ (m ≤ m ∧ (∀ (jj0 : Nat), (jj0 < m → True ∧ a jj0 0 = a jj0 0 ∧ a jj0 1 = a jj0 1 ∧ a jj0 2 = a jj0 2 ∧ s jj0 3 = s jj0 3 ∧ True))) ∧ True) ∧ ((decide ((↑i : Int) < (80 : Int))) = false → True ∧ ((0 = 0 ∧ n = n ∧ n ≤ n ∧ n ≤ n) ∧ (0 = 0 ∧ m = m ∧ m ≤ m ∧ m ≤ m) ∧ Bool.false = Bool.false ∧ (0 = 0 ∧ 0 = 0) ∧ (0 = 0 ∧ 0 = 0) ∧ (↑i : Int) = (↑K : Int) ∧ True) ∧ (c 0 K ≤ c 0 i ∧ (∀ (jj0 : Nat), (jj0 < c 0 K → True ∧ f 0 i jj0 = f 0 K jj0 ∧ d 0 i jj0 = d 0 K jj0 ∧ True))) ∧ (c 1 K ≤ c 1 i ∧ (∀ (jj0 : Nat), (jj0 < c 1 K → True ∧ f 1 i jj0 = f 1 K jj0 ∧ d 1 i jj0 = d 1 K jj0 ∧ True))) ∧ (c 2 K ≤ c 2 i ∧ (∀ (jj0 : Nat), (jj0 < c 2 K → True ∧ f 2 i jj0 = f 2 K jj0 ∧ d 2 i jj0 = d 2 K jj0 ∧ True))) ∧ (c 3 K ≤ c 3 i ∧ (∀ (jj0 : Nat), (jj0 < c 3 K → True ∧ f 3 i jj0 = f 3 K jj0 ∧ d 3 i jj0 = d 3 K jj0 ∧ True))) ∧ (c 0 K ≤ c 0 i ∧ (∀ (jj0 : Nat), (jj0 < c 0 K → True ∧ f 0 i jj0 = f 0 K jj0 ∧ d 0 i jj0 = d 0 K jj0 ∧ True))) ∧ (c 1 K ≤ c 1 i ∧ (∀ (jj0 : Nat), (jj0 < c 1 K → True ∧ f 1 i jj0 = f 1 K jj0 ∧ d 1 i jj0 = d 1 K jj0 ∧ True))) ∧ (c 2 K ≤ c 2 i ∧ (∀ (jj0 : Nat), (jj0 < c 2 K → True ∧ f 2 i jj0 = f 2 K jj0 ∧ d 2 i jj0 = d 2 K jj0 ∧ True))) ∧ (c 3 K ≤ c 3 i ∧ (∀ (jj0 : Nat), (jj0 < c 3 K → True ∧ f 3 i jj0 = f 3 K jj0 ∧ d 3 i jj0 = d 3 K jj0 ∧ True))) ∧ ((0 = 0 ∧ n = n ∧ n ≤ n ∧ n ≤ n) ∧ True) ∧ (n ≤ n ∧ (∀ (jj0 : Nat), (jj0 < n → Go.AE.okL (Go.AE.St.nx (S z n a s m c f d r K)) 4 (rowQ z c r K jj0) ∧ z jj0 0 = z jj0 0 ∧ z jj0 1 = z jj0 1 ∧ eqL [] [match jj0 with
    | 0 => SV.sl 1004 0 (c 0 i) (c 0 i) Bool.false
    | 1 => SV.sl 1005 0 (c 1 i) (c 1 i) Bool.false
    | 2 => SV.sl 1006 0 (c 2 i) (c 2 i) Bool.false
    | 3 => SV.sl 1007 0 (c 3 i) (c 3 i) Bool.false
    | x => SV.nils,
    SV.int IntKind.i64 (r jj0 i)] [match jj0 with
    | 0 => SV.sl 1004 0 (c 0 K) (c 0 K) Bool.false
    | 1 => SV.sl 1005 0 (c 1 K) (c 1 K) Bool.false
    | 2 => SV.sl 1006 0 (c 2 K) (c 2 K) Bool.false
    | 3 => SV.sl 1007 0 (c 3 K) (c 3 K) Bool.false
    | x => SV.nils,
    SV.int IntKind.i64 (r jj0 K)]))) ∧ ((0 = 0 ∧ n = n ∧ n ≤ n ∧ n ≤ n) ∧ (0 = 0 ∧ c 0 i = c 0 K ∧ c 0 K ≤ c 0 K ∧ c 0 K ≤ c 0 i) ∧ (0 = 0 ∧ c 1 i = c 1 K ∧ c 1 K ≤ c 1 K ∧ c 1 K ≤ c 1 i) ∧ (0 = 0 ∧ c 2 i = c 2 K ∧ c 2 K ≤ c 2 K ∧ c 2 K ≤ c 2 i) ∧ (0 = 0 ∧ c 3 i = c 3 K ∧ c 3 K ≤ c 3 K ∧ c 3 K ≤ c 3 i) ∧ r 0 i = r 0 K ∧ r 1 i = r 1 K ∧ r 2 i = r 2 K ∧ r 3 i = r 3 K ∧ True) ∧ (n ≤ n ∧ (∀ (jj0 : Nat), (jj0 < n → True ∧ z jj0 0 = z jj0 0 ∧ z jj0 1 = z jj0 1 ∧ True))) ∧ (m ≤ m ∧ (∀ (jj0 : Nat), (jj0 < m → True ∧ a jj0 0 = a jj0 0 ∧ a jj0 1 = a jj0 1 ∧ a jj0 2 = a jj0 2 ∧ s jj0 3 = s jj0 3 ∧ True))) ∧ True))) ∧ ((decide ((↑i : Int) < (↑m : Int))) = false → True ∧ ((0 = 0 ∧ n = n ∧ n ≤ n ∧ n ≤ n) ∧ (0 = 0 ∧ m = m ∧ m ≤ m ∧ m ≤ m) ∧ Bool.false = Bool.false ∧ (0 = 0 ∧ 0 = 0) ∧ (0 = 0 ∧ 0 = 0) ∧ (↑i : Int) = (↑K : Int) ∧ True) ∧ (c 0 K ≤ c 0 i ∧ (∀ (jj0 : Nat), (jj0 < c 0 K → True ∧ f 0 i jj0 = f 0 K jj0 ∧ d 0 i jj0 = d 0 K jj0 ∧ True))) ∧ (c 1 K ≤ c 1 i ∧ (∀ (jj0 : Nat), (jj0 < c 1 K → True ∧ f 1 i jj0 = f 1 K jj0 ∧ d 1 i jj0 = d 1 K jj0 ∧ True))) ∧ (c 2 K ≤ c 2 i ∧ (∀ (jj0 : Nat), (jj0 < c 2 K → True ∧ f 2 i jj0 = f 2 K jj0 ∧ d 2 i jj0 = d 2 K jj0 ∧ True))) ∧ (c 3 K ≤ c 3 i ∧ (∀ (jj0 : Nat), (jj0 < c 3 K → True ∧ f 3 i jj0 = f 3 K jj0 ∧ d 3 i jj0 = d 3 K jj0 ∧ True))) ∧ (c 0 K ≤ c 0 i ∧ (∀ (jj0 : Nat), (jj0 < c 0 K → True ∧ f 0 i jj0 = f 0 K jj0 ∧ d 0 i jj0 = d 0 K jj0 ∧ True))) ∧ (c 1 K ≤ c 1 i ∧ (∀ (jj0 : Nat), (jj0 < c 1 K → True ∧ f 1 i jj0 = f 1 K jj0 ∧ d 1 i jj0 = d 1 K jj0 ∧ True))) ∧ (c 2 K ≤ c 2 i ∧ (∀ (jj0 : Nat), (jj0 < c 2 K → True ∧ f 2 i jj0 = f 2 K jj0 ∧ d 2 i jj0 = d 2 K jj0 ∧ True))) ∧ (c 3 K ≤ c 3 i ∧ (∀ (jj0 : Nat), (jj0 < c 3 K → True ∧ f 3 i jj0 = f 3 K jj0 ∧ d 3 i jj0 = d 3 K jj0 ∧ True))) ∧ ((0 = 0 ∧ n = n ∧ n ≤ n ∧ n ≤ n) ∧ True) ∧ (n ≤ n ∧ (∀ (jj0 : Nat), (jj0 < n → Go.AE.okL (Go.AE.St.nx (S z n a s m c f d r K)) 4 (rowQ z c r K jj0) ∧ z jj0 0 = z jj0 0 ∧ z jj0 1 = z jj0 1 ∧ eqL [] [match jj0 with
    | 0 => SV.sl 1004 0 (c 0 i) (c 0 i) Bool.false
    | 1 => SV.sl 1005 0 (c 1 i) (c 1 i) Bool.false
    | 2 => SV.sl 1006 0 (c 2 i) (c 2 i) Bool.false
    | 3 => SV.sl 1007 0 (c 3 i) (c 3 i) Bool.false
    | x => SV.nils,
    SV.int IntKind.i64 (r jj0 i)] [match jj0 with
    | 0 => SV.sl 1004 0 (c 0 K) (c 0 K) Bool.false
    | 1 => SV.sl 1005 0 (c 1 K) (c 1 K) Bool.false
    | 2 => SV.sl 1006 0 (c 2 K) (c 2 K) Bool.false
    | 3 => SV.sl 1007 0 (c 3 K) (c 3 K) Bool.false
    | x => SV.nils,
    SV.int IntKind.i64 (r jj0 K)]))) ∧ ((0 = 0 ∧ n = n ∧ n ≤ n ∧ n ≤ n) ∧ (0 = 0 ∧ c 0 i = c 0 K ∧ c 0 K ≤ c 0 K ∧ c 0 K ≤ c 0 i) ∧ (0 = 0 ∧ c 1 i = c 1 K ∧ c 1 K ≤ c 1 K ∧ c 1 K ≤ c 1 i) ∧ (0 = 0 ∧ c 2 i = c 2 K ∧ c 2 K ≤ c 2 K ∧ c 2 K ≤ c 2 i) ∧ (0 = 0 ∧ c 3 i = c 3 K ∧ c 3 K ≤ c 3 K ∧ c 3 K ≤ c 3 i) ∧ r 0 i = r 0 K ∧ r 1 i = r 1 K ∧ r 2 i = r 2 K ∧ r 3 i = r 3 K ∧ True) ∧ (n ≤ n ∧ (∀ (jj0 : Nat), (jj0 < n → True ∧ z jj0 0 = z jj0 0 ∧ z jj0 1 = z jj0 1 ∧ True))) ∧ (m ≤ m ∧ (∀ (jj0 : Nat), (jj0 < m → True ∧ a jj0 0 = a jj0 0 ∧ a jj0 1 = a jj0 1 ∧ a jj0 2 = a jj0 2 ∧ s jj0 3 = s jj0 3 ∧ True))) ∧ True))) (by kernel_rfl) ?_⟩
  repeat' (first | exact hp | (refine And.intro ?_ ?_) | (with_reducible intro hh; (try simp (disch := omega) only [decide_eq_true_eq, decide_eq_false_iff_not, Bool.and_eq_true, Bool.and_eq_false_imp, Bool.not_eq_true', Bool.not_eq_false', reduceCtorEq, or_false, or_true, Bool.or_eq_true, Bool.or_eq_false_iff, Int.not_lt, Int.not_le, beq_iff_eq, beq_eq_false_iff_ne, hFa, hTa, hb1, hb2, sq0, sameM_self, fO_rM, dO_rM, Nat.zero_add, Nat.mul_one, Nat.sub_zero, Int.toNat_natCast, decide_true, decide_false, cond_true, cond_false, wrap_id, beq_self_eq_true, tmod_nn, tdiv_nn, Bool.true_and, Bool.and_true, true_and, and_true, and_self, Bool.not_true, Bool.not_false] at hh)))
  all_goals (first | with_reducible rfl | exact True.intro | ((with_reducible_and_instances refine Go.AE.sveq_self _ ?_); exact rfl) | (first | with_reducible assumption | omega | (simp only [decide_eq_true_eq, decide_eq_false_iff_not, Bool.and_eq_true, Bool.and_eq_false_imp, Bool.not_eq_true', Bool.not_eq_false', reduceCtorEq, or_false, or_true, Bool.or_eq_true, Bool.or_eq_false_iff, Int.not_lt, Int.not_le, beq_iff_eq, beq_eq_false_iff_ne]; omega) | (simp (disch := omega) only [decide_eq_true_eq, decide_eq_false_iff_not, Bool.and_eq_true, Bool.and_eq_false_imp, Bool.not_eq_true', Bool.not_eq_false', reduceCtorEq, or_false, or_true, Bool.or_eq_true, Bool.or_eq_false_iff, Int.not_lt, Int.not_le, beq_iff_eq, beq_eq_false_iff_ne, hFa, hTa, hb1, hb2, sq0, sameM_self, fO_rM, dO_rM, Nat.zero_add, Nat.mul_one, Nat.sub_zero, Int.toNat_natCast, decide_true, decide_false, cond_true, cond_false, wrap_id, beq_self_eq_true, tmod_nn, tdiv_nn, Bool.true_and, Bool.and_true, true_and, and_true, and_self, Bool.not_true, Bool.not_false]; first | done | omega) | (simp (disch := omega) only [decide_eq_true_eq, decide_eq_false_iff_not, Bool.and_eq_true, Bool.and_eq_false_imp, Bool.not_eq_true', Bool.not_eq_false', reduceCtorEq, or_false, or_true, Bool.or_eq_true, Bool.or_eq_false_iff, Int.not_lt, Int.not_le, beq_iff_eq, beq_eq_false_iff_ne, hFa, hTa, hb1, hb2, sq0, sameM_self, fO_rM, dO_rM, Nat.zero_add, Nat.mul_one, Nat.sub_zero, Int.toNat_natCast, decide_true, decide_false, cond_true, cond_false, wrap_id, beq_self_eq_true, tmod_nn, tdiv_nn, Bool.true_and, Bool.and_true, true_and, and_true, and_self, Bool.not_true, Bool.not_false] at *; first | done | omega)) | exact hs0.1.symm | exact (hs0.2.1 _).symm | exact (hs0.2.2.1 _).symm | exact hs0.2.2.2.symm | exact hs2.1.symm | exact (hs2.2.1 _).symm | exact (hs2.2.2.1 _).symm | exact hs2.2.2.2.symm | exact hs3.1.symm | exact (hs3.2.1 _).symm | exact (hs3.2.2.1 _).symm | exact hs3.2.2.2.symm | exact fun _ _ => rfl | (rw [show K = i by omega]; done) | exact hn'.1.symm | exact (hn'.2.1 _).symm | exact (hn'.2.2.1 _).symm | exact hn'.2.2.2.symm | (rename_i k; rcases (show k = 0 ∨ k = 1 ∨ k = 2 ∨ k = 3 by omega) with h | h | h | h <;> subst h <;> first | exact True.intro | exact ⟨⟨rfl, rfl, Nat.le_refl _, Nat.le_refl _⟩, rfl, True.intro⟩ | exact ⟨⟨rfl, hs0.1.symm, Nat.le_refl _, Nat.le_of_eq hs0.1⟩, hs0.2.2.2.symm, True.intro⟩ | exact ⟨⟨rfl, hn'.1.symm, Nat.le_refl _, Nat.le_of_eq hn'.1⟩, (by simp (disch := omega) only [hFa, hTa, hb1, hb2, sq0, sameM_self, fO_rM, dO_rM, Nat.zero_add, Nat.mul_one, Nat.sub_zero, Int.toNat_natCast, decide_true, decide_false, cond_true, cond_false, wrap_id, beq_self_eq_true, tmod_nn, tdiv_nn, Bool.true_and, Bool.and_true, true_and, and_true, and_self, Bool.not_true, Bool.not_false]; exact hn'.2.2.2.symm), True.intro⟩ | exact ⟨⟨rfl, hs2.1.symm, Nat.le_refl _, Nat.le_of_eq hs2.1⟩, hs2.2.2.2.symm, True.intro⟩ | exact ⟨⟨rfl, hs3.1.symm, Nat.le_refl _, Nat.le_of_eq hs3.1⟩, hs3.2.2.2.symm, True.intro⟩) | ((obtain rfl : K = i := (by omega)); first | exact Nat.le_refl _ | rfl) | (rename_i k; (obtain rfl : K = i := (by omega)); rcases (show k = 0 ∨ k = 1 ∨ k = 2 ∨ k = 3 by omega) with h | h | h | h <;> subst h <;> first | exact True.intro | exact ⟨⟨rfl, rfl, Nat.le_refl _, Nat.le_refl _⟩, rfl, True.intro⟩) | rfl | trace_state)
end Go.Proofs.Ytkekeomkbcghnaa.nics
