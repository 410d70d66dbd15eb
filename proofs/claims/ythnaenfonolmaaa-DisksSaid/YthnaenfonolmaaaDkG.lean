/- Disks: the acts' loop. No condition. -/
import Derived.Test.YthnaenfonolmaaaDkF
import Derived.Test.YthnaenfonolmaaaDkO1
import Derived.Test.YthnaenfonolmaaaDkO2
import Derived.Test.YthnaenfonolmaaaDkO3
import Derived.Test.YthnaenfonolmaaaDkV
import Derived.Test.YthnaenfonolmaaaDkW1
import Derived.Test.YthnaenfonolmaaaDkW2
import Derived.Test.YthnaenfonolmaaaDkX
namespace Go.Proofs.Ythnaenfonolmaaa.disks
open Go Go.Proofs Go.AE Go.RowKit
set_option maxRecDepth 100000
set_option linter.unusedVariables false
set_option linter.unusedSimpArgs false
set_option maxHeartbeats 2000000 in
theorem rG (z : Nat → Nat → Int) (n : Nat) (a : Nat → Nat → Int) (s : Nat → Nat → ByteArray) (m B : Nat) (q : Int) (S K : Nat) (hKm : K ≤ m ∧ K ≤ 60 ∧ (K = m ∨ K = 60)) (hn : n ≤ 4) (hm : m ≤ 9223372036854775806) (hS : S ≤ 64) (hB : B = S * 16) (hB2 : B ≤ 1024) (hM1 : em.mayZ (fun k m => gi (rW z k) m) n 64 = true) (hM2 : em.mayZ (fun k m => gi (rQ z k) m) n 64 = true) (hz : ∀ P, P < n → 0 ≤ z P 3 ∧ 0 ≤ z P 4 ∧ z P 3 + z P 4 ≤ S) (hsz : ∀ i, (s i 4).size ≤ 9223372036854775807) (i : Nat) (hi : i ≤ K)
    (f1 : LO Try.prog (lp Try.prog 3 2) (TF n m i 0) (RS z n a s m B q (lfs n a q (i + 1)) (bts z n a s (i + 1)) 28 []) (.x 5 (TF n m i (n + 2)) (RS z n a s m B q (lfs n a q (i + 1)) (bts z n a s (i + 1)) 28 [])))
    (f2 : LO Try.prog (lp Try.prog 3 2) (TF n m i 0) (RS z n a s m B q (lfs n a q (i + 1)) (bts z n a s (i + 1)) 43 []) (.x 5 (TF n m i (n + 2)) (RS z n a s m B q (lfs n a q (i + 1)) (bts z n a s (i + 1)) 43 [])))
    (f3 : LO Try.prog (lp Try.prog 3 2) (TF n m i 0) (RS z n a s m B q (lfs n a q (i + 1)) (bts z n a s (i + 1)) 48 []) (.x 5 (TF n m i (n + 2)) (RS z n a s m B q (lfs n a q (i + 1)) (bts z n a s (i + 1)) 48 []))) :
    ∃ r, exec (HS Try.prog [] ctr) Try.prog (lp Try.prog 3 1) (TA n m i) (SA z n a s m B q (lfs n a q i) (bts z n a s i)) (kN 27 (TA n m) (fun i => SA z n a s m B q (lfs n a q i) (bts z n a s i)) (fun i => K - i) (fun i => i ≤ K) i) (kX 27 (fun _ => True) fun _ => .x 2 (TA n m K) (SA z n a s m B q (lfs n a q K) (bts z n a s K))) (kR 27 (fun _ => True) fun _ => .n [] s0) r := by
  rcases sp3 (a i 0) with hK | hK | hK <;> rcases spP (a i 1) n with ⟨P, hPa, hPn⟩ | hP
  · by_cases hfit : 0 ≤ a i 2 ∧ a i 2 ≤ z P 4 ∧ ((s i 4).size : Int) / 16 ≤ z P 4 - a i 2 ∧ ((s i 4).size : Int) % 16 = 0
    · have fb := fit_B (hz P hPn) hB hfit
      exact rg_w1 z n a s m B q (lfs n a q) (bts z n a s) i K hKm hn hi hm hM1 hM2 P S (hz P hPn) hS hB hPn hPa f1 f2 f3 hK ((z P 3 + a i 2) * 16).toNat (hsz i) hfit fb.2.1 (lf_n (sp6 hK)) (bt_y hPa hPn hK hfit) (lW z n a s m B q (lfs n a q i) (bts z n a s i) (s i 4) (z P 3 + a i 2) _ fb.1 fb.2.1 fb.2.2 hB2)
    · exact rg_w2 z n a s m B q (lfs n a q) (bts z n a s) i K hKm hn hi hm hM1 hM2 P S (hz P hPn) hS hB hPn hPa f1 f2 f3 hK (hsz i) hfit (lf_n (sp6 hK)) (bt_w hPa hfit)
  · exact rg_o1 z n a s m B q (lfs n a q) (bts z n a s) i K hKm hn hi hm hM1 hM2 f1 f2 f3 hK hP (hsz i) (lf_o hP) (bt_o hP)
  · exact rg_r z n a s m B q (lfs n a q) (bts z n a s) i K hKm hn hi hm hM1 hM2 P S (hz P hPn) hS hB hPn hPa f1 f2 f3 hK (lf_n hK.2) (bt_k hK.1)
  · exact rg_o2 z n a s m B q (lfs n a q) (bts z n a s) i K hKm hn hi hm hM1 hM2 f1 f2 f3 hK hP (hsz i) (lf_o hP) (bt_o hP)
  · exact rg_s z n a s m B q (lfs n a q) (bts z n a s) i K hKm hn hi hm hM1 hM2 P S (hz P hPn) hS hB hPn hPa f1 f2 f3 hK (bt_k (sp7 hK)) (lf_a hK hPa hPn) (lf_b hK hPa hPn) (fun h => lf_c h hPa hPn)
  · exact rg_o3 z n a s m B q (lfs n a q) (bts z n a s) i K hKm hn hi hm hM1 hM2 f1 f2 f3 hK hP (hsz i) (lf_o hP) (bt_o hP)
theorem lG (z : Nat → Nat → Int) (n : Nat) (a : Nat → Nat → Int) (s : Nat → Nat → ByteArray) (m B : Nat) (q : Int) (S K : Nat) (hKm : K ≤ m ∧ K ≤ 60 ∧ (K = m ∨ K = 60)) (hn : n ≤ 4) (hm : m ≤ 9223372036854775806) (hS : S ≤ 64) (hB : B = S * 16) (hB2 : B ≤ 1024) (hM1 : em.mayZ (fun k m => gi (rW z k) m) n 64 = true) (hM2 : em.mayZ (fun k m => gi (rQ z k) m) n 64 = true) (hz : ∀ P, P < n → 0 ≤ z P 3 ∧ 0 ≤ z P 4 ∧ z P 3 + z P 4 ≤ S) (hsz : ∀ i, (s i 4).size ≤ 9223372036854775807) :
    LO Try.prog (lp Try.prog 3 1) (TA n m 0) (SA z n a s m B q (lfs n a q 0) (bts z n a s 0)) (.x 2 (TA n m K) (SA z n a s m B q (lfs n a q K) (bts z n a s K))) :=
  LQ.one (loop_scr pk0 okc (by kernel_rfl) 27 (TA n m) (fun i => SA z n a s m B q (lfs n a q i) (bts z n a s i)) (fun i => K - i) (fun i => i ≤ K) (fun _ => True) (fun _ => .x 2 (TA n m K) (SA z n a s m B q (lfs n a q K) (bts z n a s K))) (fun _ => rfl) (fun i hi => rG z n a s m B q S K hKm hn hm hS hB hB2 hM1 hM2 hz hsz i hi (lF_28 z n a s m B q _ _ i hn) (lF_43 z n a s m B q _ _ i hn) (lF_48 z n a s m B q _ _ i hn)) (Nat.zero_le _) rfl)

end Go.Proofs.Ythnaenfonolmaaa.disks
