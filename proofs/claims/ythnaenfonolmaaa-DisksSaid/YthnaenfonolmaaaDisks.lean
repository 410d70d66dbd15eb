/- The walk of caissonlaw19.Disks: for every shares, sizes, quotas and acts it answers true. No condition. -/
import Derived.Test.YthnaenfonolmaaaDkM
import Derived.Test.YthnaenfonolmaaaDkG
namespace Go.Proofs.Ythnaenfonolmaaa.disks
open Go Go.Proofs Go.AE Go.RowKit
set_option maxRecDepth 100000
set_option linter.unusedVariables false
set_option linter.unusedSimpArgs false
theorem walk (a0 : Option Addr) (len cap : Nat) (z : Nat → Nat → Int) (L : Nat → Nat) (y : Nat → Nat → Int) (p : Pl) (sec q : Int) (a3 : Option Addr) (m cap3 : Nat) (zi : Nat → Nat → Int) (zs : Nat → Nat → ByteArray) (zb : Nat → Nat → Bool) (w : World)
    (hin : ∀ ρ : Map, ρ 0 = some p → BX ρ w p (.fam 5 true len (rowP 0 z L y)) ∧ VR ρ (.sl 0 0 len len false) (.slice a0 len cap)) (hfz : ∀ r o, p.fz r = some o → w.heap[r]? = some o) (hle : len ≤ cap)
    (hwf : ∀ i j, i < len → (j = 0 ∨ j = 1 ∨ j = 3 ∨ j = 4) → (Lit.int .i64 (z i j)).wf = true) (hL : ∀ i, i < len → L i ≤ 17592186043904) (hby : cap * 56 ≤ 140737488351232) (w1 : (Lit.int .i64 sec).wf = true) (w2 : (Lit.int .i64 q).wf = true)
    (hin3 : IsIn 5 w a3 m cap3 (fun i => kv zi zs zb i [.int .i64, .int .i64, .int .i64, .int .i64, .str] 0)) (hle3 : m ≤ cap3) (hcm3 : cap3 ≤ maxLen) (hwf3 : ∀ i j, i < m → (∀ k, [Kd.int .i64, Kd.int .i64, Kd.int .i64, Kd.int .i64, Kd.str][j]? = some (.int k) → (Lit.int k (zi i j)).wf = true) ∧ ([Kd.int .i64, Kd.int .i64, Kd.int .i64, Kd.int .i64, Kd.str][j]? = some .str → (zs i j).size ≤ maxLen)) (hby3 : cap3 * 48 ≤ 140737488351232) :
    Calls Try.prog 3 #[.slice a0 len cap, .int .i64 sec, .int .i64 q, .slice a3 m cap3] w fun e w' => e = .returned (.bool true) ∧ Below w.heap.size w w' := by
  obtain ⟨p3, hp3, hv3⟩ := in_any hin3 hle3
  let s : Nat → Nat → ByteArray := fun i j => if i < m then zs i j else .empty
  have hs : ∀ i, (s i 4).size ≤ 9223372036854775807 := fun i => by
    show (if i < m then zs i 4 else ByteArray.empty).size ≤ _
    by_cases h : i < m
    · rw [if_pos h]; exact (hwf3 i 4 h).2 rfl
    · rw [if_neg h]; exact Nat.zero_le _
  have hrow : ∀ k, k < m → kv zi zs zb k [.int .i64, .int .i64, .int .i64, .int .i64, .str] 0 = rA zi s k := fun k hk => by
    show _ = [SV.int .i64 (zi k 0), SV.int .i64 (zi k 1), SV.int .i64 (zi k 2), SV.int .i64 (zi k 3), SV.str (if k < m then zs k 4 else .empty)]
    rw [if_pos hk]; rfl
  refine law_walkZ [(p, .fam 5 true len (rowP 0 z L y)), (p3, .fam 5 true m (rA zi s))] (fun q b h => ?_) (fun q b h => ?_) (VRs.cons (hin _ rfl).2 (VRs.cons (.int _ _) (VRs.cons (.int _ _) (VRs.cons (hv3 _ 1 rfl) VRs.nil)))) (scr_true pk okc ?_)
  · rcases List.mem_cons.1 h with h | h
    · cases h; exact ⟨(hin _ rfl).1, rfl⟩
    · rcases List.mem_cons.1 h with h | h
      · cases h; exact ⟨bx_fam (Nat.le_refl _) hrow (hp3.1 _), rfl⟩
      · cases h
  · rcases List.mem_cons.1 h with h | h
    · cases h; exact hfz
    · rcases List.mem_cons.1 h with h | h
      · cases h; intro r o ho; rw [hp3.2 r] at ho; cases ho
      · cases h
  cases hM : em.mayZ (fun k m => gi (rowP 0 z L y k) m) len sec with
  | false => exact main_n2 z L y len zi s m p p3 sec q (by omega) hL hM
  | true =>
    obtain ⟨h1, h4, hs64, hbd⟩ := may_bd hM
    by_cases hq : 0 ≤ q ∧ q ≤ 64
    · obtain ⟨S, rfl⟩ : ∃ S : Nat, sec = (S : Int) := ⟨sec.toNat, by omega⟩
      have hz : ∀ P, P < len → 0 ≤ z P 3 ∧ 0 ≤ z P 4 ∧ z P 3 + z P 4 ≤ S := fun P hP => by
        have g : 0 ≤ z P 3 ∧ 0 ≤ z P 4 ∧ z P 3 ≤ (S : Int) ∧ z P 4 ≤ (S : Int) - z P 3 := hbd P hP
        omega
      exact main z L y len zi s m p p3 S q h4 h1 hL (by omega) hq hM (min m 60) (lN z L y len zi s m (S * 16) q h4) (lD z L y len zi s m (S * 16) q h4) (lO z len zi s m (S * 16) q h4)
        (lG z len zi s m (S * 16) q S (min m 60) (by omega) h4 (by omega) (by omega) rfl (by omega) (by rw [mW z L y]; exact may_64 hM) (by rw [mQ z L y]; exact may_64 hM) hz hs)
    · exact main_n1 z L y len zi s m p p3 sec q (by omega) hL hM hq
end Go.Proofs.Ythnaenfonolmaaa.disks
