/- The walk of caissonlaw4.Entries: for any entry and any word it answers true. No condition. -/
import Derived.Test.YtoiaffobmccnjaaPEntriesx3
import Derived.Laws.BitsLemmas
import Derived.OpenShut
namespace Go.Proofs.Ytoiaffobmccnjaa.entries
open Go.RowKit Go.Proofs.Ytoiaffobmccnjaa.PEntries Go.Proofs.YtoiaffobmccnjaaW.PrintWords Go.Proofs.YtoiaffobmccnjaaW.PrintLast

theorem ref_may : caissonref1_EntryMay.f = pte_May.f := by funext a b; rfl
theorem put_good : ∀ (f : Fin 64) (p : Fin 3), pte_Put.f (f.val : Int) (1 + (p.val : Int)) = caissonref1_PutEntry.f (f.val : Int) (1 + (p.val : Int)) := by decide +kernel
theorem may_good {f p : Int} (h : pte_May.f f p = some true) : p = 0 ∨ (1 ≤ p ∧ p ≤ 3 ∧ 0 ≤ f ∧ f < 64) := by
  unfold pte_May.f at h
  by_cases h1 : p = 0
  · exact .inl h1
  · rw [if_neg h1] at h
    by_cases h2 : p ≥ 1
    · by_cases h3 : p ≤ 3
      · by_cases h4 : f ≥ 0
        · rw [if_pos h2, if_pos h3, if_pos h4] at h; simp at h; exact .inr ⟨h2, h3, h4, h⟩
        · rw [if_pos h2, if_pos h3, if_neg h4] at h; simp at h
      · rw [if_pos h2, if_neg h3] at h; simp at h
    · rw [if_neg h2] at h; simp at h
theorem may_some (f p : Int) : ∃ r, pte_May.f f p = some r := by
  unfold pte_May.f
  repeat' split
  all_goals exact ⟨_, rfl⟩
theorem put_same (f p : Int) : caissonref1_PutEntry.f f p = pte_Put.f f p := by
  obtain ⟨r, hr⟩ := may_some f p
  cases r with
  | false => unfold caissonref1_PutEntry.f pte_Put.f; rw [ref_may, hr]; rfl
  | true =>
    rcases may_good hr with rfl | ⟨h1, h2, h3, h4⟩
    · unfold caissonref1_PutEntry.f pte_Put.f; rw [ref_may, hr]; rfl
    · have e1 : p = 1 + ((⟨(p - 1).toNat, by omega⟩ : Fin 3).val : Int) := by simp only; omega
      have e2 : f = ((⟨f.toNat, by omega⟩ : Fin 64).val : Int) := by simp only; omega
      rw [e1, e2]
      exact (put_good _ _).symm
theorem put_some (f p : Int) : ∃ a b, pte_Put.f f p = some (a, b) := by
  obtain ⟨r, hr⟩ := may_some f p
  unfold pte_Put.f
  rw [hr]
  simp only [Option.bind_some]
  repeat' split
  all_goals exact ⟨_, _, rfl⟩
theorem get_zero : pte_Get.f 0 = some (0, 0, 0) := by decide +kernel
theorem get_same (a : Int) (ha : (Lit.int .i64 a).wf = true) : caissonref1_GetEntry.f a = pte_Get.f a := by
  have hb := Go.bounds_i64 ha
  unfold caissonref1_GetEntry.f
  by_cases h0 : a = 0
  · subst h0; rw [if_pos rfl, get_zero]
  · rw [if_neg h0, put_same]
    unfold pte_Get.f
    obtain ⟨x, y, hxy⟩ := put_some (a / 4096) (Go.bits .and .i64 (a / 2) 3)
    by_cases h1 : a < 0
    · rw [if_pos h1, hxy]
      simp only [Option.bind_some]
      rw [if_pos h1]
    · rw [if_neg h1]
      have e1 : Int.tdiv a 4096 = a / 4096 := Int.tdiv_eq_ediv_of_nonneg (by omega)
      have e2 : wrap64 (a / 4096) = a / 4096 := by unfold wrap64; omega
      rw [e1, e2, hxy]
      simp only [Option.bind_some]
      rw [if_neg h1]
theorem get_some (a : Int) : ∃ x y z, pte_Get.f a = some (x, y, z) := by
  unfold pte_Get.f
  by_cases h1 : a < 0
  · rw [if_pos h1]; exact ⟨_, _, _, rfl⟩
  · rw [if_neg h1]
    obtain ⟨x, y, hxy⟩ := put_some (wrap64 (Int.tdiv a 4096)) (Go.bits .and .i64 (a / 2) 3)
    rw [hxy]
    simp only [Option.bind_some]
    repeat' split
    all_goals exact ⟨_, _, _, rfl⟩
theorem awake_true : caissonlaw4_awake.f = some true := by decide +kernel
theorem law (f p a : Int) (ha : (Lit.int .i64 a).wf = true) : caissonlaw4_Entries.f f p a = some true := by
  obtain ⟨x, y, h1⟩ := put_some f p
  obtain ⟨u, v, z, h2⟩ := get_some a
  obtain ⟨r, h3⟩ := may_some f p
  unfold caissonlaw4_Entries.f
  rw [put_same, get_same a ha, h1, h2]
  simp only [Option.bind_some, caissonlaw0_Num.f, if_true]
  rw [if_pos (by simp), ref_may, h3]
  simp only [Option.bind_some]
  rw [if_pos (by simp), awake_true]
  rfl
theorem walk (f p a : Int) (w : World) (_ : (Lit.int .i64 f).wf = true) (_ : (Lit.int .i64 p).wf = true) (ha : (Lit.int .i64 a).wf = true) :
    Calls Try.prog 3 #[.agg #[.int .i64 f, .int .i64 p], .int .i64 a] w fun e w' => e = .returned (.bool true) ∧ Below w.heap.size w w' :=
  caissonlaw4_Entries.calls f p a true w (law f p a ha)
end Go.Proofs.Ytoiaffobmccnjaa.entries
