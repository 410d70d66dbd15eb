/- The walk of caissonlaw20.Nics: for every labels and acts it answers true. No condition. -/
import Derived.Test.YtkekeomkbcghnaaNkM
import Derived.Test.YtkekeomkbcghnaaNkG
import Derived.Test.YtkekeomkbcghnaaNkX
namespace Go.Proofs.Ytkekeomkbcghnaa.nics
open Go Go.Proofs Go.AE Go.RowKit nc
set_option maxRecDepth 100000
set_option linter.unusedVariables false
set_option linter.unusedSimpArgs false
theorem fl1 {ρ : Map} {w : World} {p : Pl} {z : Nat → Nat → Int} (hb : BX ρ w p (.fam 2 true 1 (rL z))) : BX ρ w p (.flat 2 true [.int .i64 (z 0 0), .int .i64 (z 0 1)]) := by
  rcases hb with l | l
  · refine .inl ⟨l.1, ?_⟩
    obtain ⟨a, c, e, fr, h1, h2, h3, h4⟩ := l.2
    refine ⟨a, c, e, fr, h1, h2, h3, rfl, fun j v hj => ?_⟩
    match j, hj with
    | 0, hj => cases hj; obtain ⟨u, q1, q2⟩ := (h4 0 (by decide)).2.2 0 _ rfl; exact ⟨u, q1, q2⟩
    | 1, hj => cases hj; obtain ⟨u, q1, q2⟩ := (h4 0 (by decide)).2.2 1 _ rfl; exact ⟨u, q1, q2⟩
    | j + 2, hj => cases hj
  · exact absurd l.2.1 (by decide)
theorem fl2 {ρ : Map} {w : World} {p : Pl} {z : Nat → Nat → Int} (hb : BX ρ w p (.fam 2 true 2 (rL z))) : BX ρ w p (.flat 2 true [.int .i64 (z 0 0), .int .i64 (z 0 1), .int .i64 (z 1 0), .int .i64 (z 1 1)]) := by
  rcases hb with l | l
  · refine .inl ⟨l.1, ?_⟩
    obtain ⟨a, c, e, fr, h1, h2, h3, h4⟩ := l.2
    refine ⟨a, c, e, fr, h1, h2, h3, rfl, fun j v hj => ?_⟩
    match j, hj with
    | 0, hj => cases hj; obtain ⟨u, q1, q2⟩ := (h4 0 (by decide)).2.2 0 _ rfl; exact ⟨u, q1, q2⟩
    | 1, hj => cases hj; obtain ⟨u, q1, q2⟩ := (h4 0 (by decide)).2.2 1 _ rfl; exact ⟨u, q1, q2⟩
    | 2, hj => cases hj; obtain ⟨u, q1, q2⟩ := (h4 1 (by decide)).2.2 0 _ rfl; exact ⟨u, q1, q2⟩
    | 3, hj => cases hj; obtain ⟨u, q1, q2⟩ := (h4 1 (by decide)).2.2 1 _ rfl; exact ⟨u, q1, q2⟩
    | j + 4, hj => cases hj
  · exact absurd l.2.1 (by decide)
theorem fl3 {ρ : Map} {w : World} {p : Pl} {z : Nat → Nat → Int} (hb : BX ρ w p (.fam 2 true 3 (rL z))) : BX ρ w p (.flat 2 true [.int .i64 (z 0 0), .int .i64 (z 0 1), .int .i64 (z 1 0), .int .i64 (z 1 1), .int .i64 (z 2 0), .int .i64 (z 2 1)]) := by
  rcases hb with l | l
  · refine .inl ⟨l.1, ?_⟩
    obtain ⟨a, c, e, fr, h1, h2, h3, h4⟩ := l.2
    refine ⟨a, c, e, fr, h1, h2, h3, rfl, fun j v hj => ?_⟩
    match j, hj with
    | 0, hj => cases hj; obtain ⟨u, q1, q2⟩ := (h4 0 (by decide)).2.2 0 _ rfl; exact ⟨u, q1, q2⟩
    | 1, hj => cases hj; obtain ⟨u, q1, q2⟩ := (h4 0 (by decide)).2.2 1 _ rfl; exact ⟨u, q1, q2⟩
    | 2, hj => cases hj; obtain ⟨u, q1, q2⟩ := (h4 1 (by decide)).2.2 0 _ rfl; exact ⟨u, q1, q2⟩
    | 3, hj => cases hj; obtain ⟨u, q1, q2⟩ := (h4 1 (by decide)).2.2 1 _ rfl; exact ⟨u, q1, q2⟩
    | 4, hj => cases hj; obtain ⟨u, q1, q2⟩ := (h4 2 (by decide)).2.2 0 _ rfl; exact ⟨u, q1, q2⟩
    | 5, hj => cases hj; obtain ⟨u, q1, q2⟩ := (h4 2 (by decide)).2.2 1 _ rfl; exact ⟨u, q1, q2⟩
    | j + 6, hj => cases hj
  · exact absurd l.2.1 (by decide)
theorem fl4 {ρ : Map} {w : World} {p : Pl} {z : Nat → Nat → Int} (hb : BX ρ w p (.fam 2 true 4 (rL z))) : BX ρ w p (.flat 2 true [.int .i64 (z 0 0), .int .i64 (z 0 1), .int .i64 (z 1 0), .int .i64 (z 1 1), .int .i64 (z 2 0), .int .i64 (z 2 1), .int .i64 (z 3 0), .int .i64 (z 3 1)]) := by
  rcases hb with l | l
  · refine .inl ⟨l.1, ?_⟩
    obtain ⟨a, c, e, fr, h1, h2, h3, h4⟩ := l.2
    refine ⟨a, c, e, fr, h1, h2, h3, rfl, fun j v hj => ?_⟩
    match j, hj with
    | 0, hj => cases hj; obtain ⟨u, q1, q2⟩ := (h4 0 (by decide)).2.2 0 _ rfl; exact ⟨u, q1, q2⟩
    | 1, hj => cases hj; obtain ⟨u, q1, q2⟩ := (h4 0 (by decide)).2.2 1 _ rfl; exact ⟨u, q1, q2⟩
    | 2, hj => cases hj; obtain ⟨u, q1, q2⟩ := (h4 1 (by decide)).2.2 0 _ rfl; exact ⟨u, q1, q2⟩
    | 3, hj => cases hj; obtain ⟨u, q1, q2⟩ := (h4 1 (by decide)).2.2 1 _ rfl; exact ⟨u, q1, q2⟩
    | 4, hj => cases hj; obtain ⟨u, q1, q2⟩ := (h4 2 (by decide)).2.2 0 _ rfl; exact ⟨u, q1, q2⟩
    | 5, hj => cases hj; obtain ⟨u, q1, q2⟩ := (h4 2 (by decide)).2.2 1 _ rfl; exact ⟨u, q1, q2⟩
    | 6, hj => cases hj; obtain ⟨u, q1, q2⟩ := (h4 3 (by decide)).2.2 0 _ rfl; exact ⟨u, q1, q2⟩
    | 7, hj => cases hj; obtain ⟨u, q1, q2⟩ := (h4 3 (by decide)).2.2 1 _ rfl; exact ⟨u, q1, q2⟩
    | j + 8, hj => cases hj
  · exact absurd l.2.1 (by decide)
theorem two_in {w : World} {p p2 : Pl} {b b2 : Bk} (h1 : (∀ ρ, BX ρ w p b) ∧ ∀ r, p.fz r = none) (r1 : b.ro = true) (h2 : (∀ ρ, BX ρ w p2 b2) ∧ ∀ r, p2.fz r = none) (r2 : b2.ro = true) : ∀ e ∈ [(p, b), (p2, b2)], ((∀ ρ, BX ρ w e.1 e.2) ∧ ∀ r, e.1.fz r = none) ∧ e.2.ro = true := by
  intro e h
  rcases List.mem_cons.1 h with h | h
  · subst h; exact ⟨h1, r1⟩
  · rcases List.mem_cons.1 h with h | h
    · subst h; exact ⟨h2, r2⟩
    · cases h
theorem walk (a0 : Option Addr) (len cap : Nat) (z : Nat → Nat → Int) (zs0 : Nat → Nat → ByteArray) (zb0 : Nat → Nat → Bool) (a1 : Option Addr) (m cap1 : Nat) (a : Nat → Nat → Int) (s : Nat → Nat → ByteArray) (zb : Nat → Nat → Bool) (w : World)
    (hin : IsIn 2 w a0 len cap (fun i => kv z zs0 zb0 i [.int .i64, .int .i64] 0)) (hle : len ≤ cap) (hcm : cap ≤ maxLen) (hwf : ∀ i j, i < len → (∀ k, [Kd.int .i64, Kd.int .i64][j]? = some (.int k) → (Lit.int k (z i j)).wf = true) ∧ ([Kd.int .i64, Kd.int .i64][j]? = some .str → (zs0 i j).size ≤ maxLen)) (hby : cap * 16 ≤ 140737488351232)
    (hin1 : IsIn 4 w a1 m cap1 (fun i => kv a s zb i [.int .i64, .int .i64, .int .i64, .str] 0)) (hle1 : m ≤ cap1) (hcm1 : cap1 ≤ maxLen) (hwf1 : ∀ i j, i < m → (∀ k, [Kd.int .i64, Kd.int .i64, Kd.int .i64, Kd.str][j]? = some (.int k) → (Lit.int k (a i j)).wf = true) ∧ ([Kd.int .i64, Kd.int .i64, Kd.int .i64, Kd.str][j]? = some .str → (s i j).size ≤ maxLen)) (hby1 : cap1 * 40 ≤ 140737488351232) :
    Calls Try.prog 3 #[.slice a0 len cap, .slice a1 m cap1] w fun e w' => e = .returned (.bool true) ∧ Below w.heap.size w w' := by
  obtain ⟨p, hp, hv⟩ := in_any hin hle
  obtain ⟨p2, hp2, hv2⟩ := in_any hin1 hle1
  have hp : (∀ ρ, BX ρ w p (.fam 2 true len (rL z))) ∧ ∀ r, p.fz r = none := hp
  have hp2 : (∀ ρ, BX ρ w p2 (.fam 4 true m (rA a s))) ∧ ∀ r, p2.fz r = none := hp2
  match len, hp, hv, hle with
  | 0, hp, hv, hle => exact law_of [(p, .fam 2 true 0 (rL z)), (p2, .fam 4 true m (rA a s))] (two_in ⟨fun ρ => hp.1 ρ, hp.2⟩ rfl hp2 rfl) (VRs.cons (hv _ 0 rfl) (VRs.cons (hv2 _ 1 rfl) VRs.nil)) (scr_true pk54 okc (refd0 z a s m p p2))
  | 1, hp, hv, hle =>
    by_cases g : (0 ≤ z 0 0 ∧ z 0 0 ≤ 3 ∧ 0 ≤ z 0 1 ∧ z 0 1 ≤ 15)
    · have hz : ∀ P, P < 1 → 0 ≤ z P 0 ∧ z P 0 ≤ 3 ∧ 0 ≤ z P 1 ∧ z P 1 ≤ 15 := fun P hP => match P, hP with | 0, _ => g
      exact law_of [(p, .flat 2 true [.int .i64 (z 0 0), .int .i64 (z 0 1)]), (p2, .fam 4 true m (rA a s))] (two_in ⟨fun ρ => fl1 (hp.1 ρ), hp.2⟩ rfl hp2 rfl) (VRs.cons (hv _ 0 rfl) (VRs.cons (hv2 _ 1 rfl) VRs.nil)) (scr_true pk54 okc (main1 z a s m p p2 g (min m 80) (lG z 1 a s m (min m 80) (by decide) (by decide) (by omega) hz)))
    · exact law_of [(p, .flat 2 true [.int .i64 (z 0 0), .int .i64 (z 0 1)]), (p2, .fam 4 true m (rA a s))] (two_in ⟨fun ρ => fl1 (hp.1 ρ), hp.2⟩ rfl hp2 rfl) (VRs.cons (hv _ 0 rfl) (VRs.cons (hv2 _ 1 rfl) VRs.nil)) (scr_true pk54 okc (refd1 z a s m p p2 g))
  | 2, hp, hv, hle =>
    by_cases g : (0 ≤ z 0 0 ∧ z 0 0 ≤ 3 ∧ 0 ≤ z 0 1 ∧ z 0 1 ≤ 15) ∧ (0 ≤ z 1 0 ∧ z 1 0 ≤ 3 ∧ 0 ≤ z 1 1 ∧ z 1 1 ≤ 15)
    · have hz : ∀ P, P < 2 → 0 ≤ z P 0 ∧ z P 0 ≤ 3 ∧ 0 ≤ z P 1 ∧ z P 1 ≤ 15 := fun P hP => match P, hP with | 0, _ => g.1 | 1, _ => g.2
      exact law_of [(p, .flat 2 true [.int .i64 (z 0 0), .int .i64 (z 0 1), .int .i64 (z 1 0), .int .i64 (z 1 1)]), (p2, .fam 4 true m (rA a s))] (two_in ⟨fun ρ => fl2 (hp.1 ρ), hp.2⟩ rfl hp2 rfl) (VRs.cons (hv _ 0 rfl) (VRs.cons (hv2 _ 1 rfl) VRs.nil)) (scr_true pk54 okc (main2 z a s m p p2 g.1 g.2 (min m 80) (lG z 2 a s m (min m 80) (by decide) (by decide) (by omega) hz)))
    · exact law_of [(p, .flat 2 true [.int .i64 (z 0 0), .int .i64 (z 0 1), .int .i64 (z 1 0), .int .i64 (z 1 1)]), (p2, .fam 4 true m (rA a s))] (two_in ⟨fun ρ => fl2 (hp.1 ρ), hp.2⟩ rfl hp2 rfl) (VRs.cons (hv _ 0 rfl) (VRs.cons (hv2 _ 1 rfl) VRs.nil)) (scr_true pk54 okc (refd2 z a s m p p2 g))
  | 3, hp, hv, hle =>
    by_cases g : (0 ≤ z 0 0 ∧ z 0 0 ≤ 3 ∧ 0 ≤ z 0 1 ∧ z 0 1 ≤ 15) ∧ (0 ≤ z 1 0 ∧ z 1 0 ≤ 3 ∧ 0 ≤ z 1 1 ∧ z 1 1 ≤ 15) ∧ (0 ≤ z 2 0 ∧ z 2 0 ≤ 3 ∧ 0 ≤ z 2 1 ∧ z 2 1 ≤ 15)
    · have hz : ∀ P, P < 3 → 0 ≤ z P 0 ∧ z P 0 ≤ 3 ∧ 0 ≤ z P 1 ∧ z P 1 ≤ 15 := fun P hP => match P, hP with | 0, _ => g.1 | 1, _ => g.2.1 | 2, _ => g.2.2
      exact law_of [(p, .flat 2 true [.int .i64 (z 0 0), .int .i64 (z 0 1), .int .i64 (z 1 0), .int .i64 (z 1 1), .int .i64 (z 2 0), .int .i64 (z 2 1)]), (p2, .fam 4 true m (rA a s))] (two_in ⟨fun ρ => fl3 (hp.1 ρ), hp.2⟩ rfl hp2 rfl) (VRs.cons (hv _ 0 rfl) (VRs.cons (hv2 _ 1 rfl) VRs.nil)) (scr_true pk54 okc (main3 z a s m p p2 g.1 g.2.1 g.2.2 (min m 80) (lG z 3 a s m (min m 80) (by decide) (by decide) (by omega) hz)))
    · exact law_of [(p, .flat 2 true [.int .i64 (z 0 0), .int .i64 (z 0 1), .int .i64 (z 1 0), .int .i64 (z 1 1), .int .i64 (z 2 0), .int .i64 (z 2 1)]), (p2, .fam 4 true m (rA a s))] (two_in ⟨fun ρ => fl3 (hp.1 ρ), hp.2⟩ rfl hp2 rfl) (VRs.cons (hv _ 0 rfl) (VRs.cons (hv2 _ 1 rfl) VRs.nil)) (scr_true pk54 okc (refd3 z a s m p p2 g))
  | 4, hp, hv, hle =>
    by_cases g : (0 ≤ z 0 0 ∧ z 0 0 ≤ 3 ∧ 0 ≤ z 0 1 ∧ z 0 1 ≤ 15) ∧ (0 ≤ z 1 0 ∧ z 1 0 ≤ 3 ∧ 0 ≤ z 1 1 ∧ z 1 1 ≤ 15) ∧ (0 ≤ z 2 0 ∧ z 2 0 ≤ 3 ∧ 0 ≤ z 2 1 ∧ z 2 1 ≤ 15) ∧ (0 ≤ z 3 0 ∧ z 3 0 ≤ 3 ∧ 0 ≤ z 3 1 ∧ z 3 1 ≤ 15)
    · have hz : ∀ P, P < 4 → 0 ≤ z P 0 ∧ z P 0 ≤ 3 ∧ 0 ≤ z P 1 ∧ z P 1 ≤ 15 := fun P hP => match P, hP with | 0, _ => g.1 | 1, _ => g.2.1 | 2, _ => g.2.2.1 | 3, _ => g.2.2.2
      exact law_of [(p, .flat 2 true [.int .i64 (z 0 0), .int .i64 (z 0 1), .int .i64 (z 1 0), .int .i64 (z 1 1), .int .i64 (z 2 0), .int .i64 (z 2 1), .int .i64 (z 3 0), .int .i64 (z 3 1)]), (p2, .fam 4 true m (rA a s))] (two_in ⟨fun ρ => fl4 (hp.1 ρ), hp.2⟩ rfl hp2 rfl) (VRs.cons (hv _ 0 rfl) (VRs.cons (hv2 _ 1 rfl) VRs.nil)) (scr_true pk54 okc (main4 z a s m p p2 g.1 g.2.1 g.2.2.1 g.2.2.2 (min m 80) (lG z 4 a s m (min m 80) (by decide) (by decide) (by omega) hz)))
    · exact law_of [(p, .flat 2 true [.int .i64 (z 0 0), .int .i64 (z 0 1), .int .i64 (z 1 0), .int .i64 (z 1 1), .int .i64 (z 2 0), .int .i64 (z 2 1), .int .i64 (z 3 0), .int .i64 (z 3 1)]), (p2, .fam 4 true m (rA a s))] (two_in ⟨fun ρ => fl4 (hp.1 ρ), hp.2⟩ rfl hp2 rfl) (VRs.cons (hv _ 0 rfl) (VRs.cons (hv2 _ 1 rfl) VRs.nil)) (scr_true pk54 okc (refd4 z a s m p p2 g))
  | n + 5, hp, hv, hle =>
    have hle2 := fi_le (bd z) (n + 5)
    rcases Nat.lt_or_ge (fi (bd z) (n + 5)) (n + 5) with g | g
    · exact law_of [(p, .fam 2 true (n + 5) (rL z)), (p2, .fam 4 true m (rA a s))] (two_in ⟨fun ρ => hp.1 ρ, hp.2⟩ rfl hp2 rfl) (VRs.cons (hv _ 0 rfl) (VRs.cons (hv2 _ 1 rfl) VRs.nil)) (scr_true pk54 okc (refd5_b z (n + 5) a s m p p2 (by omega) (by omega) ((xl z (n + 5) (by omega)).snd (by omega))))
    · exact law_of [(p, .fam 2 true (n + 5) (rL z)), (p2, .fam 4 true m (rA a s))] (two_in ⟨fun ρ => hp.1 ρ, hp.2⟩ rfl hp2 rfl) (VRs.cons (hv _ 0 rfl) (VRs.cons (hv2 _ 1 rfl) VRs.nil)) (scr_true pk54 okc (refd5_a z (n + 5) a s m p p2 (by omega) (by omega) ((xl z (n + 5) (by omega)).fst (by omega))))
end Go.Proofs.Ytkekeomkbcghnaa.nics
