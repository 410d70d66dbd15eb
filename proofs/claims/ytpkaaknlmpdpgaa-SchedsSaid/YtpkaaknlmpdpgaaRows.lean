/-
  No cell of these rows narrows 'for every input' (looked for: loops, veiled, ifaces, maps, wideKeys, modest, calm, conditions, laid).
  DERIVED. THE GIVEN ROWS OF THIS SEAT. 5 by the template 'for every input the law returns true; each argument reads behind the call as it read before'; 0 by the template 'total and deterministic' (their statements: YtpkaaknlmpdpgaaTotals.lean).
  GIVEN WITH THE SEED: the statements are not yours to turn. If you find one false, say at which input.
  Laid BY PROGRAM, IN A SANDBOX (cutbox-rows.mjs): the forced cells as the released guide's own fill.sh prints them over the translation 2f4021fa40ee1103… (all of the seat's roots in one cut). By AI agents, Wed Nov 11 2026. No macro, syntax, notation, axiom, sorry.
-/
import Derived.Test.YtpkaaknlmpdpgaaChecked
import GoSem.Claim
import GoSem.ClaimJoined
import GoSem.ClaimMapViews
import Derived.JoinedTies
import Derived.KernelRfl
namespace Go.Proofs.Ytpkaaknlmpdpgaa
/- THE CELL 'sum', in the pinned program and in every row, IS THE sha256 OF THE DUMP (.gsa) THAT YtpkaaknlmpdpgaaProg.lean LOADS. Nothing in Lean hashes anything: it is a label: what it is worth is what the hold of that sum in a sandbox is worth. -/
noncomputable def Try.pinned : Pinned := { name := "ytpkaaknlmpdpgaa", sum := "2f4021fa40ee1103cd314388bbdea1ab5514d608d8270c16e8a129c8257cb69e", checked := Try.checked }
namespace Rows
def none {H : Type} : Left H := { results := [], args := [] }

/-- 'caissonlaw10.Scheds': WHATEVER THE INPUT: true; the input reads as it did. -/
def schedsSpec : ChangeSpec := { name := "scheds", fn := fun _ => fun
  | [d1, d2, d3, d4, d5] => { results := [.lit (.bool true)], args := [d1, d2, d3, d4, d5] }
  | _ => none }
def schedsRow : OpenClaim := { program := "ytpkaaknlmpdpgaa", sum := "2f4021fa40ee1103cd314388bbdea1ab5514d608d8270c16e8a129c8257cb69e", func := "caisson/caissonlaw10.Scheds", spec := "scheds", unfollowed := true, recurses := true, apart := false }
def SchedsSaid : Prop := schedsRow.holds Try.pinned (OpenSpec.ofChange schedsSpec)

/-- ITS FALSE NEIGHBOUR: 'it returns false'. Refute it at one input. -/
def schedsWrong : ChangeSpec := { name := "scheds", fn := fun _ => fun
  | [d1, d2, d3, d4, d5] => { results := [.lit (.bool false)], args := [d1, d2, d3, d4, d5] }
  | _ => none }
def SchedsWrongFalsely : Prop := schedsRow.holds Try.pinned (OpenSpec.ofChange schedsWrong)

/-- 'caissonlaw10.SchedNext': WHATEVER THE INPUT: true; the input reads as it did. -/
def schedNextSpec : ChangeSpec := { name := "schedNext", fn := fun _ => fun
  | [d1, d2, d3, d4] => { results := [.lit (.bool true)], args := [d1, d2, d3, d4] }
  | _ => none }
def schedNextRow : OpenClaim := { program := "ytpkaaknlmpdpgaa", sum := "2f4021fa40ee1103cd314388bbdea1ab5514d608d8270c16e8a129c8257cb69e", func := "caisson/caissonlaw10.SchedNext", spec := "schedNext", unfollowed := true, recurses := true, apart := false }
def SchedNextSaid : Prop := schedNextRow.holds Try.pinned (OpenSpec.ofChange schedNextSpec)

/-- ITS FALSE NEIGHBOUR: 'it returns false'. Refute it at one input. -/
def schedNextWrong : ChangeSpec := { name := "schedNext", fn := fun _ => fun
  | [d1, d2, d3, d4] => { results := [.lit (.bool false)], args := [d1, d2, d3, d4] }
  | _ => none }
def SchedNextWrongFalsely : Prop := schedNextRow.holds Try.pinned (OpenSpec.ofChange schedNextWrong)

/-- 'caissonlaw10.SchedForms': WHATEVER THE INPUT: true; the input reads as it did. -/
def schedFormsSpec : ChangeSpec := { name := "schedForms", fn := fun _ => fun
  | [d1, d2] => { results := [.lit (.bool true)], args := [d1, d2] }
  | _ => none }
def schedFormsRow : OpenClaim := { program := "ytpkaaknlmpdpgaa", sum := "2f4021fa40ee1103cd314388bbdea1ab5514d608d8270c16e8a129c8257cb69e", func := "caisson/caissonlaw10.SchedForms", spec := "schedForms", unfollowed := true, recurses := true, apart := false }
def SchedFormsSaid : Prop := schedFormsRow.holds Try.pinned (OpenSpec.ofChange schedFormsSpec)

/-- ITS FALSE NEIGHBOUR: 'it returns false'. Refute it at one input. -/
def schedFormsWrong : ChangeSpec := { name := "schedForms", fn := fun _ => fun
  | [d1, d2] => { results := [.lit (.bool false)], args := [d1, d2] }
  | _ => none }
def SchedFormsWrongFalsely : Prop := schedFormsRow.holds Try.pinned (OpenSpec.ofChange schedFormsWrong)

/-- 'caissonlaw10.SchedRound': WHATEVER THE INPUT: true; the input reads as it did. -/
def schedRoundSpec : ChangeSpec := { name := "schedRound", fn := fun _ => fun
  | [d1, d2, d3] => { results := [.lit (.bool true)], args := [d1, d2, d3] }
  | _ => none }
def schedRoundRow : OpenClaim := { program := "ytpkaaknlmpdpgaa", sum := "2f4021fa40ee1103cd314388bbdea1ab5514d608d8270c16e8a129c8257cb69e", func := "caisson/caissonlaw10.SchedRound", spec := "schedRound", unfollowed := true, recurses := true, apart := false }
def SchedRoundSaid : Prop := schedRoundRow.holds Try.pinned (OpenSpec.ofChange schedRoundSpec)

/-- ITS FALSE NEIGHBOUR: 'it returns false'. Refute it at one input. -/
def schedRoundWrong : ChangeSpec := { name := "schedRound", fn := fun _ => fun
  | [d1, d2, d3] => { results := [.lit (.bool false)], args := [d1, d2, d3] }
  | _ => none }
def SchedRoundWrongFalsely : Prop := schedRoundRow.holds Try.pinned (OpenSpec.ofChange schedRoundWrong)

/-- 'caissonlaw10.SchedApart': WHATEVER THE INPUT: true; the input reads as it did. -/
def schedApartSpec : ChangeSpec := { name := "schedApart", fn := fun _ => fun
  | [d1, d2, d3, d4] => { results := [.lit (.bool true)], args := [d1, d2, d3, d4] }
  | _ => none }
def schedApartRow : OpenClaim := { program := "ytpkaaknlmpdpgaa", sum := "2f4021fa40ee1103cd314388bbdea1ab5514d608d8270c16e8a129c8257cb69e", func := "caisson/caissonlaw10.SchedApart", spec := "schedApart", unfollowed := true, recurses := true, apart := false }
def SchedApartSaid : Prop := schedApartRow.holds Try.pinned (OpenSpec.ofChange schedApartSpec)

/-- ITS FALSE NEIGHBOUR: 'it returns false'. Refute it at one input. -/
def schedApartWrong : ChangeSpec := { name := "schedApart", fn := fun _ => fun
  | [d1, d2, d3, d4] => { results := [.lit (.bool false)], args := [d1, d2, d3, d4] }
  | _ => none }
def SchedApartWrongFalsely : Prop := schedApartRow.holds Try.pinned (OpenSpec.ofChange schedApartWrong)

/- THE SECOND FORM. 'bulk': how many values and letters a reading holds, each counted each time it is reached (what is shared counts as often as it is met; a slice's spare places count too). A statement '..UptoSaid' is the law's where the arguments, and the package variables that the reading takes, are together of bulk at most 1048576: NARROWER than '..Said'. Prove '..Said' where nothing that the law and all that it calls make is longer than what came in: it says more and counts as full. Else prove '..UptoSaid'. A law counts once. -/
mutual
def uptoBulk {H : Type} : DataW H → Nat
  | .lit (.string bytes) => bytes.length + 1
  | .lit _ => 1
  | .nil => 1
  | .ptr d => uptoBulk d + 1
  | .slice elems spare => uptoBulkAll elems + uptoBulkAll spare + 1
  | .agg parts => uptoBulkAll parts + 1
  | .iface _ d => uptoBulk d + 1
  | .map entries => uptoBulkEntries entries + 1
  | .held _ => 1
def uptoBulkAll {H : Type} : List (DataW H) → Nat
  | [] => 0
  | d :: r => uptoBulk d + uptoBulkAll r
def uptoBulkEntries {H : Type} : List (Lit × DataW H) → Nat
  | [] => 0
  | x :: r => uptoBulkEntry x + uptoBulkEntries r
def uptoBulkEntry {H : Type} : Lit × DataW H → Nat
  | (.string bytes, d) => bytes.length + uptoBulk d + 1
  | (_, d) => uptoBulk d + 1
 end
def uptoSmall : (H : Type) → List (DataW H) → Bool := fun _ ds => decide (uptoBulkAll ds ≤ 1048576)
def OpenSpec.upto (s : _root_.Go.ChangeSpec) : _root_.Go.OpenSpec := { _root_.Go.OpenSpec.ofChange s with cond := some uptoSmall }

/-- 'caissonlaw10.Scheds', WHERE WHAT IT READS IS OF BULK AT MOST 1048576: true; the input reads as it did. -/
def schedsUptoRow : OpenClaim := { program := "ytpkaaknlmpdpgaa", sum := "2f4021fa40ee1103cd314388bbdea1ab5514d608d8270c16e8a129c8257cb69e", func := "caisson/caissonlaw10.Scheds", spec := "scheds", unfollowed := true, recurses := true, apart := false, narrowed := true }
def SchedsUptoSaid : Prop := schedsUptoRow.holds Try.pinned (OpenSpec.upto schedsSpec)

/-- 'caissonlaw10.SchedNext', WHERE WHAT IT READS IS OF BULK AT MOST 1048576: true; the input reads as it did. -/
def schedNextUptoRow : OpenClaim := { program := "ytpkaaknlmpdpgaa", sum := "2f4021fa40ee1103cd314388bbdea1ab5514d608d8270c16e8a129c8257cb69e", func := "caisson/caissonlaw10.SchedNext", spec := "schedNext", unfollowed := true, recurses := true, apart := false, narrowed := true }
def SchedNextUptoSaid : Prop := schedNextUptoRow.holds Try.pinned (OpenSpec.upto schedNextSpec)

/-- 'caissonlaw10.SchedForms', WHERE WHAT IT READS IS OF BULK AT MOST 1048576: true; the input reads as it did. -/
def schedFormsUptoRow : OpenClaim := { program := "ytpkaaknlmpdpgaa", sum := "2f4021fa40ee1103cd314388bbdea1ab5514d608d8270c16e8a129c8257cb69e", func := "caisson/caissonlaw10.SchedForms", spec := "schedForms", unfollowed := true, recurses := true, apart := false, narrowed := true }
def SchedFormsUptoSaid : Prop := schedFormsUptoRow.holds Try.pinned (OpenSpec.upto schedFormsSpec)

/-- 'caissonlaw10.SchedRound', WHERE WHAT IT READS IS OF BULK AT MOST 1048576: true; the input reads as it did. -/
def schedRoundUptoRow : OpenClaim := { program := "ytpkaaknlmpdpgaa", sum := "2f4021fa40ee1103cd314388bbdea1ab5514d608d8270c16e8a129c8257cb69e", func := "caisson/caissonlaw10.SchedRound", spec := "schedRound", unfollowed := true, recurses := true, apart := false, narrowed := true }
def SchedRoundUptoSaid : Prop := schedRoundUptoRow.holds Try.pinned (OpenSpec.upto schedRoundSpec)

/-- 'caissonlaw10.SchedApart', WHERE WHAT IT READS IS OF BULK AT MOST 1048576: true; the input reads as it did. -/
def schedApartUptoRow : OpenClaim := { program := "ytpkaaknlmpdpgaa", sum := "2f4021fa40ee1103cd314388bbdea1ab5514d608d8270c16e8a129c8257cb69e", func := "caisson/caissonlaw10.SchedApart", spec := "schedApart", unfollowed := true, recurses := true, apart := false, narrowed := true }
def SchedApartUptoSaid : Prop := schedApartUptoRow.holds Try.pinned (OpenSpec.upto schedApartSpec)

end Rows
end Go.Proofs.Ytpkaaknlmpdpgaa
