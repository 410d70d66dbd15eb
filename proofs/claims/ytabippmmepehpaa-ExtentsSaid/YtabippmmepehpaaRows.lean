/-
  No cell of these rows narrows 'for every input' (looked for: loops, veiled, ifaces, maps, wideKeys, modest, calm, conditions, laid).
  DERIVED. THE GIVEN ROWS OF THIS SEAT. 4 by the template 'for every input the law returns true; each argument reads behind the call as it read before'; 0 by the template 'total and deterministic' (their statements: YtabippmmepehpaaTotals.lean).
  GIVEN WITH THE SEED: the statements are not yours to turn. If you find one false, say at which input.
  Laid BY PROGRAM, IN A SANDBOX (cutbox-rows.mjs): the forced cells as the released guide's own fill.sh prints them over the translation e96274ec908f4592… (all of the seat's roots in one cut). By AI agents, Wed Nov 11 2026. No macro, syntax, notation, axiom, sorry.
-/
import Derived.Test.YtabippmmepehpaaChecked
import GoSem.Claim
import GoSem.ClaimJoined
import GoSem.ClaimMapViews
import Derived.JoinedTies
import Derived.KernelRfl
namespace Go.Proofs.Ytabippmmepehpaa
/- THE CELL 'sum', in the pinned program and in every row, IS THE sha256 OF THE DUMP (.gsa) THAT YtabippmmepehpaaProg.lean LOADS. Nothing in Lean hashes anything: it is a label: what it is worth is what the hold of that sum in a sandbox is worth. -/
noncomputable def Try.pinned : Pinned := { name := "ytabippmmepehpaa", sum := "e96274ec908f4592a7df384f0f6c5e14cbc483fad35dbc2aa2ec262ec9bb12c8", checked := Try.checked }
namespace Rows
def none {H : Type} : Left H := { results := [], args := [] }

/-- 'caissonlaw18.Extents': WHATEVER THE INPUT: true; the input reads as it did. -/
def extentsSpec : ChangeSpec := { name := "extents", fn := fun _ => fun
  | [d1, d2, d3, d4, d5] => { results := [.lit (.bool true)], args := [d1, d2, d3, d4, d5] }
  | _ => none }
def extentsRow : OpenClaim := { program := "ytabippmmepehpaa", sum := "e96274ec908f4592a7df384f0f6c5e14cbc483fad35dbc2aa2ec262ec9bb12c8", func := "caisson/caissonlaw18.Extents", spec := "extents", apart := false }
def ExtentsSaid : Prop := extentsRow.holds Try.pinned (OpenSpec.ofChange extentsSpec)

/-- ITS FALSE NEIGHBOUR: 'it returns false'. Refute it at one input. -/
def extentsWrong : ChangeSpec := { name := "extents", fn := fun _ => fun
  | [d1, d2, d3, d4, d5] => { results := [.lit (.bool false)], args := [d1, d2, d3, d4, d5] }
  | _ => none }
def ExtentsWrongFalsely : Prop := extentsRow.holds Try.pinned (OpenSpec.ofChange extentsWrong)

/-- 'caissonlaw18.ExtentApart': WHATEVER THE INPUT: true; the input reads as it did. -/
def extentApartSpec : ChangeSpec := { name := "extentApart", fn := fun _ => fun
  | [d1, d2, d3] => { results := [.lit (.bool true)], args := [d1, d2, d3] }
  | _ => none }
def extentApartRow : OpenClaim := { program := "ytabippmmepehpaa", sum := "e96274ec908f4592a7df384f0f6c5e14cbc483fad35dbc2aa2ec262ec9bb12c8", func := "caisson/caissonlaw18.ExtentApart", spec := "extentApart", apart := false }
def ExtentApartSaid : Prop := extentApartRow.holds Try.pinned (OpenSpec.ofChange extentApartSpec)

/-- ITS FALSE NEIGHBOUR: 'it returns false'. Refute it at one input. -/
def extentApartWrong : ChangeSpec := { name := "extentApart", fn := fun _ => fun
  | [d1, d2, d3] => { results := [.lit (.bool false)], args := [d1, d2, d3] }
  | _ => none }
def ExtentApartWrongFalsely : Prop := extentApartRow.holds Try.pinned (OpenSpec.ofChange extentApartWrong)

/-- 'caissonlaw18.ExtentForms': WHATEVER THE INPUT: true; the input reads as it did. -/
def extentFormsSpec : ChangeSpec := { name := "extentForms", fn := fun _ => fun
  | [d1, d2] => { results := [.lit (.bool true)], args := [d1, d2] }
  | _ => none }
def extentFormsRow : OpenClaim := { program := "ytabippmmepehpaa", sum := "e96274ec908f4592a7df384f0f6c5e14cbc483fad35dbc2aa2ec262ec9bb12c8", func := "caisson/caissonlaw18.ExtentForms", spec := "extentForms", apart := false }
def ExtentFormsSaid : Prop := extentFormsRow.holds Try.pinned (OpenSpec.ofChange extentFormsSpec)

/-- ITS FALSE NEIGHBOUR: 'it returns false'. Refute it at one input. -/
def extentFormsWrong : ChangeSpec := { name := "extentForms", fn := fun _ => fun
  | [d1, d2] => { results := [.lit (.bool false)], args := [d1, d2] }
  | _ => none }
def ExtentFormsWrongFalsely : Prop := extentFormsRow.holds Try.pinned (OpenSpec.ofChange extentFormsWrong)

/-- 'caissonlaw18.ExtentRuns': WHATEVER THE INPUT: true; the input reads as it did. -/
def extentRunsSpec : ChangeSpec := { name := "extentRuns", fn := fun _ => fun
  | [d1, d2, d3, d4] => { results := [.lit (.bool true)], args := [d1, d2, d3, d4] }
  | _ => none }
def extentRunsRow : OpenClaim := { program := "ytabippmmepehpaa", sum := "e96274ec908f4592a7df384f0f6c5e14cbc483fad35dbc2aa2ec262ec9bb12c8", func := "caisson/caissonlaw18.ExtentRuns", spec := "extentRuns", apart := false }
def ExtentRunsSaid : Prop := extentRunsRow.holds Try.pinned (OpenSpec.ofChange extentRunsSpec)

/-- ITS FALSE NEIGHBOUR: 'it returns false'. Refute it at one input. -/
def extentRunsWrong : ChangeSpec := { name := "extentRuns", fn := fun _ => fun
  | [d1, d2, d3, d4] => { results := [.lit (.bool false)], args := [d1, d2, d3, d4] }
  | _ => none }
def ExtentRunsWrongFalsely : Prop := extentRunsRow.holds Try.pinned (OpenSpec.ofChange extentRunsWrong)

/- THE SECOND FORM. 'bulk': how many values and letters a reading holds, each counted each time it is reached (what is shared counts as often as it is met; a slice's spare places count too). A statement '..UptoSaid' is the law's where the arguments, and the package variables that the reading takes, are together of bulk at most 1048576: NARROWER than '..Said'. Prove '..Said' where nothing that the law and all that it calls make is longer than what came in: it says more and counts as full. Else prove '..UptoSaid'. A law counts once. -/
mutual
def uptoBulk {H : Type} : DataW H → Nat
  | .lit (.string bytes) => bytes.length + 1
  | .lit _ => 1
  | .nil => 1
  | .ptr d => uptoBulk d + 1
  | .slice elems spare => uptoBulkAll elems + uptoBulkAll spare + 1
  | .agg parts => uptoBulkAll parts + 1
  | .iface _ d => uptoBulk d + 1
  | .map entries => uptoBulkEntries entries + 1
  | .held _ => 1
def uptoBulkAll {H : Type} : List (DataW H) → Nat
  | [] => 0
  | d :: r => uptoBulk d + uptoBulkAll r
def uptoBulkEntries {H : Type} : List (Lit × DataW H) → Nat
  | [] => 0
  | x :: r => uptoBulkEntry x + uptoBulkEntries r
def uptoBulkEntry {H : Type} : Lit × DataW H → Nat
  | (.string bytes, d) => bytes.length + uptoBulk d + 1
  | (_, d) => uptoBulk d + 1
 end
def uptoSmall : (H : Type) → List (DataW H) → Bool := fun _ ds => decide (uptoBulkAll ds ≤ 1048576)
def OpenSpec.upto (s : _root_.Go.ChangeSpec) : _root_.Go.OpenSpec := { _root_.Go.OpenSpec.ofChange s with cond := some uptoSmall }

/-- 'caissonlaw18.Extents', WHERE WHAT IT READS IS OF BULK AT MOST 1048576: true; the input reads as it did. -/
def extentsUptoRow : OpenClaim := { program := "ytabippmmepehpaa", sum := "e96274ec908f4592a7df384f0f6c5e14cbc483fad35dbc2aa2ec262ec9bb12c8", func := "caisson/caissonlaw18.Extents", spec := "extents", apart := false, narrowed := true }
def ExtentsUptoSaid : Prop := extentsUptoRow.holds Try.pinned (OpenSpec.upto extentsSpec)

/-- 'caissonlaw18.ExtentApart', WHERE WHAT IT READS IS OF BULK AT MOST 1048576: true; the input reads as it did. -/
def extentApartUptoRow : OpenClaim := { program := "ytabippmmepehpaa", sum := "e96274ec908f4592a7df384f0f6c5e14cbc483fad35dbc2aa2ec262ec9bb12c8", func := "caisson/caissonlaw18.ExtentApart", spec := "extentApart", apart := false, narrowed := true }
def ExtentApartUptoSaid : Prop := extentApartUptoRow.holds Try.pinned (OpenSpec.upto extentApartSpec)

/-- 'caissonlaw18.ExtentForms', WHERE WHAT IT READS IS OF BULK AT MOST 1048576: true; the input reads as it did. -/
def extentFormsUptoRow : OpenClaim := { program := "ytabippmmepehpaa", sum := "e96274ec908f4592a7df384f0f6c5e14cbc483fad35dbc2aa2ec262ec9bb12c8", func := "caisson/caissonlaw18.ExtentForms", spec := "extentForms", apart := false, narrowed := true }
def ExtentFormsUptoSaid : Prop := extentFormsUptoRow.holds Try.pinned (OpenSpec.upto extentFormsSpec)

/-- 'caissonlaw18.ExtentRuns', WHERE WHAT IT READS IS OF BULK AT MOST 1048576: true; the input reads as it did. -/
def extentRunsUptoRow : OpenClaim := { program := "ytabippmmepehpaa", sum := "e96274ec908f4592a7df384f0f6c5e14cbc483fad35dbc2aa2ec262ec9bb12c8", func := "caisson/caissonlaw18.ExtentRuns", spec := "extentRuns", apart := false, narrowed := true }
def ExtentRunsUptoSaid : Prop := extentRunsUptoRow.holds Try.pinned (OpenSpec.upto extentRunsSpec)

end Rows
end Go.Proofs.Ytabippmmepehpaa
