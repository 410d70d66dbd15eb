/-
  No cell of these rows narrows 'for every input' (looked for: loops, veiled, ifaces, maps, wideKeys, modest, calm, conditions, laid).
  DERIVED. THE GIVEN ROWS OF THIS SEAT. 4 by the template 'for every input the law returns true; each argument reads behind the call as it read before'; 0 by the template 'total and deterministic' (their statements: YtpfgcbimoflgmaaTotals.lean).
  GIVEN WITH THE SEED: the statements are not yours to turn. If you find one false, say at which input.
  Laid BY PROGRAM, IN A SANDBOX (cutbox-rows.mjs): the forced cells as the released guide's own fill.sh prints them over the translation a711e1c49374d84f… (all of the seat's roots in one cut). By AI agents, Wed Nov 11 2026. No macro, syntax, notation, axiom, sorry.
-/
import Derived.Test.YtpfgcbimoflgmaaChecked
import GoSem.Claim
import GoSem.ClaimJoined
import GoSem.ClaimMapViews
import Derived.JoinedTies
import Derived.KernelRfl
namespace Go.Proofs.Ytpfgcbimoflgmaa
/- THE CELL 'sum', in the pinned program and in every row, IS THE sha256 OF THE DUMP (.gsa) THAT YtpfgcbimoflgmaaProg.lean LOADS. Nothing in Lean hashes anything: it is a label: what it is worth is what the hold of that sum in a sandbox is worth. -/
noncomputable def Try.pinned : Pinned := { name := "ytpfgcbimoflgmaa", sum := "a711e1c49374d84f8af98c791bb1abcbae1bb467981119a245941c4f86a00fd7", checked := Try.checked }
namespace Rows
def none {H : Type} : Left H := { results := [], args := [] }

/-- 'caissonlaw15.Assigns': WHATEVER THE INPUT: true; the input reads as it did. -/
def assignsSpec : ChangeSpec := { name := "assigns", fn := fun _ => fun
  | [d1, d2, d3, d4] => { results := [.lit (.bool true)], args := [d1, d2, d3, d4] }
  | _ => none }
def assignsRow : OpenClaim := { program := "ytpfgcbimoflgmaa", sum := "a711e1c49374d84f8af98c791bb1abcbae1bb467981119a245941c4f86a00fd7", func := "caisson/caissonlaw15.Assigns", spec := "assigns", apart := false }
def AssignsSaid : Prop := assignsRow.holds Try.pinned (OpenSpec.ofChange assignsSpec)

/-- ITS FALSE NEIGHBOUR: 'it returns false'. Refute it at one input. -/
def assignsWrong : ChangeSpec := { name := "assigns", fn := fun _ => fun
  | [d1, d2, d3, d4] => { results := [.lit (.bool false)], args := [d1, d2, d3, d4] }
  | _ => none }
def AssignsWrongFalsely : Prop := assignsRow.holds Try.pinned (OpenSpec.ofChange assignsWrong)

/-- 'caissonlaw15.AssignMoves': WHATEVER THE INPUT: true; the input reads as it did. -/
def assignMovesSpec : ChangeSpec := { name := "assignMoves", fn := fun _ => fun
  | [d1, d2, d3] => { results := [.lit (.bool true)], args := [d1, d2, d3] }
  | _ => none }
def assignMovesRow : OpenClaim := { program := "ytpfgcbimoflgmaa", sum := "a711e1c49374d84f8af98c791bb1abcbae1bb467981119a245941c4f86a00fd7", func := "caisson/caissonlaw15.AssignMoves", spec := "assignMoves", apart := false }
def AssignMovesSaid : Prop := assignMovesRow.holds Try.pinned (OpenSpec.ofChange assignMovesSpec)

/-- ITS FALSE NEIGHBOUR: 'it returns false'. Refute it at one input. -/
def assignMovesWrong : ChangeSpec := { name := "assignMoves", fn := fun _ => fun
  | [d1, d2, d3] => { results := [.lit (.bool false)], args := [d1, d2, d3] }
  | _ => none }
def AssignMovesWrongFalsely : Prop := assignMovesRow.holds Try.pinned (OpenSpec.ofChange assignMovesWrong)

/-- 'caissonlaw15.AssignForms': WHATEVER THE INPUT: true; the input reads as it did. -/
def assignFormsSpec : ChangeSpec := { name := "assignForms", fn := fun _ => fun
  | [d1, d2] => { results := [.lit (.bool true)], args := [d1, d2] }
  | _ => none }
def assignFormsRow : OpenClaim := { program := "ytpfgcbimoflgmaa", sum := "a711e1c49374d84f8af98c791bb1abcbae1bb467981119a245941c4f86a00fd7", func := "caisson/caissonlaw15.AssignForms", spec := "assignForms", apart := false }
def AssignFormsSaid : Prop := assignFormsRow.holds Try.pinned (OpenSpec.ofChange assignFormsSpec)

/-- ITS FALSE NEIGHBOUR: 'it returns false'. Refute it at one input. -/
def assignFormsWrong : ChangeSpec := { name := "assignForms", fn := fun _ => fun
  | [d1, d2] => { results := [.lit (.bool false)], args := [d1, d2] }
  | _ => none }
def AssignFormsWrongFalsely : Prop := assignFormsRow.holds Try.pinned (OpenSpec.ofChange assignFormsWrong)

/-- 'caissonlaw15.AssignApart': WHATEVER THE INPUT: true; the input reads as it did. -/
def assignApartSpec : ChangeSpec := { name := "assignApart", fn := fun _ => fun
  | [d1, d2] => { results := [.lit (.bool true)], args := [d1, d2] }
  | _ => none }
def assignApartRow : OpenClaim := { program := "ytpfgcbimoflgmaa", sum := "a711e1c49374d84f8af98c791bb1abcbae1bb467981119a245941c4f86a00fd7", func := "caisson/caissonlaw15.AssignApart", spec := "assignApart", apart := false }
def AssignApartSaid : Prop := assignApartRow.holds Try.pinned (OpenSpec.ofChange assignApartSpec)

/-- ITS FALSE NEIGHBOUR: 'it returns false'. Refute it at one input. -/
def assignApartWrong : ChangeSpec := { name := "assignApart", fn := fun _ => fun
  | [d1, d2] => { results := [.lit (.bool false)], args := [d1, d2] }
  | _ => none }
def AssignApartWrongFalsely : Prop := assignApartRow.holds Try.pinned (OpenSpec.ofChange assignApartWrong)

/- THE SECOND FORM. 'bulk': how many values and letters a reading holds, each counted each time it is reached (what is shared counts as often as it is met; a slice's spare places count too). A statement '..UptoSaid' is the law's where the arguments, and the package variables that the reading takes, are together of bulk at most 1048576: NARROWER than '..Said'. Prove '..Said' where nothing that the law and all that it calls make is longer than what came in: it says more and counts as full. Else prove '..UptoSaid'. A law counts once. -/
mutual
def uptoBulk {H : Type} : DataW H → Nat
  | .lit (.string bytes) => bytes.length + 1
  | .lit _ => 1
  | .nil => 1
  | .ptr d => uptoBulk d + 1
  | .slice elems spare => uptoBulkAll elems + uptoBulkAll spare + 1
  | .agg parts => uptoBulkAll parts + 1
  | .iface _ d => uptoBulk d + 1
  | .map entries => uptoBulkEntries entries + 1
  | .held _ => 1
def uptoBulkAll {H : Type} : List (DataW H) → Nat
  | [] => 0
  | d :: r => uptoBulk d + uptoBulkAll r
def uptoBulkEntries {H : Type} : List (Lit × DataW H) → Nat
  | [] => 0
  | x :: r => uptoBulkEntry x + uptoBulkEntries r
def uptoBulkEntry {H : Type} : Lit × DataW H → Nat
  | (.string bytes, d) => bytes.length + uptoBulk d + 1
  | (_, d) => uptoBulk d + 1
 end
def uptoSmall : (H : Type) → List (DataW H) → Bool := fun _ ds => decide (uptoBulkAll ds ≤ 1048576)
def OpenSpec.upto (s : _root_.Go.ChangeSpec) : _root_.Go.OpenSpec := { _root_.Go.OpenSpec.ofChange s with cond := some uptoSmall }

/-- 'caissonlaw15.Assigns', WHERE WHAT IT READS IS OF BULK AT MOST 1048576: true; the input reads as it did. -/
def assignsUptoRow : OpenClaim := { program := "ytpfgcbimoflgmaa", sum := "a711e1c49374d84f8af98c791bb1abcbae1bb467981119a245941c4f86a00fd7", func := "caisson/caissonlaw15.Assigns", spec := "assigns", apart := false, narrowed := true }
def AssignsUptoSaid : Prop := assignsUptoRow.holds Try.pinned (OpenSpec.upto assignsSpec)

/-- 'caissonlaw15.AssignMoves', WHERE WHAT IT READS IS OF BULK AT MOST 1048576: true; the input reads as it did. -/
def assignMovesUptoRow : OpenClaim := { program := "ytpfgcbimoflgmaa", sum := "a711e1c49374d84f8af98c791bb1abcbae1bb467981119a245941c4f86a00fd7", func := "caisson/caissonlaw15.AssignMoves", spec := "assignMoves", apart := false, narrowed := true }
def AssignMovesUptoSaid : Prop := assignMovesUptoRow.holds Try.pinned (OpenSpec.upto assignMovesSpec)

/-- 'caissonlaw15.AssignForms', WHERE WHAT IT READS IS OF BULK AT MOST 1048576: true; the input reads as it did. -/
def assignFormsUptoRow : OpenClaim := { program := "ytpfgcbimoflgmaa", sum := "a711e1c49374d84f8af98c791bb1abcbae1bb467981119a245941c4f86a00fd7", func := "caisson/caissonlaw15.AssignForms", spec := "assignForms", apart := false, narrowed := true }
def AssignFormsUptoSaid : Prop := assignFormsUptoRow.holds Try.pinned (OpenSpec.upto assignFormsSpec)

/-- 'caissonlaw15.AssignApart', WHERE WHAT IT READS IS OF BULK AT MOST 1048576: true; the input reads as it did. -/
def assignApartUptoRow : OpenClaim := { program := "ytpfgcbimoflgmaa", sum := "a711e1c49374d84f8af98c791bb1abcbae1bb467981119a245941c4f86a00fd7", func := "caisson/caissonlaw15.AssignApart", spec := "assignApart", apart := false, narrowed := true }
def AssignApartUptoSaid : Prop := assignApartUptoRow.holds Try.pinned (OpenSpec.upto assignApartSpec)

end Rows
end Go.Proofs.Ytpfgcbimoflgmaa
