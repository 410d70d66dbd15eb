/-
  No cell of these rows narrows 'for every input' (looked for: loops, veiled, ifaces, maps, wideKeys, modest, calm, conditions, laid).
  DERIVED. THE GIVEN ROWS OF THIS SEAT. 5 by the template 'for every input the law returns true; each argument reads behind the call as it read before'; 0 by the template 'total and deterministic' (their statements: YtkekeomkbcghnaaTotals.lean).
  GIVEN WITH THE SEED: the statements are not yours to turn. If you find one false, say at which input.
  Laid BY PROGRAM, IN A SANDBOX (cutbox-rows.mjs): the forced cells as the released guide's own fill.sh prints them over the translation 21c5627575927759… (all of the seat's roots in one cut). By AI agents, Wed Nov 11 2026. No macro, syntax, notation, axiom, sorry.
-/
import Derived.Test.YtkekeomkbcghnaaChecked
import GoSem.Claim
import GoSem.ClaimJoined
import GoSem.ClaimMapViews
import Derived.JoinedTies
import Derived.KernelRfl
namespace Go.Proofs.Ytkekeomkbcghnaa
/- THE CELL 'sum', in the pinned program and in every row, IS THE sha256 OF THE DUMP (.gsa) THAT YtkekeomkbcghnaaProg.lean LOADS. Nothing in Lean hashes anything: it is a label: what it is worth is what the hold of that sum in a sandbox is worth. -/
noncomputable def Try.pinned : Pinned := { name := "ytkekeomkbcghnaa", sum := "21c56275759277598ead4440f7a33450849480271edd489251fd148aee246241", checked := Try.checked }
namespace Rows
def none {H : Type} : Left H := { results := [], args := [] }

/-- 'caissonlaw20.Nics': WHATEVER THE INPUT: true; the input reads as it did. -/
def nicsSpec : ChangeSpec := { name := "nics", fn := fun _ => fun
  | [d1, d2] => { results := [.lit (.bool true)], args := [d1, d2] }
  | _ => none }
def nicsRow : OpenClaim := { program := "ytkekeomkbcghnaa", sum := "21c56275759277598ead4440f7a33450849480271edd489251fd148aee246241", func := "caisson/caissonlaw20.Nics", spec := "nics", unfollowed := true, recurses := true, apart := false }
def NicsSaid : Prop := nicsRow.holds Try.pinned (OpenSpec.ofChange nicsSpec)

/-- ITS FALSE NEIGHBOUR: 'it returns false'. Refute it at one input. -/
def nicsWrong : ChangeSpec := { name := "nics", fn := fun _ => fun
  | [d1, d2] => { results := [.lit (.bool false)], args := [d1, d2] }
  | _ => none }
def NicsWrongFalsely : Prop := nicsRow.holds Try.pinned (OpenSpec.ofChange nicsWrong)

/-- 'caissonlaw20.NicRows': WHATEVER THE INPUT: true; the input reads as it did. -/
def nicRowsSpec : ChangeSpec := { name := "nicRows", fn := fun _ => fun
  | [d] => { results := [.lit (.bool true)], args := [d] }
  | _ => none }
def nicRowsRow : OpenClaim := { program := "ytkekeomkbcghnaa", sum := "21c56275759277598ead4440f7a33450849480271edd489251fd148aee246241", func := "caisson/caissonlaw20.NicRows", spec := "nicRows", unfollowed := true, recurses := true, apart := false }
def NicRowsSaid : Prop := nicRowsRow.holds Try.pinned (OpenSpec.ofChange nicRowsSpec)

/-- ITS FALSE NEIGHBOUR: 'it returns false'. Refute it at one input. -/
def nicRowsWrong : ChangeSpec := { name := "nicRows", fn := fun _ => fun
  | [d] => { results := [.lit (.bool false)], args := [d] }
  | _ => none }
def NicRowsWrongFalsely : Prop := nicRowsRow.holds Try.pinned (OpenSpec.ofChange nicRowsWrong)

/-- 'caissonlaw20.NicForms': WHATEVER THE INPUT: true; the input reads as it did. -/
def nicFormsSpec : ChangeSpec := { name := "nicForms", fn := fun _ => fun
  | [d1, d2] => { results := [.lit (.bool true)], args := [d1, d2] }
  | _ => none }
def nicFormsRow : OpenClaim := { program := "ytkekeomkbcghnaa", sum := "21c56275759277598ead4440f7a33450849480271edd489251fd148aee246241", func := "caisson/caissonlaw20.NicForms", spec := "nicForms", unfollowed := true, recurses := true, apart := false }
def NicFormsSaid : Prop := nicFormsRow.holds Try.pinned (OpenSpec.ofChange nicFormsSpec)

/-- ITS FALSE NEIGHBOUR: 'it returns false'. Refute it at one input. -/
def nicFormsWrong : ChangeSpec := { name := "nicForms", fn := fun _ => fun
  | [d1, d2] => { results := [.lit (.bool false)], args := [d1, d2] }
  | _ => none }
def NicFormsWrongFalsely : Prop := nicFormsRow.holds Try.pinned (OpenSpec.ofChange nicFormsWrong)

/-- 'caissonlaw20.NicBlind': WHATEVER THE INPUT: true; the input reads as it did. -/
def nicBlindSpec : ChangeSpec := { name := "nicBlind", fn := fun _ => fun
  | [d1, d2, d3] => { results := [.lit (.bool true)], args := [d1, d2, d3] }
  | _ => none }
def nicBlindRow : OpenClaim := { program := "ytkekeomkbcghnaa", sum := "21c56275759277598ead4440f7a33450849480271edd489251fd148aee246241", func := "caisson/caissonlaw20.NicBlind", spec := "nicBlind", unfollowed := true, recurses := true, apart := false }
def NicBlindSaid : Prop := nicBlindRow.holds Try.pinned (OpenSpec.ofChange nicBlindSpec)

/-- ITS FALSE NEIGHBOUR: 'it returns false'. Refute it at one input. -/
def nicBlindWrong : ChangeSpec := { name := "nicBlind", fn := fun _ => fun
  | [d1, d2, d3] => { results := [.lit (.bool false)], args := [d1, d2, d3] }
  | _ => none }
def NicBlindWrongFalsely : Prop := nicBlindRow.holds Try.pinned (OpenSpec.ofChange nicBlindWrong)

/-- 'caissonlaw20.NicLattice': WHATEVER THE INPUT: true; the input reads as it did. -/
def nicLatticeSpec : ChangeSpec := { name := "nicLattice", fn := fun _ => fun
  | [d1, d2, d3] => { results := [.lit (.bool true)], args := [d1, d2, d3] }
  | _ => none }
def nicLatticeRow : OpenClaim := { program := "ytkekeomkbcghnaa", sum := "21c56275759277598ead4440f7a33450849480271edd489251fd148aee246241", func := "caisson/caissonlaw20.NicLattice", spec := "nicLattice", unfollowed := true, recurses := true, apart := false }
def NicLatticeSaid : Prop := nicLatticeRow.holds Try.pinned (OpenSpec.ofChange nicLatticeSpec)

/-- ITS FALSE NEIGHBOUR: 'it returns false'. Refute it at one input. -/
def nicLatticeWrong : ChangeSpec := { name := "nicLattice", fn := fun _ => fun
  | [d1, d2, d3] => { results := [.lit (.bool false)], args := [d1, d2, d3] }
  | _ => none }
def NicLatticeWrongFalsely : Prop := nicLatticeRow.holds Try.pinned (OpenSpec.ofChange nicLatticeWrong)

/- THE SECOND FORM. 'bulk': how many values and letters a reading holds, each counted each time it is reached (what is shared counts as often as it is met; a slice's spare places count too). A statement '..UptoSaid' is the law's where the arguments, and the package variables that the reading takes, are together of bulk at most 1048576: NARROWER than '..Said'. Prove '..Said' where nothing that the law and all that it calls make is longer than what came in: it says more and counts as full. Else prove '..UptoSaid'. A law counts once. -/
mutual
def uptoBulk {H : Type} : DataW H → Nat
  | .lit (.string bytes) => bytes.length + 1
  | .lit _ => 1
  | .nil => 1
  | .ptr d => uptoBulk d + 1
  | .slice elems spare => uptoBulkAll elems + uptoBulkAll spare + 1
  | .agg parts => uptoBulkAll parts + 1
  | .iface _ d => uptoBulk d + 1
  | .map entries => uptoBulkEntries entries + 1
  | .held _ => 1
def uptoBulkAll {H : Type} : List (DataW H) → Nat
  | [] => 0
  | d :: r => uptoBulk d + uptoBulkAll r
def uptoBulkEntries {H : Type} : List (Lit × DataW H) → Nat
  | [] => 0
  | x :: r => uptoBulkEntry x + uptoBulkEntries r
def uptoBulkEntry {H : Type} : Lit × DataW H → Nat
  | (.string bytes, d) => bytes.length + uptoBulk d + 1
  | (_, d) => uptoBulk d + 1
 end
def uptoSmall : (H : Type) → List (DataW H) → Bool := fun _ ds => decide (uptoBulkAll ds ≤ 1048576)
def OpenSpec.upto (s : _root_.Go.ChangeSpec) : _root_.Go.OpenSpec := { _root_.Go.OpenSpec.ofChange s with cond := some uptoSmall }

/-- 'caissonlaw20.Nics', WHERE WHAT IT READS IS OF BULK AT MOST 1048576: true; the input reads as it did. -/
def nicsUptoRow : OpenClaim := { program := "ytkekeomkbcghnaa", sum := "21c56275759277598ead4440f7a33450849480271edd489251fd148aee246241", func := "caisson/caissonlaw20.Nics", spec := "nics", unfollowed := true, recurses := true, apart := false, narrowed := true }
def NicsUptoSaid : Prop := nicsUptoRow.holds Try.pinned (OpenSpec.upto nicsSpec)

/-- 'caissonlaw20.NicRows', WHERE WHAT IT READS IS OF BULK AT MOST 1048576: true; the input reads as it did. -/
def nicRowsUptoRow : OpenClaim := { program := "ytkekeomkbcghnaa", sum := "21c56275759277598ead4440f7a33450849480271edd489251fd148aee246241", func := "caisson/caissonlaw20.NicRows", spec := "nicRows", unfollowed := true, recurses := true, apart := false, narrowed := true }
def NicRowsUptoSaid : Prop := nicRowsUptoRow.holds Try.pinned (OpenSpec.upto nicRowsSpec)

/-- 'caissonlaw20.NicForms', WHERE WHAT IT READS IS OF BULK AT MOST 1048576: true; the input reads as it did. -/
def nicFormsUptoRow : OpenClaim := { program := "ytkekeomkbcghnaa", sum := "21c56275759277598ead4440f7a33450849480271edd489251fd148aee246241", func := "caisson/caissonlaw20.NicForms", spec := "nicForms", unfollowed := true, recurses := true, apart := false, narrowed := true }
def NicFormsUptoSaid : Prop := nicFormsUptoRow.holds Try.pinned (OpenSpec.upto nicFormsSpec)

/-- 'caissonlaw20.NicBlind', WHERE WHAT IT READS IS OF BULK AT MOST 1048576: true; the input reads as it did. -/
def nicBlindUptoRow : OpenClaim := { program := "ytkekeomkbcghnaa", sum := "21c56275759277598ead4440f7a33450849480271edd489251fd148aee246241", func := "caisson/caissonlaw20.NicBlind", spec := "nicBlind", unfollowed := true, recurses := true, apart := false, narrowed := true }
def NicBlindUptoSaid : Prop := nicBlindUptoRow.holds Try.pinned (OpenSpec.upto nicBlindSpec)

/-- 'caissonlaw20.NicLattice', WHERE WHAT IT READS IS OF BULK AT MOST 1048576: true; the input reads as it did. -/
def nicLatticeUptoRow : OpenClaim := { program := "ytkekeomkbcghnaa", sum := "21c56275759277598ead4440f7a33450849480271edd489251fd148aee246241", func := "caisson/caissonlaw20.NicLattice", spec := "nicLattice", unfollowed := true, recurses := true, apart := false, narrowed := true }
def NicLatticeUptoSaid : Prop := nicLatticeUptoRow.holds Try.pinned (OpenSpec.upto nicLatticeSpec)

end Rows
end Go.Proofs.Ytkekeomkbcghnaa
