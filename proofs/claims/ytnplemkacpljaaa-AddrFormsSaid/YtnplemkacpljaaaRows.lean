/-
  No cell of these rows narrows 'for every input' (looked for: loops, veiled, ifaces, maps, wideKeys, modest, calm, conditions, laid).
  DERIVED. THE GIVEN ROWS OF THIS SEAT. 5 by the template 'for every input the law returns true; each argument reads behind the call as it read before'; 0 by the template 'total and deterministic' (their statements: YtnplemkacpljaaaTotals.lean).
  GIVEN WITH THE SEED: the statements are not yours to turn. If you find one false, say at which input.
  Laid BY PROGRAM, IN A SANDBOX (cutbox-rows.mjs): the forced cells as the released guide's own fill.sh prints them over the translation 3d1834ff9e7f94e5… (all of the seat's roots in one cut). By AI agents, Wed Nov 11 2026. No macro, syntax, notation, axiom, sorry.
-/
import Derived.Test.YtnplemkacpljaaaChecked
import GoSem.Claim
import GoSem.ClaimJoined
import GoSem.ClaimMapViews
import Derived.JoinedTies
import Derived.KernelRfl
namespace Go.Proofs.Ytnplemkacpljaaa
/- THE CELL 'sum', in the pinned program and in every row, IS THE sha256 OF THE DUMP (.gsa) THAT YtnplemkacpljaaaProg.lean LOADS. Nothing in Lean hashes anything: it is a label: what it is worth is what the hold of that sum in a sandbox is worth. -/
noncomputable def Try.pinned : Pinned := { name := "ytnplemkacpljaaa", sum := "3d1834ff9e7f94e59eb5302e30da64c99893cac97c0733d0744e4a42865f6b74", checked := Try.checked }
namespace Rows
def none {H : Type} : Left H := { results := [], args := [] }

/-- 'caissonlaw1.Addrs': WHATEVER THE INPUT: true; the input reads as it did. -/
def addrsSpec : ChangeSpec := { name := "addrs", fn := fun _ => fun
  | [d1, d2, d3] => { results := [.lit (.bool true)], args := [d1, d2, d3] }
  | _ => none }
def addrsRow : OpenClaim := { program := "ytnplemkacpljaaa", sum := "3d1834ff9e7f94e59eb5302e30da64c99893cac97c0733d0744e4a42865f6b74", func := "caisson/caissonlaw1.Addrs", spec := "addrs", apart := false }
def AddrsSaid : Prop := addrsRow.holds Try.pinned (OpenSpec.ofChange addrsSpec)

/-- ITS FALSE NEIGHBOUR: 'it returns false'. Refute it at one input. -/
def addrsWrong : ChangeSpec := { name := "addrs", fn := fun _ => fun
  | [d1, d2, d3] => { results := [.lit (.bool false)], args := [d1, d2, d3] }
  | _ => none }
def AddrsWrongFalsely : Prop := addrsRow.holds Try.pinned (OpenSpec.ofChange addrsWrong)

/-- 'caissonlaw1.AddrWhole': WHATEVER THE INPUT: true; the input reads as it did. -/
def addrWholeSpec : ChangeSpec := { name := "addrWhole", fn := fun _ => fun
  | [d1, d2] => { results := [.lit (.bool true)], args := [d1, d2] }
  | _ => none }
def addrWholeRow : OpenClaim := { program := "ytnplemkacpljaaa", sum := "3d1834ff9e7f94e59eb5302e30da64c99893cac97c0733d0744e4a42865f6b74", func := "caisson/caissonlaw1.AddrWhole", spec := "addrWhole", apart := false }
def AddrWholeSaid : Prop := addrWholeRow.holds Try.pinned (OpenSpec.ofChange addrWholeSpec)

/-- ITS FALSE NEIGHBOUR: 'it returns false'. Refute it at one input. -/
def addrWholeWrong : ChangeSpec := { name := "addrWhole", fn := fun _ => fun
  | [d1, d2] => { results := [.lit (.bool false)], args := [d1, d2] }
  | _ => none }
def AddrWholeWrongFalsely : Prop := addrWholeRow.holds Try.pinned (OpenSpec.ofChange addrWholeWrong)

/-- 'caissonlaw1.AddrForms': WHATEVER THE INPUT: true; the input reads as it did. -/
def addrFormsSpec : ChangeSpec := { name := "addrForms", fn := fun _ => fun
  | [d1, d2] => { results := [.lit (.bool true)], args := [d1, d2] }
  | _ => none }
def addrFormsRow : OpenClaim := { program := "ytnplemkacpljaaa", sum := "3d1834ff9e7f94e59eb5302e30da64c99893cac97c0733d0744e4a42865f6b74", func := "caisson/caissonlaw1.AddrForms", spec := "addrForms", apart := false }
def AddrFormsSaid : Prop := addrFormsRow.holds Try.pinned (OpenSpec.ofChange addrFormsSpec)

/-- ITS FALSE NEIGHBOUR: 'it returns false'. Refute it at one input. -/
def addrFormsWrong : ChangeSpec := { name := "addrForms", fn := fun _ => fun
  | [d1, d2] => { results := [.lit (.bool false)], args := [d1, d2] }
  | _ => none }
def AddrFormsWrongFalsely : Prop := addrFormsRow.holds Try.pinned (OpenSpec.ofChange addrFormsWrong)

/-- 'caissonlaw1.AddrParts': WHATEVER THE INPUT: true; the input reads as it did. -/
def addrPartsSpec : ChangeSpec := { name := "addrParts", fn := fun _ => fun
  | [d1, d2, d3] => { results := [.lit (.bool true)], args := [d1, d2, d3] }
  | _ => none }
def addrPartsRow : OpenClaim := { program := "ytnplemkacpljaaa", sum := "3d1834ff9e7f94e59eb5302e30da64c99893cac97c0733d0744e4a42865f6b74", func := "caisson/caissonlaw1.AddrParts", spec := "addrParts", apart := false }
def AddrPartsSaid : Prop := addrPartsRow.holds Try.pinned (OpenSpec.ofChange addrPartsSpec)

/-- ITS FALSE NEIGHBOUR: 'it returns false'. Refute it at one input. -/
def addrPartsWrong : ChangeSpec := { name := "addrParts", fn := fun _ => fun
  | [d1, d2, d3] => { results := [.lit (.bool false)], args := [d1, d2, d3] }
  | _ => none }
def AddrPartsWrongFalsely : Prop := addrPartsRow.holds Try.pinned (OpenSpec.ofChange addrPartsWrong)

/-- 'caissonlaw1.AddrFrames': WHATEVER THE INPUT: true; the input reads as it did. -/
def addrFramesSpec : ChangeSpec := { name := "addrFrames", fn := fun _ => fun
  | [d1, d2] => { results := [.lit (.bool true)], args := [d1, d2] }
  | _ => none }
def addrFramesRow : OpenClaim := { program := "ytnplemkacpljaaa", sum := "3d1834ff9e7f94e59eb5302e30da64c99893cac97c0733d0744e4a42865f6b74", func := "caisson/caissonlaw1.AddrFrames", spec := "addrFrames", apart := false }
def AddrFramesSaid : Prop := addrFramesRow.holds Try.pinned (OpenSpec.ofChange addrFramesSpec)

/-- ITS FALSE NEIGHBOUR: 'it returns false'. Refute it at one input. -/
def addrFramesWrong : ChangeSpec := { name := "addrFrames", fn := fun _ => fun
  | [d1, d2] => { results := [.lit (.bool false)], args := [d1, d2] }
  | _ => none }
def AddrFramesWrongFalsely : Prop := addrFramesRow.holds Try.pinned (OpenSpec.ofChange addrFramesWrong)

/- THE SECOND FORM. 'bulk': how many values and letters a reading holds, each counted each time it is reached (what is shared counts as often as it is met; a slice's spare places count too). A statement '..UptoSaid' is the law's where the arguments, and the package variables that the reading takes, are together of bulk at most 1048576: NARROWER than '..Said'. Prove '..Said' where nothing that the law and all that it calls make is longer than what came in: it says more and counts as full. Else prove '..UptoSaid'. A law counts once. -/
mutual
def uptoBulk {H : Type} : DataW H → Nat
  | .lit (.string bytes) => bytes.length + 1
  | .lit _ => 1
  | .nil => 1
  | .ptr d => uptoBulk d + 1
  | .slice elems spare => uptoBulkAll elems + uptoBulkAll spare + 1
  | .agg parts => uptoBulkAll parts + 1
  | .iface _ d => uptoBulk d + 1
  | .map entries => uptoBulkEntries entries + 1
  | .held _ => 1
def uptoBulkAll {H : Type} : List (DataW H) → Nat
  | [] => 0
  | d :: r => uptoBulk d + uptoBulkAll r
def uptoBulkEntries {H : Type} : List (Lit × DataW H) → Nat
  | [] => 0
  | x :: r => uptoBulkEntry x + uptoBulkEntries r
def uptoBulkEntry {H : Type} : Lit × DataW H → Nat
  | (.string bytes, d) => bytes.length + uptoBulk d + 1
  | (_, d) => uptoBulk d + 1
 end
def uptoSmall : (H : Type) → List (DataW H) → Bool := fun _ ds => decide (uptoBulkAll ds ≤ 1048576)
def OpenSpec.upto (s : _root_.Go.ChangeSpec) : _root_.Go.OpenSpec := { _root_.Go.OpenSpec.ofChange s with cond := some uptoSmall }

/-- 'caissonlaw1.Addrs', WHERE WHAT IT READS IS OF BULK AT MOST 1048576: true; the input reads as it did. -/
def addrsUptoRow : OpenClaim := { program := "ytnplemkacpljaaa", sum := "3d1834ff9e7f94e59eb5302e30da64c99893cac97c0733d0744e4a42865f6b74", func := "caisson/caissonlaw1.Addrs", spec := "addrs", apart := false, narrowed := true }
def AddrsUptoSaid : Prop := addrsUptoRow.holds Try.pinned (OpenSpec.upto addrsSpec)

/-- 'caissonlaw1.AddrWhole', WHERE WHAT IT READS IS OF BULK AT MOST 1048576: true; the input reads as it did. -/
def addrWholeUptoRow : OpenClaim := { program := "ytnplemkacpljaaa", sum := "3d1834ff9e7f94e59eb5302e30da64c99893cac97c0733d0744e4a42865f6b74", func := "caisson/caissonlaw1.AddrWhole", spec := "addrWhole", apart := false, narrowed := true }
def AddrWholeUptoSaid : Prop := addrWholeUptoRow.holds Try.pinned (OpenSpec.upto addrWholeSpec)

/-- 'caissonlaw1.AddrForms', WHERE WHAT IT READS IS OF BULK AT MOST 1048576: true; the input reads as it did. -/
def addrFormsUptoRow : OpenClaim := { program := "ytnplemkacpljaaa", sum := "3d1834ff9e7f94e59eb5302e30da64c99893cac97c0733d0744e4a42865f6b74", func := "caisson/caissonlaw1.AddrForms", spec := "addrForms", apart := false, narrowed := true }
def AddrFormsUptoSaid : Prop := addrFormsUptoRow.holds Try.pinned (OpenSpec.upto addrFormsSpec)

/-- 'caissonlaw1.AddrParts', WHERE WHAT IT READS IS OF BULK AT MOST 1048576: true; the input reads as it did. -/
def addrPartsUptoRow : OpenClaim := { program := "ytnplemkacpljaaa", sum := "3d1834ff9e7f94e59eb5302e30da64c99893cac97c0733d0744e4a42865f6b74", func := "caisson/caissonlaw1.AddrParts", spec := "addrParts", apart := false, narrowed := true }
def AddrPartsUptoSaid : Prop := addrPartsUptoRow.holds Try.pinned (OpenSpec.upto addrPartsSpec)

/-- 'caissonlaw1.AddrFrames', WHERE WHAT IT READS IS OF BULK AT MOST 1048576: true; the input reads as it did. -/
def addrFramesUptoRow : OpenClaim := { program := "ytnplemkacpljaaa", sum := "3d1834ff9e7f94e59eb5302e30da64c99893cac97c0733d0744e4a42865f6b74", func := "caisson/caissonlaw1.AddrFrames", spec := "addrFrames", apart := false, narrowed := true }
def AddrFramesUptoSaid : Prop := addrFramesUptoRow.holds Try.pinned (OpenSpec.upto addrFramesSpec)

end Rows
end Go.Proofs.Ytnplemkacpljaaa
