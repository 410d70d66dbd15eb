/-
  No cell of these rows narrows 'for every input' (looked for: loops, veiled, ifaces, maps, wideKeys, modest, calm, conditions, laid).
  DERIVED. THE GIVEN ROWS OF THIS SEAT. 4 by the template 'for every input the law returns true; each argument reads behind the call as it read before'; 0 by the template 'total and deterministic' (their statements: YtefcppldkepmhaaTotals.lean).
  GIVEN WITH THE SEED: the statements are not yours to turn. If you find one false, say at which input.
  Laid BY PROGRAM, IN A SANDBOX (cutbox-rows.mjs): the forced cells as the released guide's own fill.sh prints them over the translation 1e5c01e36c6ddc1a… (all of the seat's roots in one cut). By AI agents, Wed Nov 11 2026. No macro, syntax, notation, axiom, sorry.
-/
import Derived.Test.YtefcppldkepmhaaChecked
import GoSem.Claim
import GoSem.ClaimJoined
import GoSem.ClaimMapViews
import Derived.JoinedTies
import Derived.KernelRfl
namespace Go.Proofs.Ytefcppldkepmhaa
/- THE CELL 'sum', in the pinned program and in every row, IS THE sha256 OF THE DUMP (.gsa) THAT YtefcppldkepmhaaProg.lean LOADS. Nothing in Lean hashes anything: it is a label: what it is worth is what the hold of that sum in a sandbox is worth. -/
noncomputable def Try.pinned : Pinned := { name := "ytefcppldkepmhaa", sum := "1e5c01e36c6ddc1a23e0b6f304aa750df55180ae247939f82b8dd089dd2a5d38", checked := Try.checked }
namespace Rows
def none {H : Type} : Left H := { results := [], args := [] }

/-- 'caissonlaw16.Descs': WHATEVER THE INPUT: true; the input reads as it did. -/
def descsSpec : ChangeSpec := { name := "descs", fn := fun _ => fun
  | [d1, d2] => { results := [.lit (.bool true)], args := [d1, d2] }
  | _ => none }
def descsRow : OpenClaim := { program := "ytefcppldkepmhaa", sum := "1e5c01e36c6ddc1a23e0b6f304aa750df55180ae247939f82b8dd089dd2a5d38", func := "caisson/caissonlaw16.Descs", spec := "descs", unfollowed := true, recurses := true, apart := false }
def DescsSaid : Prop := descsRow.holds Try.pinned (OpenSpec.ofChange descsSpec)

/-- ITS FALSE NEIGHBOUR: 'it returns false'. Refute it at one input. -/
def descsWrong : ChangeSpec := { name := "descs", fn := fun _ => fun
  | [d1, d2] => { results := [.lit (.bool false)], args := [d1, d2] }
  | _ => none }
def DescsWrongFalsely : Prop := descsRow.holds Try.pinned (OpenSpec.ofChange descsWrong)

/-- 'caissonlaw16.DescBack': WHATEVER THE INPUT: true; the input reads as it did. -/
def descBackSpec : ChangeSpec := { name := "descBack", fn := fun _ => fun
  | [d1, d2] => { results := [.lit (.bool true)], args := [d1, d2] }
  | _ => none }
def descBackRow : OpenClaim := { program := "ytefcppldkepmhaa", sum := "1e5c01e36c6ddc1a23e0b6f304aa750df55180ae247939f82b8dd089dd2a5d38", func := "caisson/caissonlaw16.DescBack", spec := "descBack", unfollowed := true, recurses := true, apart := false }
def DescBackSaid : Prop := descBackRow.holds Try.pinned (OpenSpec.ofChange descBackSpec)

/-- ITS FALSE NEIGHBOUR: 'it returns false'. Refute it at one input. -/
def descBackWrong : ChangeSpec := { name := "descBack", fn := fun _ => fun
  | [d1, d2] => { results := [.lit (.bool false)], args := [d1, d2] }
  | _ => none }
def DescBackWrongFalsely : Prop := descBackRow.holds Try.pinned (OpenSpec.ofChange descBackWrong)

/-- 'caissonlaw16.DescForms': WHATEVER THE INPUT: true; the input reads as it did. -/
def descFormsSpec : ChangeSpec := { name := "descForms", fn := fun _ => fun
  | [d1, d2] => { results := [.lit (.bool true)], args := [d1, d2] }
  | _ => none }
def descFormsRow : OpenClaim := { program := "ytefcppldkepmhaa", sum := "1e5c01e36c6ddc1a23e0b6f304aa750df55180ae247939f82b8dd089dd2a5d38", func := "caisson/caissonlaw16.DescForms", spec := "descForms", unfollowed := true, recurses := true, apart := false }
def DescFormsSaid : Prop := descFormsRow.holds Try.pinned (OpenSpec.ofChange descFormsSpec)

/-- ITS FALSE NEIGHBOUR: 'it returns false'. Refute it at one input. -/
def descFormsWrong : ChangeSpec := { name := "descForms", fn := fun _ => fun
  | [d1, d2] => { results := [.lit (.bool false)], args := [d1, d2] }
  | _ => none }
def DescFormsWrongFalsely : Prop := descFormsRow.holds Try.pinned (OpenSpec.ofChange descFormsWrong)

/-- 'caissonlaw16.DescUnlike': WHATEVER THE INPUT: true; the input reads as it did. -/
def descUnlikeSpec : ChangeSpec := { name := "descUnlike", fn := fun _ => fun
  | [d1, d2, d3] => { results := [.lit (.bool true)], args := [d1, d2, d3] }
  | _ => none }
def descUnlikeRow : OpenClaim := { program := "ytefcppldkepmhaa", sum := "1e5c01e36c6ddc1a23e0b6f304aa750df55180ae247939f82b8dd089dd2a5d38", func := "caisson/caissonlaw16.DescUnlike", spec := "descUnlike", unfollowed := true, recurses := true, apart := false }
def DescUnlikeSaid : Prop := descUnlikeRow.holds Try.pinned (OpenSpec.ofChange descUnlikeSpec)

/-- ITS FALSE NEIGHBOUR: 'it returns false'. Refute it at one input. -/
def descUnlikeWrong : ChangeSpec := { name := "descUnlike", fn := fun _ => fun
  | [d1, d2, d3] => { results := [.lit (.bool false)], args := [d1, d2, d3] }
  | _ => none }
def DescUnlikeWrongFalsely : Prop := descUnlikeRow.holds Try.pinned (OpenSpec.ofChange descUnlikeWrong)

/- THE SECOND FORM. 'bulk': how many values and letters a reading holds, each counted each time it is reached (what is shared counts as often as it is met; a slice's spare places count too). A statement '..UptoSaid' is the law's where the arguments, and the package variables that the reading takes, are together of bulk at most 1048576: NARROWER than '..Said'. Prove '..Said' where nothing that the law and all that it calls make is longer than what came in: it says more and counts as full. Else prove '..UptoSaid'. A law counts once. -/
mutual
def uptoBulk {H : Type} : DataW H → Nat
  | .lit (.string bytes) => bytes.length + 1
  | .lit _ => 1
  | .nil => 1
  | .ptr d => uptoBulk d + 1
  | .slice elems spare => uptoBulkAll elems + uptoBulkAll spare + 1
  | .agg parts => uptoBulkAll parts + 1
  | .iface _ d => uptoBulk d + 1
  | .map entries => uptoBulkEntries entries + 1
  | .held _ => 1
def uptoBulkAll {H : Type} : List (DataW H) → Nat
  | [] => 0
  | d :: r => uptoBulk d + uptoBulkAll r
def uptoBulkEntries {H : Type} : List (Lit × DataW H) → Nat
  | [] => 0
  | x :: r => uptoBulkEntry x + uptoBulkEntries r
def uptoBulkEntry {H : Type} : Lit × DataW H → Nat
  | (.string bytes, d) => bytes.length + uptoBulk d + 1
  | (_, d) => uptoBulk d + 1
 end
def uptoSmall : (H : Type) → List (DataW H) → Bool := fun _ ds => decide (uptoBulkAll ds ≤ 1048576)
def OpenSpec.upto (s : _root_.Go.ChangeSpec) : _root_.Go.OpenSpec := { _root_.Go.OpenSpec.ofChange s with cond := some uptoSmall }

/-- 'caissonlaw16.Descs', WHERE WHAT IT READS IS OF BULK AT MOST 1048576: true; the input reads as it did. -/
def descsUptoRow : OpenClaim := { program := "ytefcppldkepmhaa", sum := "1e5c01e36c6ddc1a23e0b6f304aa750df55180ae247939f82b8dd089dd2a5d38", func := "caisson/caissonlaw16.Descs", spec := "descs", unfollowed := true, recurses := true, apart := false, narrowed := true }
def DescsUptoSaid : Prop := descsUptoRow.holds Try.pinned (OpenSpec.upto descsSpec)

/-- 'caissonlaw16.DescBack', WHERE WHAT IT READS IS OF BULK AT MOST 1048576: true; the input reads as it did. -/
def descBackUptoRow : OpenClaim := { program := "ytefcppldkepmhaa", sum := "1e5c01e36c6ddc1a23e0b6f304aa750df55180ae247939f82b8dd089dd2a5d38", func := "caisson/caissonlaw16.DescBack", spec := "descBack", unfollowed := true, recurses := true, apart := false, narrowed := true }
def DescBackUptoSaid : Prop := descBackUptoRow.holds Try.pinned (OpenSpec.upto descBackSpec)

/-- 'caissonlaw16.DescForms', WHERE WHAT IT READS IS OF BULK AT MOST 1048576: true; the input reads as it did. -/
def descFormsUptoRow : OpenClaim := { program := "ytefcppldkepmhaa", sum := "1e5c01e36c6ddc1a23e0b6f304aa750df55180ae247939f82b8dd089dd2a5d38", func := "caisson/caissonlaw16.DescForms", spec := "descForms", unfollowed := true, recurses := true, apart := false, narrowed := true }
def DescFormsUptoSaid : Prop := descFormsUptoRow.holds Try.pinned (OpenSpec.upto descFormsSpec)

/-- 'caissonlaw16.DescUnlike', WHERE WHAT IT READS IS OF BULK AT MOST 1048576: true; the input reads as it did. -/
def descUnlikeUptoRow : OpenClaim := { program := "ytefcppldkepmhaa", sum := "1e5c01e36c6ddc1a23e0b6f304aa750df55180ae247939f82b8dd089dd2a5d38", func := "caisson/caissonlaw16.DescUnlike", spec := "descUnlike", unfollowed := true, recurses := true, apart := false, narrowed := true }
def DescUnlikeUptoSaid : Prop := descUnlikeUptoRow.holds Try.pinned (OpenSpec.upto descUnlikeSpec)

end Rows
end Go.Proofs.Ytefcppldkepmhaa
