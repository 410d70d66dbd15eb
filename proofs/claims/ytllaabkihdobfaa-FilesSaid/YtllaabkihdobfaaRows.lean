/-
  No cell of these rows narrows 'for every input' (looked for: loops, veiled, ifaces, maps, wideKeys, modest, calm, conditions, laid).
  DERIVED. THE GIVEN ROWS OF THIS SEAT. 3 by the template 'for every input the law returns true; each argument reads behind the call as it read before'; 0 by the template 'total and deterministic' (their statements: YtllaabkihdobfaaTotals.lean).
  GIVEN WITH THE SEED: the statements are not yours to turn. If you find one false, say at which input.
  Laid BY PROGRAM, IN A SANDBOX (cutbox-rows.mjs): the forced cells as the released guide's own fill.sh prints them over the translation 51fa8b16462533ae… (all of the seat's roots in one cut). By AI agents, Wed Nov 11 2026. No macro, syntax, notation, axiom, sorry.
-/
import Derived.Test.YtllaabkihdobfaaChecked
import GoSem.Claim
import GoSem.ClaimJoined
import GoSem.ClaimMapViews
import Derived.JoinedTies
import Derived.KernelRfl
namespace Go.Proofs.Ytllaabkihdobfaa
/- THE CELL 'sum', in the pinned program and in every row, IS THE sha256 OF THE DUMP (.gsa) THAT YtllaabkihdobfaaProg.lean LOADS. Nothing in Lean hashes anything: it is a label: what it is worth is what the hold of that sum in a sandbox is worth. -/
noncomputable def Try.pinned : Pinned := { name := "ytllaabkihdobfaa", sum := "51fa8b16462533aedb6ada0c60e63b8452b8e873a3678de0fe24d35fc5383a0e", checked := Try.checked }
namespace Rows
def none {H : Type} : Left H := { results := [], args := [] }

/-- 'caissonlaw14.Files': WHATEVER THE INPUT: true; the input reads as it did. -/
def filesSpec : ChangeSpec := { name := "files", fn := fun _ => fun
  | [d1, d2] => { results := [.lit (.bool true)], args := [d1, d2] }
  | _ => none }
def filesRow : OpenClaim := { program := "ytllaabkihdobfaa", sum := "51fa8b16462533aedb6ada0c60e63b8452b8e873a3678de0fe24d35fc5383a0e", func := "caisson/caissonlaw14.Files", spec := "files", apart := false }
def FilesSaid : Prop := filesRow.holds Try.pinned (OpenSpec.ofChange filesSpec)

/-- ITS FALSE NEIGHBOUR: 'it returns false'. Refute it at one input. -/
def filesWrong : ChangeSpec := { name := "files", fn := fun _ => fun
  | [d1, d2] => { results := [.lit (.bool false)], args := [d1, d2] }
  | _ => none }
def FilesWrongFalsely : Prop := filesRow.holds Try.pinned (OpenSpec.ofChange filesWrong)

/-- 'caissonlaw14.FileForms': WHATEVER THE INPUT: true; the input reads as it did. -/
def fileFormsSpec : ChangeSpec := { name := "fileForms", fn := fun _ => fun
  | [d1, d2] => { results := [.lit (.bool true)], args := [d1, d2] }
  | _ => none }
def fileFormsRow : OpenClaim := { program := "ytllaabkihdobfaa", sum := "51fa8b16462533aedb6ada0c60e63b8452b8e873a3678de0fe24d35fc5383a0e", func := "caisson/caissonlaw14.FileForms", spec := "fileForms", apart := false }
def FileFormsSaid : Prop := fileFormsRow.holds Try.pinned (OpenSpec.ofChange fileFormsSpec)

/-- ITS FALSE NEIGHBOUR: 'it returns false'. Refute it at one input. -/
def fileFormsWrong : ChangeSpec := { name := "fileForms", fn := fun _ => fun
  | [d1, d2] => { results := [.lit (.bool false)], args := [d1, d2] }
  | _ => none }
def FileFormsWrongFalsely : Prop := fileFormsRow.holds Try.pinned (OpenSpec.ofChange fileFormsWrong)

/-- 'caissonlaw14.FileWalks': WHATEVER THE INPUT: true; the input reads as it did. -/
def fileWalksSpec : ChangeSpec := { name := "fileWalks", fn := fun _ => fun
  | [d] => { results := [.lit (.bool true)], args := [d] }
  | _ => none }
def fileWalksRow : OpenClaim := { program := "ytllaabkihdobfaa", sum := "51fa8b16462533aedb6ada0c60e63b8452b8e873a3678de0fe24d35fc5383a0e", func := "caisson/caissonlaw14.FileWalks", spec := "fileWalks", apart := false }
def FileWalksSaid : Prop := fileWalksRow.holds Try.pinned (OpenSpec.ofChange fileWalksSpec)

/-- ITS FALSE NEIGHBOUR: 'it returns false'. Refute it at one input. -/
def fileWalksWrong : ChangeSpec := { name := "fileWalks", fn := fun _ => fun
  | [d] => { results := [.lit (.bool false)], args := [d] }
  | _ => none }
def FileWalksWrongFalsely : Prop := fileWalksRow.holds Try.pinned (OpenSpec.ofChange fileWalksWrong)

/- THE SECOND FORM. 'bulk': how many values and letters a reading holds, each counted each time it is reached (what is shared counts as often as it is met; a slice's spare places count too). A statement '..UptoSaid' is the law's where the arguments, and the package variables that the reading takes, are together of bulk at most 1048576: NARROWER than '..Said'. Prove '..Said' where nothing that the law and all that it calls make is longer than what came in: it says more and counts as full. Else prove '..UptoSaid'. A law counts once. -/
mutual
def uptoBulk {H : Type} : DataW H → Nat
  | .lit (.string bytes) => bytes.length + 1
  | .lit _ => 1
  | .nil => 1
  | .ptr d => uptoBulk d + 1
  | .slice elems spare => uptoBulkAll elems + uptoBulkAll spare + 1
  | .agg parts => uptoBulkAll parts + 1
  | .iface _ d => uptoBulk d + 1
  | .map entries => uptoBulkEntries entries + 1
  | .held _ => 1
def uptoBulkAll {H : Type} : List (DataW H) → Nat
  | [] => 0
  | d :: r => uptoBulk d + uptoBulkAll r
def uptoBulkEntries {H : Type} : List (Lit × DataW H) → Nat
  | [] => 0
  | x :: r => uptoBulkEntry x + uptoBulkEntries r
def uptoBulkEntry {H : Type} : Lit × DataW H → Nat
  | (.string bytes, d) => bytes.length + uptoBulk d + 1
  | (_, d) => uptoBulk d + 1
 end
def uptoSmall : (H : Type) → List (DataW H) → Bool := fun _ ds => decide (uptoBulkAll ds ≤ 1048576)
def OpenSpec.upto (s : _root_.Go.ChangeSpec) : _root_.Go.OpenSpec := { _root_.Go.OpenSpec.ofChange s with cond := some uptoSmall }

/-- 'caissonlaw14.Files', WHERE WHAT IT READS IS OF BULK AT MOST 1048576: true; the input reads as it did. -/
def filesUptoRow : OpenClaim := { program := "ytllaabkihdobfaa", sum := "51fa8b16462533aedb6ada0c60e63b8452b8e873a3678de0fe24d35fc5383a0e", func := "caisson/caissonlaw14.Files", spec := "files", apart := false, narrowed := true }
def FilesUptoSaid : Prop := filesUptoRow.holds Try.pinned (OpenSpec.upto filesSpec)

/-- 'caissonlaw14.FileForms', WHERE WHAT IT READS IS OF BULK AT MOST 1048576: true; the input reads as it did. -/
def fileFormsUptoRow : OpenClaim := { program := "ytllaabkihdobfaa", sum := "51fa8b16462533aedb6ada0c60e63b8452b8e873a3678de0fe24d35fc5383a0e", func := "caisson/caissonlaw14.FileForms", spec := "fileForms", apart := false, narrowed := true }
def FileFormsUptoSaid : Prop := fileFormsUptoRow.holds Try.pinned (OpenSpec.upto fileFormsSpec)

/-- 'caissonlaw14.FileWalks', WHERE WHAT IT READS IS OF BULK AT MOST 1048576: true; the input reads as it did. -/
def fileWalksUptoRow : OpenClaim := { program := "ytllaabkihdobfaa", sum := "51fa8b16462533aedb6ada0c60e63b8452b8e873a3678de0fe24d35fc5383a0e", func := "caisson/caissonlaw14.FileWalks", spec := "fileWalks", apart := false, narrowed := true }
def FileWalksUptoSaid : Prop := fileWalksUptoRow.holds Try.pinned (OpenSpec.upto fileWalksSpec)

end Rows
end Go.Proofs.Ytllaabkihdobfaa
