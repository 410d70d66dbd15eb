/-
  No cell of these rows narrows 'for every input' (looked for: loops, veiled, ifaces, maps, wideKeys, modest, calm, conditions, laid).
  DERIVED. THE GIVEN ROWS OF THIS SEAT. 4 by the template 'for every input the law returns true; each argument reads behind the call as it read before'; 0 by the template 'total and deterministic' (their statements: YtiimpdpglhbgeaaTotals.lean).
  GIVEN WITH THE SEED: the statements are not yours to turn. If you find one false, say at which input.
  Laid BY PROGRAM, IN A SANDBOX (cutbox-rows.mjs): the forced cells as the released guide's own fill.sh prints them over the translation 0b85a6877dd3126d… (all of the seat's roots in one cut). By AI agents, Wed Nov 11 2026. No macro, syntax, notation, axiom, sorry.
-/
import Derived.Test.YtiimpdpglhbgeaaChecked
import GoSem.Claim
import GoSem.ClaimJoined
import GoSem.ClaimMapViews
import Derived.JoinedTies
import Derived.KernelRfl
namespace Go.Proofs.Ytiimpdpglhbgeaa
/- THE CELL 'sum', in the pinned program and in every row, IS THE sha256 OF THE DUMP (.gsa) THAT YtiimpdpglhbgeaaProg.lean LOADS. Nothing in Lean hashes anything: it is a label: what it is worth is what the hold of that sum in a sandbox is worth. -/
noncomputable def Try.pinned : Pinned := { name := "ytiimpdpglhbgeaa", sum := "0b85a6877dd3126dca43851141edc83f12ceaab558fc78fc6af5249f951e1fa3", checked := Try.checked }
namespace Rows
def none {H : Type} : Left H := { results := [], args := [] }

/-- 'caissonlaw2.Owners': WHATEVER THE INPUT: true; the input reads as it did. -/
def ownersSpec : ChangeSpec := { name := "owners", fn := fun _ => fun
  | [d1, d2] => { results := [.lit (.bool true)], args := [d1, d2] }
  | _ => none }
def ownersRow : OpenClaim := { program := "ytiimpdpglhbgeaa", sum := "0b85a6877dd3126dca43851141edc83f12ceaab558fc78fc6af5249f951e1fa3", func := "caisson/caissonlaw2.Owners", spec := "owners", apart := false }
def OwnersSaid : Prop := ownersRow.holds Try.pinned (OpenSpec.ofChange ownersSpec)

/-- ITS FALSE NEIGHBOUR: 'it returns false'. Refute it at one input. -/
def ownersWrong : ChangeSpec := { name := "owners", fn := fun _ => fun
  | [d1, d2] => { results := [.lit (.bool false)], args := [d1, d2] }
  | _ => none }
def OwnersWrongFalsely : Prop := ownersRow.holds Try.pinned (OpenSpec.ofChange ownersWrong)

/-- 'caissonlaw2.OwnerForms': WHATEVER THE INPUT: true; the input reads as it did. -/
def ownerFormsSpec : ChangeSpec := { name := "ownerForms", fn := fun _ => fun
  | [d1, d2] => { results := [.lit (.bool true)], args := [d1, d2] }
  | _ => none }
def ownerFormsRow : OpenClaim := { program := "ytiimpdpglhbgeaa", sum := "0b85a6877dd3126dca43851141edc83f12ceaab558fc78fc6af5249f951e1fa3", func := "caisson/caissonlaw2.OwnerForms", spec := "ownerForms", apart := false }
def OwnerFormsSaid : Prop := ownerFormsRow.holds Try.pinned (OpenSpec.ofChange ownerFormsSpec)

/-- ITS FALSE NEIGHBOUR: 'it returns false'. Refute it at one input. -/
def ownerFormsWrong : ChangeSpec := { name := "ownerForms", fn := fun _ => fun
  | [d1, d2] => { results := [.lit (.bool false)], args := [d1, d2] }
  | _ => none }
def OwnerFormsWrongFalsely : Prop := ownerFormsRow.holds Try.pinned (OpenSpec.ofChange ownerFormsWrong)

/-- 'caissonlaw2.OwnerLast': WHATEVER THE INPUT: true; the input reads as it did. -/
def ownerLastSpec : ChangeSpec := { name := "ownerLast", fn := fun _ => fun
  | [d] => { results := [.lit (.bool true)], args := [d] }
  | _ => none }
def ownerLastRow : OpenClaim := { program := "ytiimpdpglhbgeaa", sum := "0b85a6877dd3126dca43851141edc83f12ceaab558fc78fc6af5249f951e1fa3", func := "caisson/caissonlaw2.OwnerLast", spec := "ownerLast", apart := false }
def OwnerLastSaid : Prop := ownerLastRow.holds Try.pinned (OpenSpec.ofChange ownerLastSpec)

/-- ITS FALSE NEIGHBOUR: 'it returns false'. Refute it at one input. -/
def ownerLastWrong : ChangeSpec := { name := "ownerLast", fn := fun _ => fun
  | [d] => { results := [.lit (.bool false)], args := [d] }
  | _ => none }
def OwnerLastWrongFalsely : Prop := ownerLastRow.holds Try.pinned (OpenSpec.ofChange ownerLastWrong)

/-- 'caissonlaw2.OwnerRows': WHATEVER THE INPUT: true; the input reads as it did. -/
def ownerRowsSpec : ChangeSpec := { name := "ownerRows", fn := fun _ => fun
  | [d1, d2] => { results := [.lit (.bool true)], args := [d1, d2] }
  | _ => none }
def ownerRowsRow : OpenClaim := { program := "ytiimpdpglhbgeaa", sum := "0b85a6877dd3126dca43851141edc83f12ceaab558fc78fc6af5249f951e1fa3", func := "caisson/caissonlaw2.OwnerRows", spec := "ownerRows", apart := false }
def OwnerRowsSaid : Prop := ownerRowsRow.holds Try.pinned (OpenSpec.ofChange ownerRowsSpec)

/-- ITS FALSE NEIGHBOUR: 'it returns false'. Refute it at one input. -/
def ownerRowsWrong : ChangeSpec := { name := "ownerRows", fn := fun _ => fun
  | [d1, d2] => { results := [.lit (.bool false)], args := [d1, d2] }
  | _ => none }
def OwnerRowsWrongFalsely : Prop := ownerRowsRow.holds Try.pinned (OpenSpec.ofChange ownerRowsWrong)

/- THE SECOND FORM. 'bulk': how many values and letters a reading holds, each counted each time it is reached (what is shared counts as often as it is met; a slice's spare places count too). A statement '..UptoSaid' is the law's where the arguments, and the package variables that the reading takes, are together of bulk at most 1048576: NARROWER than '..Said'. Prove '..Said' where nothing that the law and all that it calls make is longer than what came in: it says more and counts as full. Else prove '..UptoSaid'. A law counts once. -/
mutual
def uptoBulk {H : Type} : DataW H → Nat
  | .lit (.string bytes) => bytes.length + 1
  | .lit _ => 1
  | .nil => 1
  | .ptr d => uptoBulk d + 1
  | .slice elems spare => uptoBulkAll elems + uptoBulkAll spare + 1
  | .agg parts => uptoBulkAll parts + 1
  | .iface _ d => uptoBulk d + 1
  | .map entries => uptoBulkEntries entries + 1
  | .held _ => 1
def uptoBulkAll {H : Type} : List (DataW H) → Nat
  | [] => 0
  | d :: r => uptoBulk d + uptoBulkAll r
def uptoBulkEntries {H : Type} : List (Lit × DataW H) → Nat
  | [] => 0
  | x :: r => uptoBulkEntry x + uptoBulkEntries r
def uptoBulkEntry {H : Type} : Lit × DataW H → Nat
  | (.string bytes, d) => bytes.length + uptoBulk d + 1
  | (_, d) => uptoBulk d + 1
 end
def uptoSmall : (H : Type) → List (DataW H) → Bool := fun _ ds => decide (uptoBulkAll ds ≤ 1048576)
def OpenSpec.upto (s : _root_.Go.ChangeSpec) : _root_.Go.OpenSpec := { _root_.Go.OpenSpec.ofChange s with cond := some uptoSmall }

/-- 'caissonlaw2.Owners', WHERE WHAT IT READS IS OF BULK AT MOST 1048576: true; the input reads as it did. -/
def ownersUptoRow : OpenClaim := { program := "ytiimpdpglhbgeaa", sum := "0b85a6877dd3126dca43851141edc83f12ceaab558fc78fc6af5249f951e1fa3", func := "caisson/caissonlaw2.Owners", spec := "owners", apart := false, narrowed := true }
def OwnersUptoSaid : Prop := ownersUptoRow.holds Try.pinned (OpenSpec.upto ownersSpec)

/-- 'caissonlaw2.OwnerForms', WHERE WHAT IT READS IS OF BULK AT MOST 1048576: true; the input reads as it did. -/
def ownerFormsUptoRow : OpenClaim := { program := "ytiimpdpglhbgeaa", sum := "0b85a6877dd3126dca43851141edc83f12ceaab558fc78fc6af5249f951e1fa3", func := "caisson/caissonlaw2.OwnerForms", spec := "ownerForms", apart := false, narrowed := true }
def OwnerFormsUptoSaid : Prop := ownerFormsUptoRow.holds Try.pinned (OpenSpec.upto ownerFormsSpec)

/-- 'caissonlaw2.OwnerLast', WHERE WHAT IT READS IS OF BULK AT MOST 1048576: true; the input reads as it did. -/
def ownerLastUptoRow : OpenClaim := { program := "ytiimpdpglhbgeaa", sum := "0b85a6877dd3126dca43851141edc83f12ceaab558fc78fc6af5249f951e1fa3", func := "caisson/caissonlaw2.OwnerLast", spec := "ownerLast", apart := false, narrowed := true }
def OwnerLastUptoSaid : Prop := ownerLastUptoRow.holds Try.pinned (OpenSpec.upto ownerLastSpec)

/-- 'caissonlaw2.OwnerRows', WHERE WHAT IT READS IS OF BULK AT MOST 1048576: true; the input reads as it did. -/
def ownerRowsUptoRow : OpenClaim := { program := "ytiimpdpglhbgeaa", sum := "0b85a6877dd3126dca43851141edc83f12ceaab558fc78fc6af5249f951e1fa3", func := "caisson/caissonlaw2.OwnerRows", spec := "ownerRows", apart := false, narrowed := true }
def OwnerRowsUptoSaid : Prop := ownerRowsUptoRow.holds Try.pinned (OpenSpec.upto ownerRowsSpec)

end Rows
end Go.Proofs.Ytiimpdpglhbgeaa
