/-
  No cell of these rows narrows 'for every input' (looked for: loops, veiled, ifaces, maps, wideKeys, modest, calm, conditions, laid).
  DERIVED. THE GIVEN ROWS OF THIS SEAT. 5 by the template 'for every input the law returns true; each argument reads behind the call as it read before'; 0 by the template 'total and deterministic' (their statements: YtoiaffobmccnjaaTotals.lean).
  GIVEN WITH THE SEED: the statements are not yours to turn. If you find one false, say at which input.
  Laid BY PROGRAM, IN A SANDBOX (cutbox-rows.mjs): the forced cells as the released guide's own fill.sh prints them over the translation 013db47b0f76e4c1… (all of the seat's roots in one cut). By AI agents, Wed Nov 11 2026. No macro, syntax, notation, axiom, sorry.
-/
import Derived.Test.YtoiaffobmccnjaaChecked
import GoSem.Claim
import GoSem.ClaimJoined
import GoSem.ClaimMapViews
import Derived.JoinedTies
import Derived.KernelRfl
namespace Go.Proofs.Ytoiaffobmccnjaa
/- THE CELL 'sum', in the pinned program and in every row, IS THE sha256 OF THE DUMP (.gsa) THAT YtoiaffobmccnjaaProg.lean LOADS. Nothing in Lean hashes anything: it is a label: what it is worth is what the hold of that sum in a sandbox is worth. -/
noncomputable def Try.pinned : Pinned := { name := "ytoiaffobmccnjaa", sum := "013db47b0f76e4c1925a8a08f91a98a89fd3cb0ecb1b54f7ffc8c80a88ad1668", checked := Try.checked }
namespace Rows
def none {H : Type} : Left H := { results := [], args := [] }

/-- 'caissonlaw4.Entries': WHATEVER THE INPUT: true; the input reads as it did. -/
def entriesSpec : ChangeSpec := { name := "entries", fn := fun _ => fun
  | [d1, d2] => { results := [.lit (.bool true)], args := [d1, d2] }
  | _ => none }
def entriesRow : OpenClaim := { program := "ytoiaffobmccnjaa", sum := "013db47b0f76e4c1925a8a08f91a98a89fd3cb0ecb1b54f7ffc8c80a88ad1668", func := "caisson/caissonlaw4.Entries", spec := "entries", apart := false }
def EntriesSaid : Prop := entriesRow.holds Try.pinned (OpenSpec.ofChange entriesSpec)

/-- ITS FALSE NEIGHBOUR: 'it returns false'. Refute it at one input. -/
def entriesWrong : ChangeSpec := { name := "entries", fn := fun _ => fun
  | [d1, d2] => { results := [.lit (.bool false)], args := [d1, d2] }
  | _ => none }
def EntriesWrongFalsely : Prop := entriesRow.holds Try.pinned (OpenSpec.ofChange entriesWrong)

/-- 'caissonlaw4.EntryBack': WHATEVER THE INPUT: true; the input reads as it did. -/
def entryBackSpec : ChangeSpec := { name := "entryBack", fn := fun _ => fun
  | [d1, d2, d3] => { results := [.lit (.bool true)], args := [d1, d2, d3] }
  | _ => none }
def entryBackRow : OpenClaim := { program := "ytoiaffobmccnjaa", sum := "013db47b0f76e4c1925a8a08f91a98a89fd3cb0ecb1b54f7ffc8c80a88ad1668", func := "caisson/caissonlaw4.EntryBack", spec := "entryBack", apart := false }
def EntryBackSaid : Prop := entryBackRow.holds Try.pinned (OpenSpec.ofChange entryBackSpec)

/-- ITS FALSE NEIGHBOUR: 'it returns false'. Refute it at one input. -/
def entryBackWrong : ChangeSpec := { name := "entryBack", fn := fun _ => fun
  | [d1, d2, d3] => { results := [.lit (.bool false)], args := [d1, d2, d3] }
  | _ => none }
def EntryBackWrongFalsely : Prop := entryBackRow.holds Try.pinned (OpenSpec.ofChange entryBackWrong)

/-- 'caissonlaw4.EntryForms': WHATEVER THE INPUT: true; the input reads as it did. -/
def entryFormsSpec : ChangeSpec := { name := "entryForms", fn := fun _ => fun
  | [d1, d2] => { results := [.lit (.bool true)], args := [d1, d2] }
  | _ => none }
def entryFormsRow : OpenClaim := { program := "ytoiaffobmccnjaa", sum := "013db47b0f76e4c1925a8a08f91a98a89fd3cb0ecb1b54f7ffc8c80a88ad1668", func := "caisson/caissonlaw4.EntryForms", spec := "entryForms", apart := false }
def EntryFormsSaid : Prop := entryFormsRow.holds Try.pinned (OpenSpec.ofChange entryFormsSpec)

/-- ITS FALSE NEIGHBOUR: 'it returns false'. Refute it at one input. -/
def entryFormsWrong : ChangeSpec := { name := "entryForms", fn := fun _ => fun
  | [d1, d2] => { results := [.lit (.bool false)], args := [d1, d2] }
  | _ => none }
def EntryFormsWrongFalsely : Prop := entryFormsRow.holds Try.pinned (OpenSpec.ofChange entryFormsWrong)

/-- 'caissonlaw4.EntryAll': WHATEVER THE INPUT: true; the input reads as it did. -/
def entryAllSpec : ChangeSpec := { name := "entryAll", fn := fun _ => fun
  | [d1, d2] => { results := [.lit (.bool true)], args := [d1, d2] }
  | _ => none }
def entryAllRow : OpenClaim := { program := "ytoiaffobmccnjaa", sum := "013db47b0f76e4c1925a8a08f91a98a89fd3cb0ecb1b54f7ffc8c80a88ad1668", func := "caisson/caissonlaw4.EntryAll", spec := "entryAll", apart := false }
def EntryAllSaid : Prop := entryAllRow.holds Try.pinned (OpenSpec.ofChange entryAllSpec)

/-- ITS FALSE NEIGHBOUR: 'it returns false'. Refute it at one input. -/
def entryAllWrong : ChangeSpec := { name := "entryAll", fn := fun _ => fun
  | [d1, d2] => { results := [.lit (.bool false)], args := [d1, d2] }
  | _ => none }
def EntryAllWrongFalsely : Prop := entryAllRow.holds Try.pinned (OpenSpec.ofChange entryAllWrong)

/-- 'caissonlaw4.EntryRights': WHATEVER THE INPUT: true; the input reads as it did. -/
def entryRightsSpec : ChangeSpec := { name := "entryRights", fn := fun _ => fun
  | [d1, d2, d3] => { results := [.lit (.bool true)], args := [d1, d2, d3] }
  | _ => none }
def entryRightsRow : OpenClaim := { program := "ytoiaffobmccnjaa", sum := "013db47b0f76e4c1925a8a08f91a98a89fd3cb0ecb1b54f7ffc8c80a88ad1668", func := "caisson/caissonlaw4.EntryRights", spec := "entryRights", apart := false }
def EntryRightsSaid : Prop := entryRightsRow.holds Try.pinned (OpenSpec.ofChange entryRightsSpec)

/-- ITS FALSE NEIGHBOUR: 'it returns false'. Refute it at one input. -/
def entryRightsWrong : ChangeSpec := { name := "entryRights", fn := fun _ => fun
  | [d1, d2, d3] => { results := [.lit (.bool false)], args := [d1, d2, d3] }
  | _ => none }
def EntryRightsWrongFalsely : Prop := entryRightsRow.holds Try.pinned (OpenSpec.ofChange entryRightsWrong)

/- THE SECOND FORM. 'bulk': how many values and letters a reading holds, each counted each time it is reached (what is shared counts as often as it is met; a slice's spare places count too). A statement '..UptoSaid' is the law's where the arguments, and the package variables that the reading takes, are together of bulk at most 1048576: NARROWER than '..Said'. Prove '..Said' where nothing that the law and all that it calls make is longer than what came in: it says more and counts as full. Else prove '..UptoSaid'. A law counts once. -/
mutual
def uptoBulk {H : Type} : DataW H → Nat
  | .lit (.string bytes) => bytes.length + 1
  | .lit _ => 1
  | .nil => 1
  | .ptr d => uptoBulk d + 1
  | .slice elems spare => uptoBulkAll elems + uptoBulkAll spare + 1
  | .agg parts => uptoBulkAll parts + 1
  | .iface _ d => uptoBulk d + 1
  | .map entries => uptoBulkEntries entries + 1
  | .held _ => 1
def uptoBulkAll {H : Type} : List (DataW H) → Nat
  | [] => 0
  | d :: r => uptoBulk d + uptoBulkAll r
def uptoBulkEntries {H : Type} : List (Lit × DataW H) → Nat
  | [] => 0
  | x :: r => uptoBulkEntry x + uptoBulkEntries r
def uptoBulkEntry {H : Type} : Lit × DataW H → Nat
  | (.string bytes, d) => bytes.length + uptoBulk d + 1
  | (_, d) => uptoBulk d + 1
 end
def uptoSmall : (H : Type) → List (DataW H) → Bool := fun _ ds => decide (uptoBulkAll ds ≤ 1048576)
def OpenSpec.upto (s : _root_.Go.ChangeSpec) : _root_.Go.OpenSpec := { _root_.Go.OpenSpec.ofChange s with cond := some uptoSmall }

/-- 'caissonlaw4.Entries', WHERE WHAT IT READS IS OF BULK AT MOST 1048576: true; the input reads as it did. -/
def entriesUptoRow : OpenClaim := { program := "ytoiaffobmccnjaa", sum := "013db47b0f76e4c1925a8a08f91a98a89fd3cb0ecb1b54f7ffc8c80a88ad1668", func := "caisson/caissonlaw4.Entries", spec := "entries", apart := false, narrowed := true }
def EntriesUptoSaid : Prop := entriesUptoRow.holds Try.pinned (OpenSpec.upto entriesSpec)

/-- 'caissonlaw4.EntryBack', WHERE WHAT IT READS IS OF BULK AT MOST 1048576: true; the input reads as it did. -/
def entryBackUptoRow : OpenClaim := { program := "ytoiaffobmccnjaa", sum := "013db47b0f76e4c1925a8a08f91a98a89fd3cb0ecb1b54f7ffc8c80a88ad1668", func := "caisson/caissonlaw4.EntryBack", spec := "entryBack", apart := false, narrowed := true }
def EntryBackUptoSaid : Prop := entryBackUptoRow.holds Try.pinned (OpenSpec.upto entryBackSpec)

/-- 'caissonlaw4.EntryForms', WHERE WHAT IT READS IS OF BULK AT MOST 1048576: true; the input reads as it did. -/
def entryFormsUptoRow : OpenClaim := { program := "ytoiaffobmccnjaa", sum := "013db47b0f76e4c1925a8a08f91a98a89fd3cb0ecb1b54f7ffc8c80a88ad1668", func := "caisson/caissonlaw4.EntryForms", spec := "entryForms", apart := false, narrowed := true }
def EntryFormsUptoSaid : Prop := entryFormsUptoRow.holds Try.pinned (OpenSpec.upto entryFormsSpec)

/-- 'caissonlaw4.EntryAll', WHERE WHAT IT READS IS OF BULK AT MOST 1048576: true; the input reads as it did. -/
def entryAllUptoRow : OpenClaim := { program := "ytoiaffobmccnjaa", sum := "013db47b0f76e4c1925a8a08f91a98a89fd3cb0ecb1b54f7ffc8c80a88ad1668", func := "caisson/caissonlaw4.EntryAll", spec := "entryAll", apart := false, narrowed := true }
def EntryAllUptoSaid : Prop := entryAllUptoRow.holds Try.pinned (OpenSpec.upto entryAllSpec)

/-- 'caissonlaw4.EntryRights', WHERE WHAT IT READS IS OF BULK AT MOST 1048576: true; the input reads as it did. -/
def entryRightsUptoRow : OpenClaim := { program := "ytoiaffobmccnjaa", sum := "013db47b0f76e4c1925a8a08f91a98a89fd3cb0ecb1b54f7ffc8c80a88ad1668", func := "caisson/caissonlaw4.EntryRights", spec := "entryRights", apart := false, narrowed := true }
def EntryRightsUptoSaid : Prop := entryRightsUptoRow.holds Try.pinned (OpenSpec.upto entryRightsSpec)

end Rows
end Go.Proofs.Ytoiaffobmccnjaa
