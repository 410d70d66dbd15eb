/-
  No cell of these rows narrows 'for every input' (looked for: loops, veiled, ifaces, maps, wideKeys, modest, calm, conditions, laid).
  DERIVED. THE GIVEN ROWS OF THIS SEAT. 5 by the template 'for every input the law returns true; each argument reads behind the call as it read before'; 0 by the template 'total and deterministic' (their statements: YthnaenfonolmaaaTotals.lean).
  GIVEN WITH THE SEED: the statements are not yours to turn. If you find one false, say at which input.
  Laid BY PROGRAM, IN A SANDBOX (cutbox-rows.mjs): the forced cells as the released guide's own fill.sh prints them over the translation ff53112855c78123… (all of the seat's roots in one cut). By AI agents, Wed Nov 11 2026. No macro, syntax, notation, axiom, sorry.
-/
import Derived.Test.YthnaenfonolmaaaChecked
import GoSem.Claim
import GoSem.ClaimJoined
import GoSem.ClaimMapViews
import Derived.JoinedTies
import Derived.KernelRfl
namespace Go.Proofs.Ythnaenfonolmaaa
/- THE CELL 'sum', in the pinned program and in every row, IS THE sha256 OF THE DUMP (.gsa) THAT YthnaenfonolmaaaProg.lean LOADS. Nothing in Lean hashes anything: it is a label: what it is worth is what the hold of that sum in a sandbox is worth. -/
noncomputable def Try.pinned : Pinned := { name := "ythnaenfonolmaaa", sum := "ff53112855c7812365d9570c5eff2256931c87f1ec600146cdecaf1470c74dfa", checked := Try.checked }
namespace Rows
def none {H : Type} : Left H := { results := [], args := [] }

/-- 'caissonlaw19.Disks': WHATEVER THE INPUT: true; the input reads as it did. -/
def disksSpec : ChangeSpec := { name := "disks", fn := fun _ => fun
  | [d1, d2, d3, d4] => { results := [.lit (.bool true)], args := [d1, d2, d3, d4] }
  | _ => none }
def disksRow : OpenClaim := { program := "ythnaenfonolmaaa", sum := "ff53112855c7812365d9570c5eff2256931c87f1ec600146cdecaf1470c74dfa", func := "caisson/caissonlaw19.Disks", spec := "disks", apart := false }
def DisksSaid : Prop := disksRow.holds Try.pinned (OpenSpec.ofChange disksSpec)

/-- ITS FALSE NEIGHBOUR: 'it returns false'. Refute it at one input. -/
def disksWrong : ChangeSpec := { name := "disks", fn := fun _ => fun
  | [d1, d2, d3, d4] => { results := [.lit (.bool false)], args := [d1, d2, d3, d4] }
  | _ => none }
def DisksWrongFalsely : Prop := disksRow.holds Try.pinned (OpenSpec.ofChange disksWrong)

/-- 'caissonlaw19.DiskWalks': WHATEVER THE INPUT: true; the input reads as it did. -/
def diskWalksSpec : ChangeSpec := { name := "diskWalks", fn := fun _ => fun
  | [d] => { results := [.lit (.bool true)], args := [d] }
  | _ => none }
def diskWalksRow : OpenClaim := { program := "ythnaenfonolmaaa", sum := "ff53112855c7812365d9570c5eff2256931c87f1ec600146cdecaf1470c74dfa", func := "caisson/caissonlaw19.DiskWalks", spec := "diskWalks", apart := false }
def DiskWalksSaid : Prop := diskWalksRow.holds Try.pinned (OpenSpec.ofChange diskWalksSpec)

/-- ITS FALSE NEIGHBOUR: 'it returns false'. Refute it at one input. -/
def diskWalksWrong : ChangeSpec := { name := "diskWalks", fn := fun _ => fun
  | [d] => { results := [.lit (.bool false)], args := [d] }
  | _ => none }
def DiskWalksWrongFalsely : Prop := diskWalksRow.holds Try.pinned (OpenSpec.ofChange diskWalksWrong)

/-- 'caissonlaw19.DiskQuota': WHATEVER THE INPUT: true; the input reads as it did. -/
def diskQuotaSpec : ChangeSpec := { name := "diskQuota", fn := fun _ => fun
  | [d1, d2] => { results := [.lit (.bool true)], args := [d1, d2] }
  | _ => none }
def diskQuotaRow : OpenClaim := { program := "ythnaenfonolmaaa", sum := "ff53112855c7812365d9570c5eff2256931c87f1ec600146cdecaf1470c74dfa", func := "caisson/caissonlaw19.DiskQuota", spec := "diskQuota", apart := false }
def DiskQuotaSaid : Prop := diskQuotaRow.holds Try.pinned (OpenSpec.ofChange diskQuotaSpec)

/-- ITS FALSE NEIGHBOUR: 'it returns false'. Refute it at one input. -/
def diskQuotaWrong : ChangeSpec := { name := "diskQuota", fn := fun _ => fun
  | [d1, d2] => { results := [.lit (.bool false)], args := [d1, d2] }
  | _ => none }
def DiskQuotaWrongFalsely : Prop := diskQuotaRow.holds Try.pinned (OpenSpec.ofChange diskQuotaWrong)

/-- 'caissonlaw19.DiskForms': WHATEVER THE INPUT: true; the input reads as it did. -/
def diskFormsSpec : ChangeSpec := { name := "diskForms", fn := fun _ => fun
  | [d1, d2] => { results := [.lit (.bool true)], args := [d1, d2] }
  | _ => none }
def diskFormsRow : OpenClaim := { program := "ythnaenfonolmaaa", sum := "ff53112855c7812365d9570c5eff2256931c87f1ec600146cdecaf1470c74dfa", func := "caisson/caissonlaw19.DiskForms", spec := "diskForms", apart := false }
def DiskFormsSaid : Prop := diskFormsRow.holds Try.pinned (OpenSpec.ofChange diskFormsSpec)

/-- ITS FALSE NEIGHBOUR: 'it returns false'. Refute it at one input. -/
def diskFormsWrong : ChangeSpec := { name := "diskForms", fn := fun _ => fun
  | [d1, d2] => { results := [.lit (.bool false)], args := [d1, d2] }
  | _ => none }
def DiskFormsWrongFalsely : Prop := diskFormsRow.holds Try.pinned (OpenSpec.ofChange diskFormsWrong)

/-- 'caissonlaw19.DiskShares': WHATEVER THE INPUT: true; the input reads as it did. -/
def diskSharesSpec : ChangeSpec := { name := "diskShares", fn := fun _ => fun
  | [d1, d2, d3, d4] => { results := [.lit (.bool true)], args := [d1, d2, d3, d4] }
  | _ => none }
def diskSharesRow : OpenClaim := { program := "ythnaenfonolmaaa", sum := "ff53112855c7812365d9570c5eff2256931c87f1ec600146cdecaf1470c74dfa", func := "caisson/caissonlaw19.DiskShares", spec := "diskShares", apart := false }
def DiskSharesSaid : Prop := diskSharesRow.holds Try.pinned (OpenSpec.ofChange diskSharesSpec)

/-- ITS FALSE NEIGHBOUR: 'it returns false'. Refute it at one input. -/
def diskSharesWrong : ChangeSpec := { name := "diskShares", fn := fun _ => fun
  | [d1, d2, d3, d4] => { results := [.lit (.bool false)], args := [d1, d2, d3, d4] }
  | _ => none }
def DiskSharesWrongFalsely : Prop := diskSharesRow.holds Try.pinned (OpenSpec.ofChange diskSharesWrong)

/- THE SECOND FORM. 'bulk': how many values and letters a reading holds, each counted each time it is reached (what is shared counts as often as it is met; a slice's spare places count too). A statement '..UptoSaid' is the law's where the arguments, and the package variables that the reading takes, are together of bulk at most 1048576: NARROWER than '..Said'. Prove '..Said' where nothing that the law and all that it calls make is longer than what came in: it says more and counts as full. Else prove '..UptoSaid'. A law counts once. -/
mutual
def uptoBulk {H : Type} : DataW H → Nat
  | .lit (.string bytes) => bytes.length + 1
  | .lit _ => 1
  | .nil => 1
  | .ptr d => uptoBulk d + 1
  | .slice elems spare => uptoBulkAll elems + uptoBulkAll spare + 1
  | .agg parts => uptoBulkAll parts + 1
  | .iface _ d => uptoBulk d + 1
  | .map entries => uptoBulkEntries entries + 1
  | .held _ => 1
def uptoBulkAll {H : Type} : List (DataW H) → Nat
  | [] => 0
  | d :: r => uptoBulk d + uptoBulkAll r
def uptoBulkEntries {H : Type} : List (Lit × DataW H) → Nat
  | [] => 0
  | x :: r => uptoBulkEntry x + uptoBulkEntries r
def uptoBulkEntry {H : Type} : Lit × DataW H → Nat
  | (.string bytes, d) => bytes.length + uptoBulk d + 1
  | (_, d) => uptoBulk d + 1
 end
def uptoSmall : (H : Type) → List (DataW H) → Bool := fun _ ds => decide (uptoBulkAll ds ≤ 1048576)
def OpenSpec.upto (s : _root_.Go.ChangeSpec) : _root_.Go.OpenSpec := { _root_.Go.OpenSpec.ofChange s with cond := some uptoSmall }

/-- 'caissonlaw19.Disks', WHERE WHAT IT READS IS OF BULK AT MOST 1048576: true; the input reads as it did. -/
def disksUptoRow : OpenClaim := { program := "ythnaenfonolmaaa", sum := "ff53112855c7812365d9570c5eff2256931c87f1ec600146cdecaf1470c74dfa", func := "caisson/caissonlaw19.Disks", spec := "disks", apart := false, narrowed := true }
def DisksUptoSaid : Prop := disksUptoRow.holds Try.pinned (OpenSpec.upto disksSpec)

/-- 'caissonlaw19.DiskWalks', WHERE WHAT IT READS IS OF BULK AT MOST 1048576: true; the input reads as it did. -/
def diskWalksUptoRow : OpenClaim := { program := "ythnaenfonolmaaa", sum := "ff53112855c7812365d9570c5eff2256931c87f1ec600146cdecaf1470c74dfa", func := "caisson/caissonlaw19.DiskWalks", spec := "diskWalks", apart := false, narrowed := true }
def DiskWalksUptoSaid : Prop := diskWalksUptoRow.holds Try.pinned (OpenSpec.upto diskWalksSpec)

/-- 'caissonlaw19.DiskQuota', WHERE WHAT IT READS IS OF BULK AT MOST 1048576: true; the input reads as it did. -/
def diskQuotaUptoRow : OpenClaim := { program := "ythnaenfonolmaaa", sum := "ff53112855c7812365d9570c5eff2256931c87f1ec600146cdecaf1470c74dfa", func := "caisson/caissonlaw19.DiskQuota", spec := "diskQuota", apart := false, narrowed := true }
def DiskQuotaUptoSaid : Prop := diskQuotaUptoRow.holds Try.pinned (OpenSpec.upto diskQuotaSpec)

/-- 'caissonlaw19.DiskForms', WHERE WHAT IT READS IS OF BULK AT MOST 1048576: true; the input reads as it did. -/
def diskFormsUptoRow : OpenClaim := { program := "ythnaenfonolmaaa", sum := "ff53112855c7812365d9570c5eff2256931c87f1ec600146cdecaf1470c74dfa", func := "caisson/caissonlaw19.DiskForms", spec := "diskForms", apart := false, narrowed := true }
def DiskFormsUptoSaid : Prop := diskFormsUptoRow.holds Try.pinned (OpenSpec.upto diskFormsSpec)

/-- 'caissonlaw19.DiskShares', WHERE WHAT IT READS IS OF BULK AT MOST 1048576: true; the input reads as it did. -/
def diskSharesUptoRow : OpenClaim := { program := "ythnaenfonolmaaa", sum := "ff53112855c7812365d9570c5eff2256931c87f1ec600146cdecaf1470c74dfa", func := "caisson/caissonlaw19.DiskShares", spec := "diskShares", apart := false, narrowed := true }
def DiskSharesUptoSaid : Prop := diskSharesUptoRow.holds Try.pinned (OpenSpec.upto diskSharesSpec)

end Rows
end Go.Proofs.Ythnaenfonolmaaa
