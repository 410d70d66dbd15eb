/-
  No cell of these rows narrows 'for every input' (looked for: loops, veiled, ifaces, maps, wideKeys, modest, calm, conditions, laid).
  DERIVED. THE GIVEN ROWS OF THIS SEAT. 5 by the template 'for every input the law returns true; each argument reads behind the call as it read before'; 0 by the template 'total and deterministic' (their statements: YtmjcfphcnnmgjaaTotals.lean).
  GIVEN WITH THE SEED: the statements are not yours to turn. If you find one false, say at which input.
  Laid BY PROGRAM, IN A SANDBOX (cutbox-rows.mjs): the forced cells as the released guide's own fill.sh prints them over the translation ba4914d035703132… (all of the seat's roots in one cut). By AI agents, Wed Nov 11 2026. No macro, syntax, notation, axiom, sorry.
-/
import Derived.Test.YtmjcfphcnnmgjaaChecked
import GoSem.Claim
import GoSem.ClaimJoined
import GoSem.ClaimMapViews
import Derived.JoinedTies
import Derived.KernelRfl
namespace Go.Proofs.Ytmjcfphcnnmgjaa
/- THE CELL 'sum', in the pinned program and in every row, IS THE sha256 OF THE DUMP (.gsa) THAT YtmjcfphcnnmgjaaProg.lean LOADS. Nothing in Lean hashes anything: it is a label: what it is worth is what the hold of that sum in a sandbox is worth. -/
noncomputable def Try.pinned : Pinned := { name := "ytmjcfphcnnmgjaa", sum := "ba4914d035703132861ff65eedfaa4b7fba99a1c6fdcd21d49fcf9f3ee09d035", checked := Try.checked }
namespace Rows
def none {H : Type} : Left H := { results := [], args := [] }

/-- 'caissonlaw17.Rings': WHATEVER THE INPUT: true; the input reads as it did. -/
def ringsSpec : ChangeSpec := { name := "rings", fn := fun _ => fun
  | [d1, d2, d3, d4, d5] => { results := [.lit (.bool true)], args := [d1, d2, d3, d4, d5] }
  | _ => none }
def ringsRow : OpenClaim := { program := "ytmjcfphcnnmgjaa", sum := "ba4914d035703132861ff65eedfaa4b7fba99a1c6fdcd21d49fcf9f3ee09d035", func := "caisson/caissonlaw17.Rings", spec := "rings", unfollowed := true, recurses := true, apart := false }
def RingsSaid : Prop := ringsRow.holds Try.pinned (OpenSpec.ofChange ringsSpec)

/-- ITS FALSE NEIGHBOUR: 'it returns false'. Refute it at one input. -/
def ringsWrong : ChangeSpec := { name := "rings", fn := fun _ => fun
  | [d1, d2, d3, d4, d5] => { results := [.lit (.bool false)], args := [d1, d2, d3, d4, d5] }
  | _ => none }
def RingsWrongFalsely : Prop := ringsRow.holds Try.pinned (OpenSpec.ofChange ringsWrong)

/-- 'caissonlaw17.RingChains': WHATEVER THE INPUT: true; the input reads as it did. -/
def ringChainsSpec : ChangeSpec := { name := "ringChains", fn := fun _ => fun
  | [d1, d2] => { results := [.lit (.bool true)], args := [d1, d2] }
  | _ => none }
def ringChainsRow : OpenClaim := { program := "ytmjcfphcnnmgjaa", sum := "ba4914d035703132861ff65eedfaa4b7fba99a1c6fdcd21d49fcf9f3ee09d035", func := "caisson/caissonlaw17.RingChains", spec := "ringChains", unfollowed := true, recurses := true, apart := false }
def RingChainsSaid : Prop := ringChainsRow.holds Try.pinned (OpenSpec.ofChange ringChainsSpec)

/-- ITS FALSE NEIGHBOUR: 'it returns false'. Refute it at one input. -/
def ringChainsWrong : ChangeSpec := { name := "ringChains", fn := fun _ => fun
  | [d1, d2] => { results := [.lit (.bool false)], args := [d1, d2] }
  | _ => none }
def RingChainsWrongFalsely : Prop := ringChainsRow.holds Try.pinned (OpenSpec.ofChange ringChainsWrong)

/-- 'caissonlaw17.RingLines': WHATEVER THE INPUT: true; the input reads as it did. -/
def ringLinesSpec : ChangeSpec := { name := "ringLines", fn := fun _ => fun
  | [d1, d2] => { results := [.lit (.bool true)], args := [d1, d2] }
  | _ => none }
def ringLinesRow : OpenClaim := { program := "ytmjcfphcnnmgjaa", sum := "ba4914d035703132861ff65eedfaa4b7fba99a1c6fdcd21d49fcf9f3ee09d035", func := "caisson/caissonlaw17.RingLines", spec := "ringLines", unfollowed := true, recurses := true, apart := false }
def RingLinesSaid : Prop := ringLinesRow.holds Try.pinned (OpenSpec.ofChange ringLinesSpec)

/-- ITS FALSE NEIGHBOUR: 'it returns false'. Refute it at one input. -/
def ringLinesWrong : ChangeSpec := { name := "ringLines", fn := fun _ => fun
  | [d1, d2] => { results := [.lit (.bool false)], args := [d1, d2] }
  | _ => none }
def RingLinesWrongFalsely : Prop := ringLinesRow.holds Try.pinned (OpenSpec.ofChange ringLinesWrong)

/-- 'caissonlaw17.RingForms': WHATEVER THE INPUT: true; the input reads as it did. -/
def ringFormsSpec : ChangeSpec := { name := "ringForms", fn := fun _ => fun
  | [d1, d2] => { results := [.lit (.bool true)], args := [d1, d2] }
  | _ => none }
def ringFormsRow : OpenClaim := { program := "ytmjcfphcnnmgjaa", sum := "ba4914d035703132861ff65eedfaa4b7fba99a1c6fdcd21d49fcf9f3ee09d035", func := "caisson/caissonlaw17.RingForms", spec := "ringForms", unfollowed := true, recurses := true, apart := false }
def RingFormsSaid : Prop := ringFormsRow.holds Try.pinned (OpenSpec.ofChange ringFormsSpec)

/-- ITS FALSE NEIGHBOUR: 'it returns false'. Refute it at one input. -/
def ringFormsWrong : ChangeSpec := { name := "ringForms", fn := fun _ => fun
  | [d1, d2] => { results := [.lit (.bool false)], args := [d1, d2] }
  | _ => none }
def RingFormsWrongFalsely : Prop := ringFormsRow.holds Try.pinned (OpenSpec.ofChange ringFormsWrong)

/-- 'caissonlaw17.RingBuffers': WHATEVER THE INPUT: true; the input reads as it did. -/
def ringBuffersSpec : ChangeSpec := { name := "ringBuffers", fn := fun _ => fun
  | [d1, d2, d3, d4, d5] => { results := [.lit (.bool true)], args := [d1, d2, d3, d4, d5] }
  | _ => none }
def ringBuffersRow : OpenClaim := { program := "ytmjcfphcnnmgjaa", sum := "ba4914d035703132861ff65eedfaa4b7fba99a1c6fdcd21d49fcf9f3ee09d035", func := "caisson/caissonlaw17.RingBuffers", spec := "ringBuffers", unfollowed := true, recurses := true, apart := false }
def RingBuffersSaid : Prop := ringBuffersRow.holds Try.pinned (OpenSpec.ofChange ringBuffersSpec)

/-- ITS FALSE NEIGHBOUR: 'it returns false'. Refute it at one input. -/
def ringBuffersWrong : ChangeSpec := { name := "ringBuffers", fn := fun _ => fun
  | [d1, d2, d3, d4, d5] => { results := [.lit (.bool false)], args := [d1, d2, d3, d4, d5] }
  | _ => none }
def RingBuffersWrongFalsely : Prop := ringBuffersRow.holds Try.pinned (OpenSpec.ofChange ringBuffersWrong)

/- THE SECOND FORM. 'bulk': how many values and letters a reading holds, each counted each time it is reached (what is shared counts as often as it is met; a slice's spare places count too). A statement '..UptoSaid' is the law's where the arguments, and the package variables that the reading takes, are together of bulk at most 1048576: NARROWER than '..Said'. Prove '..Said' where nothing that the law and all that it calls make is longer than what came in: it says more and counts as full. Else prove '..UptoSaid'. A law counts once. -/
mutual
def uptoBulk {H : Type} : DataW H → Nat
  | .lit (.string bytes) => bytes.length + 1
  | .lit _ => 1
  | .nil => 1
  | .ptr d => uptoBulk d + 1
  | .slice elems spare => uptoBulkAll elems + uptoBulkAll spare + 1
  | .agg parts => uptoBulkAll parts + 1
  | .iface _ d => uptoBulk d + 1
  | .map entries => uptoBulkEntries entries + 1
  | .held _ => 1
def uptoBulkAll {H : Type} : List (DataW H) → Nat
  | [] => 0
  | d :: r => uptoBulk d + uptoBulkAll r
def uptoBulkEntries {H : Type} : List (Lit × DataW H) → Nat
  | [] => 0
  | x :: r => uptoBulkEntry x + uptoBulkEntries r
def uptoBulkEntry {H : Type} : Lit × DataW H → Nat
  | (.string bytes, d) => bytes.length + uptoBulk d + 1
  | (_, d) => uptoBulk d + 1
 end
def uptoSmall : (H : Type) → List (DataW H) → Bool := fun _ ds => decide (uptoBulkAll ds ≤ 1048576)
def OpenSpec.upto (s : _root_.Go.ChangeSpec) : _root_.Go.OpenSpec := { _root_.Go.OpenSpec.ofChange s with cond := some uptoSmall }

/-- 'caissonlaw17.Rings', WHERE WHAT IT READS IS OF BULK AT MOST 1048576: true; the input reads as it did. -/
def ringsUptoRow : OpenClaim := { program := "ytmjcfphcnnmgjaa", sum := "ba4914d035703132861ff65eedfaa4b7fba99a1c6fdcd21d49fcf9f3ee09d035", func := "caisson/caissonlaw17.Rings", spec := "rings", unfollowed := true, recurses := true, apart := false, narrowed := true }
def RingsUptoSaid : Prop := ringsUptoRow.holds Try.pinned (OpenSpec.upto ringsSpec)

/-- 'caissonlaw17.RingChains', WHERE WHAT IT READS IS OF BULK AT MOST 1048576: true; the input reads as it did. -/
def ringChainsUptoRow : OpenClaim := { program := "ytmjcfphcnnmgjaa", sum := "ba4914d035703132861ff65eedfaa4b7fba99a1c6fdcd21d49fcf9f3ee09d035", func := "caisson/caissonlaw17.RingChains", spec := "ringChains", unfollowed := true, recurses := true, apart := false, narrowed := true }
def RingChainsUptoSaid : Prop := ringChainsUptoRow.holds Try.pinned (OpenSpec.upto ringChainsSpec)

/-- 'caissonlaw17.RingLines', WHERE WHAT IT READS IS OF BULK AT MOST 1048576: true; the input reads as it did. -/
def ringLinesUptoRow : OpenClaim := { program := "ytmjcfphcnnmgjaa", sum := "ba4914d035703132861ff65eedfaa4b7fba99a1c6fdcd21d49fcf9f3ee09d035", func := "caisson/caissonlaw17.RingLines", spec := "ringLines", unfollowed := true, recurses := true, apart := false, narrowed := true }
def RingLinesUptoSaid : Prop := ringLinesUptoRow.holds Try.pinned (OpenSpec.upto ringLinesSpec)

/-- 'caissonlaw17.RingForms', WHERE WHAT IT READS IS OF BULK AT MOST 1048576: true; the input reads as it did. -/
def ringFormsUptoRow : OpenClaim := { program := "ytmjcfphcnnmgjaa", sum := "ba4914d035703132861ff65eedfaa4b7fba99a1c6fdcd21d49fcf9f3ee09d035", func := "caisson/caissonlaw17.RingForms", spec := "ringForms", unfollowed := true, recurses := true, apart := false, narrowed := true }
def RingFormsUptoSaid : Prop := ringFormsUptoRow.holds Try.pinned (OpenSpec.upto ringFormsSpec)

/-- 'caissonlaw17.RingBuffers', WHERE WHAT IT READS IS OF BULK AT MOST 1048576: true; the input reads as it did. -/
def ringBuffersUptoRow : OpenClaim := { program := "ytmjcfphcnnmgjaa", sum := "ba4914d035703132861ff65eedfaa4b7fba99a1c6fdcd21d49fcf9f3ee09d035", func := "caisson/caissonlaw17.RingBuffers", spec := "ringBuffers", unfollowed := true, recurses := true, apart := false, narrowed := true }
def RingBuffersUptoSaid : Prop := ringBuffersUptoRow.holds Try.pinned (OpenSpec.upto ringBuffersSpec)

end Rows
end Go.Proofs.Ytmjcfphcnnmgjaa
