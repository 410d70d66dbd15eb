/-
  No cell of these rows narrows 'for every input' (looked for: loops, veiled, ifaces, maps, wideKeys, modest, calm, conditions, laid).
  DERIVED. THE GIVEN ROWS OF THIS SEAT. 4 by the template 'for every input the law returns true; each argument reads behind the call as it read before'; 0 by the template 'total and deterministic' (their statements: YthjopinmplcpfaaTotals.lean).
  GIVEN WITH THE SEED: the statements are not yours to turn. If you find one false, say at which input.
  Laid BY PROGRAM, IN A SANDBOX (cutbox-rows.mjs): the forced cells as the released guide's own fill.sh prints them over the translation f9959dd440cdddee… (all of the seat's roots in one cut). By AI agents, Wed Nov 11 2026. No macro, syntax, notation, axiom, sorry.
-/
import Derived.Test.YthjopinmplcpfaaChecked
import GoSem.Claim
import GoSem.ClaimJoined
import GoSem.ClaimMapViews
import Derived.JoinedTies
import Derived.KernelRfl
namespace Go.Proofs.Ythjopinmplcpfaa
/- THE CELL 'sum', in the pinned program and in every row, IS THE sha256 OF THE DUMP (.gsa) THAT YthjopinmplcpfaaProg.lean LOADS. Nothing in Lean hashes anything: it is a label: what it is worth is what the hold of that sum in a sandbox is worth. -/
noncomputable def Try.pinned : Pinned := { name := "ythjopinmplcpfaa", sum := "f9959dd440cdddeebf28e8b558d594db9f0aa850fa6aabd6169129ab4ce401f6", checked := Try.checked }
namespace Rows
def none {H : Type} : Left H := { results := [], args := [] }

/-- 'caissonlaw6.Tlbs': WHATEVER THE INPUT: true; the input reads as it did. -/
def tlbsSpec : ChangeSpec := { name := "tlbs", fn := fun _ => fun
  | [d1, d2] => { results := [.lit (.bool true)], args := [d1, d2] }
  | _ => none }
def tlbsRow : OpenClaim := { program := "ythjopinmplcpfaa", sum := "f9959dd440cdddeebf28e8b558d594db9f0aa850fa6aabd6169129ab4ce401f6", func := "caisson/caissonlaw6.Tlbs", spec := "tlbs", unfollowed := true, recurses := true, apart := false }
def TlbsSaid : Prop := tlbsRow.holds Try.pinned (OpenSpec.ofChange tlbsSpec)

/-- ITS FALSE NEIGHBOUR: 'it returns false'. Refute it at one input. -/
def tlbsWrong : ChangeSpec := { name := "tlbs", fn := fun _ => fun
  | [d1, d2] => { results := [.lit (.bool false)], args := [d1, d2] }
  | _ => none }
def TlbsWrongFalsely : Prop := tlbsRow.holds Try.pinned (OpenSpec.ofChange tlbsWrong)

/-- 'caissonlaw6.TlbOldest': WHATEVER THE INPUT: true; the input reads as it did. -/
def tlbOldestSpec : ChangeSpec := { name := "tlbOldest", fn := fun _ => fun
  | [d1, d2] => { results := [.lit (.bool true)], args := [d1, d2] }
  | _ => none }
def tlbOldestRow : OpenClaim := { program := "ythjopinmplcpfaa", sum := "f9959dd440cdddeebf28e8b558d594db9f0aa850fa6aabd6169129ab4ce401f6", func := "caisson/caissonlaw6.TlbOldest", spec := "tlbOldest", unfollowed := true, recurses := true, apart := false }
def TlbOldestSaid : Prop := tlbOldestRow.holds Try.pinned (OpenSpec.ofChange tlbOldestSpec)

/-- ITS FALSE NEIGHBOUR: 'it returns false'. Refute it at one input. -/
def tlbOldestWrong : ChangeSpec := { name := "tlbOldest", fn := fun _ => fun
  | [d1, d2] => { results := [.lit (.bool false)], args := [d1, d2] }
  | _ => none }
def TlbOldestWrongFalsely : Prop := tlbOldestRow.holds Try.pinned (OpenSpec.ofChange tlbOldestWrong)

/-- 'caissonlaw6.TlbForms': WHATEVER THE INPUT: true; the input reads as it did. -/
def tlbFormsSpec : ChangeSpec := { name := "tlbForms", fn := fun _ => fun
  | [d1, d2] => { results := [.lit (.bool true)], args := [d1, d2] }
  | _ => none }
def tlbFormsRow : OpenClaim := { program := "ythjopinmplcpfaa", sum := "f9959dd440cdddeebf28e8b558d594db9f0aa850fa6aabd6169129ab4ce401f6", func := "caisson/caissonlaw6.TlbForms", spec := "tlbForms", unfollowed := true, recurses := true, apart := false }
def TlbFormsSaid : Prop := tlbFormsRow.holds Try.pinned (OpenSpec.ofChange tlbFormsSpec)

/-- ITS FALSE NEIGHBOUR: 'it returns false'. Refute it at one input. -/
def tlbFormsWrong : ChangeSpec := { name := "tlbForms", fn := fun _ => fun
  | [d1, d2] => { results := [.lit (.bool false)], args := [d1, d2] }
  | _ => none }
def TlbFormsWrongFalsely : Prop := tlbFormsRow.holds Try.pinned (OpenSpec.ofChange tlbFormsWrong)

/-- 'caissonlaw6.TlbDrops': WHATEVER THE INPUT: true; the input reads as it did. -/
def tlbDropsSpec : ChangeSpec := { name := "tlbDrops", fn := fun _ => fun
  | [d1, d2] => { results := [.lit (.bool true)], args := [d1, d2] }
  | _ => none }
def tlbDropsRow : OpenClaim := { program := "ythjopinmplcpfaa", sum := "f9959dd440cdddeebf28e8b558d594db9f0aa850fa6aabd6169129ab4ce401f6", func := "caisson/caissonlaw6.TlbDrops", spec := "tlbDrops", unfollowed := true, recurses := true, apart := false }
def TlbDropsSaid : Prop := tlbDropsRow.holds Try.pinned (OpenSpec.ofChange tlbDropsSpec)

/-- ITS FALSE NEIGHBOUR: 'it returns false'. Refute it at one input. -/
def tlbDropsWrong : ChangeSpec := { name := "tlbDrops", fn := fun _ => fun
  | [d1, d2] => { results := [.lit (.bool false)], args := [d1, d2] }
  | _ => none }
def TlbDropsWrongFalsely : Prop := tlbDropsRow.holds Try.pinned (OpenSpec.ofChange tlbDropsWrong)

/- THE SECOND FORM. 'bulk': how many values and letters a reading holds, each counted each time it is reached (what is shared counts as often as it is met; a slice's spare places count too). A statement '..UptoSaid' is the law's where the arguments, and the package variables that the reading takes, are together of bulk at most 1048576: NARROWER than '..Said'. Prove '..Said' where nothing that the law and all that it calls make is longer than what came in: it says more and counts as full. Else prove '..UptoSaid'. A law counts once. -/
mutual
def uptoBulk {H : Type} : DataW H → Nat
  | .lit (.string bytes) => bytes.length + 1
  | .lit _ => 1
  | .nil => 1
  | .ptr d => uptoBulk d + 1
  | .slice elems spare => uptoBulkAll elems + uptoBulkAll spare + 1
  | .agg parts => uptoBulkAll parts + 1
  | .iface _ d => uptoBulk d + 1
  | .map entries => uptoBulkEntries entries + 1
  | .held _ => 1
def uptoBulkAll {H : Type} : List (DataW H) → Nat
  | [] => 0
  | d :: r => uptoBulk d + uptoBulkAll r
def uptoBulkEntries {H : Type} : List (Lit × DataW H) → Nat
  | [] => 0
  | x :: r => uptoBulkEntry x + uptoBulkEntries r
def uptoBulkEntry {H : Type} : Lit × DataW H → Nat
  | (.string bytes, d) => bytes.length + uptoBulk d + 1
  | (_, d) => uptoBulk d + 1
 end
def uptoSmall : (H : Type) → List (DataW H) → Bool := fun _ ds => decide (uptoBulkAll ds ≤ 1048576)
def OpenSpec.upto (s : _root_.Go.ChangeSpec) : _root_.Go.OpenSpec := { _root_.Go.OpenSpec.ofChange s with cond := some uptoSmall }

/-- 'caissonlaw6.Tlbs', WHERE WHAT IT READS IS OF BULK AT MOST 1048576: true; the input reads as it did. -/
def tlbsUptoRow : OpenClaim := { program := "ythjopinmplcpfaa", sum := "f9959dd440cdddeebf28e8b558d594db9f0aa850fa6aabd6169129ab4ce401f6", func := "caisson/caissonlaw6.Tlbs", spec := "tlbs", unfollowed := true, recurses := true, apart := false, narrowed := true }
def TlbsUptoSaid : Prop := tlbsUptoRow.holds Try.pinned (OpenSpec.upto tlbsSpec)

/-- 'caissonlaw6.TlbOldest', WHERE WHAT IT READS IS OF BULK AT MOST 1048576: true; the input reads as it did. -/
def tlbOldestUptoRow : OpenClaim := { program := "ythjopinmplcpfaa", sum := "f9959dd440cdddeebf28e8b558d594db9f0aa850fa6aabd6169129ab4ce401f6", func := "caisson/caissonlaw6.TlbOldest", spec := "tlbOldest", unfollowed := true, recurses := true, apart := false, narrowed := true }
def TlbOldestUptoSaid : Prop := tlbOldestUptoRow.holds Try.pinned (OpenSpec.upto tlbOldestSpec)

/-- 'caissonlaw6.TlbForms', WHERE WHAT IT READS IS OF BULK AT MOST 1048576: true; the input reads as it did. -/
def tlbFormsUptoRow : OpenClaim := { program := "ythjopinmplcpfaa", sum := "f9959dd440cdddeebf28e8b558d594db9f0aa850fa6aabd6169129ab4ce401f6", func := "caisson/caissonlaw6.TlbForms", spec := "tlbForms", unfollowed := true, recurses := true, apart := false, narrowed := true }
def TlbFormsUptoSaid : Prop := tlbFormsUptoRow.holds Try.pinned (OpenSpec.upto tlbFormsSpec)

/-- 'caissonlaw6.TlbDrops', WHERE WHAT IT READS IS OF BULK AT MOST 1048576: true; the input reads as it did. -/
def tlbDropsUptoRow : OpenClaim := { program := "ythjopinmplcpfaa", sum := "f9959dd440cdddeebf28e8b558d594db9f0aa850fa6aabd6169129ab4ce401f6", func := "caisson/caissonlaw6.TlbDrops", spec := "tlbDrops", unfollowed := true, recurses := true, apart := false, narrowed := true }
def TlbDropsUptoSaid : Prop := tlbDropsUptoRow.holds Try.pinned (OpenSpec.upto tlbDropsSpec)

end Rows
end Go.Proofs.Ythjopinmplcpfaa
