/- Small lemmas for walks: what a call that only makes memory leaves alone; worlds under a name; what a caller's own blocks hold. No condition. -/
import Derived.Test.YtjhaoimfgepkgaaRows
import Derived.Handy
import Derived.WalkKit
import Derived.WalkSpells
import Derived.WalkLawsBesides
import Derived.BigQuiet
import Derived.Deep.QuietTactic
import Derived.Deep.RegionHeld3
import Derived.Deep.RegionWith
import Derived.Lib.Hide
import Derived.Deep.Slices
import Derived.Deep.Fields
import Derived.ChangeSame
namespace Go.Proofs.Ytjhaoimfgepkgaa
open Go.RowKit Go.ChangeShapes Go.WideShapes Go.Deep

theorem bcell {W w1 : World} (hb : Below W.heap.size W w1) : (∀ b o, b < W.heap.size → w1.cell? ⟨b, o, none⟩ = W.cell? ⟨b, o, none⟩) ∧ (∀ b o, b < W.heap.size → w1.frozen? ⟨b, o, none⟩ = W.frozen? ⟨b, o, none⟩) :=
  ⟨fun b o h => hb.cell (p := ⟨b, o, none⟩) h, fun b o h => hb.frozen (p := ⟨b, o, none⟩) h⟩
theorem bthen {B : Nat} {a b c : World} (hb : Below b.heap.size b c) (h : Below B a b) (hB : B ≤ b.heap.size) : Below B a c := h.trans (hb.mono hB)
theorem cell_al {w : World} {o : Obj} {b j : Nat} (h : b < w.heap.size) : (w.alloc o).cell? ⟨b, j, none⟩ = w.cell? ⟨b, j, none⟩ := ((Below.refl w.heap.size w).alloc (Nat.le_refl _) o).cell (p := ⟨b, j, none⟩) h
theorem name_world {P : Program} {c : Code} {Q : Exit → Act → World → Prop} {a : Act} {w : World} (h : ∀ W, W = w → c.wp P Q a W) : c.wp P Q a w := h w rfl
theorem name_calls {P : Program} {f : Nat} {xs : Array Value} {Q : Ending → World → Prop} {w : World} (h : ∀ W, W = w → Calls P f xs W Q) : Calls P f xs w Q := h w rfl
theorem keepS {W w1 w2 : World} (h : (∀ b o, b < W.heap.size → w1.cell? ⟨b, o, none⟩ = W.cell? ⟨b, o, none⟩) ∧ Below W.heap.size W w1) (hb : Below w1.heap.size w1 w2) :
    (∀ b o, b < W.heap.size → w2.cell? ⟨b, o, none⟩ = W.cell? ⟨b, o, none⟩) ∧ Below W.heap.size W w2 :=
  ⟨fun b o hlt => (hb.cell (p := ⟨b, o, none⟩) (Nat.lt_of_lt_of_le hlt h.2.size)).trans (h.1 b o hlt), bthen hb h.2 h.2.size⟩
theorem startS (W : World) : (∀ b o, b < W.heap.size → W.cell? ⟨b, o, none⟩ = W.cell? ⟨b, o, none⟩) ∧ Below W.heap.size W W := ⟨fun _ _ _ => rfl, Below.refl _ _⟩
theorem startSd (W : World) : (∀ b o, b < W.heap.size → W.drew.cell? ⟨b, o, none⟩ = W.cell? ⟨b, o, none⟩) ∧ Below W.heap.size W W.drew := ⟨fun _ _ _ => rfl, (Below.refl _ _).drew⟩
theorem keepSd {W w1 : World} (h : (∀ b o, b < W.heap.size → w1.cell? ⟨b, o, none⟩ = W.cell? ⟨b, o, none⟩) ∧ Below W.heap.size W w1) :
    (∀ b o, b < W.heap.size → w1.drew.cell? ⟨b, o, none⟩ = W.cell? ⟨b, o, none⟩) ∧ Below W.heap.size W w1.drew := ⟨h.1, h.2.drew⟩
theorem keepA {W w1 : World} {o : Obj} (h : (∀ b o, b < W.heap.size → w1.cell? ⟨b, o, none⟩ = W.cell? ⟨b, o, none⟩) ∧ Below W.heap.size W w1) :
    (∀ b o', b < W.heap.size → (w1.alloc o).cell? ⟨b, o', none⟩ = W.cell? ⟨b, o', none⟩) ∧ Below W.heap.size W (w1.alloc o) :=
  ⟨fun b o' hlt => (cell_al (Nat.lt_of_lt_of_le hlt h.2.size)).trans (h.1 b o' hlt), h.2.alloc h.2.size _⟩
theorem keepC {W w1 w2 : World} {p : Addr} {v : Value} (hp : p.block < W.heap.size) (h : w1.cell? p = some v ∧ Below W.heap.size W w1) (hb : Below w1.heap.size w1 w2) : w2.cell? p = some v ∧ Below W.heap.size W w2 :=
  ⟨(hb.cell (Nat.lt_of_lt_of_le hp h.2.size)).trans h.1, bthen hb h.2 h.2.size⟩
theorem keepCA {W w1 : World} {p : Addr} {v : Value} {o : Obj} (hp : p.block < W.heap.size) (h : w1.cell? p = some v ∧ Below W.heap.size W w1) : (w1.alloc o).cell? p = some v ∧ Below W.heap.size W (w1.alloc o) :=
  keepC hp h ((Below.refl _ _).alloc (Nat.le_refl _) _)
theorem startC {W : World} {p : Addr} {v : Value} (h : W.cell? p = some v) : W.drew.cell? p = some v ∧ Below W.heap.size W W.drew := ⟨h, (Below.refl _ _).drew⟩
/-- w' still holds what W held; a name that the walk's simp does not open. -/
structure SW (W w' : World) : Prop where
  cells : ∀ b o, b < W.heap.size → w'.cell? ⟨b, o, none⟩ = W.cell? ⟨b, o, none⟩
  below : Below W.heap.size W w'
theorem SW.frz {W w' : World} (h : SW W w') : ∀ b o, b < W.heap.size → w'.frozen? ⟨b, o, none⟩ = W.frozen? ⟨b, o, none⟩ := (bcell h.below).2
theorem SW.start (W : World) : SW W W := ⟨fun _ _ _ => rfl, Below.refl _ _⟩
theorem SW.both {W w1 : World} (h : SW W w1) : (∀ b o, b < W.heap.size → w1.cell? ⟨b, o, none⟩ = W.cell? ⟨b, o, none⟩) ∧ Below W.heap.size W w1 := ⟨h.1, h.2⟩
theorem SW.of {W w1 : World} (h : (∀ b o, b < W.heap.size → w1.cell? ⟨b, o, none⟩ = W.cell? ⟨b, o, none⟩) ∧ Below W.heap.size W w1) : SW W w1 := ⟨h.1, h.2⟩
theorem SW.keep {W w1 w2 : World} (h : SW W w1) (hb : Below w1.heap.size w1 w2) : SW W w2 := .of (keepS h.both hb)

/-- A slice of integers that came in: nil, or a row of cells. -/
def IsRow (k : IntKind) (w : World) (a : Option Addr) (len cap : Nat) (zs : List Int) : Prop :=
  (a = none ∧ len = 0 ∧ cap = 0 ∧ zs = []) ∨
  ∃ x, a = some x ∧ len ≤ cap ∧ cap ≤ maxLen ∧ zs.length = cap ∧ (∀ i, i < zs.length → w.cell? (x.add i) = some (.int k (zs.getD i 0))) ∧ ∀ n ∈ zs, (Lit.int k n).wf = true

/-- A slice of structs of n ints each that came in: nil, or a table of cells. -/
def IsTab (n : Nat) (w : World) (a : Option Addr) (len cap : Nat) (zs : Nat → Nat → Int) : Prop :=
  (a = none ∧ len = 0 ∧ cap = 0) ∨
  ∃ x, a = some x ∧ len ≤ cap ∧ cap ≤ maxLen ∧ ∀ i j, i < len → j < n → w.cell? (x.add (i * n + j)) = some (.int .i64 (zs i j)) ∧ (Lit.int .i64 (zs i j)).wf = true

section
variable {H : Type} {enc : TypeId × Value → H} {P : Program} {w : World} {base : Nat} {spare : Nat → Bool} {held : Bool}
theorem open_slice_fields {t e : TypeId} {fs : Array Field} {fuel : Nat} {cs : List Value} {x : DataW H × List MemPlace} (ht : P.underlying t = some (.slice e)) (he : P.underlying e = some (.struct fs))
    (hone : oneCellFields P fs = true) (hC : P.cellsOf e = fs.size) (h : DataW.trod enc P w base spare held fuel t cs = some x) :
    (cs = [.slice none 0 0] ∧ x = (.nil, [])) ∨
    ∃ (a : Addr) (len cap m : Nat) (D : Nat → DataW H) (Pl : Nat → List MemPlace), cs = [.slice (some a) len cap] ∧ base ≤ a.block ∧ len ≤ cap ∧ cap ≤ maxLen ∧ m = (if spare a.block then cap else len) ∧
      x = (.slice ((List.range len).map D) ((List.range (m - len)).map fun j => D (len + j)), MemPlace.row a (m * fs.size) ++ (List.range m).flatMap Pl) ∧
      ∀ i, i < m → ∃ (ys : List (DataW H × List MemPlace)) (n : Nat), D i = .agg (ys.map (·.1)) ∧ Pl i = ys.flatMap (·.2) ∧ ys.length = fs.size ∧
        ∀ (j : Nat) (f : Field), fs[j]? = some f → ∃ (v : Value) (y : DataW H × List MemPlace), w.cell? (a.add (i * fs.size + j)) = some v ∧ ys[j]? = some y ∧ DataW.trod enc P w base spare held n f.type [v] = some y := by
  rcases open_slice ht h with h0 | ⟨a, len, cap, m, n, D, Pl, hcs, hb, hl, hm, hmm, hx, hi⟩
  · exact .inl h0
  · refine .inr ⟨a, len, cap, m, D, Pl, hcs, hb, hl, hm, hmm, by rw [hC] at hx; exact hx, fun i him => ?_⟩
    obtain ⟨cs', hc, ht'⟩ := hi i him
    rw [hC] at hc
    obtain ⟨ys, n', hn', hy, hlen, hyl, hf⟩ := DataW.trod_struct he ht'
    obtain ⟨_, hcl, hat⟩ := World.cells?_some hc
    simp only [Prod.mk.injEq] at hy
    refine ⟨ys, n', hy.1, hy.2, hyl, fun j f hj => ?_⟩
    obtain ⟨ho, hk⟩ := hone_of hone j f hj
    have hjl : j < fs.size := (Array.getElem?_eq_some_iff.1 hj).1
    have hcell := hat j hjl
    have hv : cs'[j]? = some (cs'[j]'(by omega)) := List.getElem?_eq_getElem (by omega)
    have h1 := hf j f hj
    rw [ho, hk] at h1
    have hone' : (cs'.drop j).take 1 = [cs'[j]'(by omega)] := by
      rw [List.drop_eq_getElem_cons (by omega)]
      rfl
    rw [hone'] at h1
    have hys : ys[j]? = some (ys[j]'(by omega)) := List.getElem?_eq_getElem (by omega)
    refine ⟨_, _, ?_, hys, h1.trans hys⟩
    rw [← Go.Deep.add_add, hcell, hv]

/-- A slice of structs of ints that came in, opened. -/
theorem isTab_of {t e : TypeId} {fs : Array Field} {a : Option Addr} {len cap : Nat} {d : DataW H} {p : List MemPlace} (ht : P.underlying t = some (.slice e)) (he : P.underlying e = some (.struct fs))
    (hone : oneCellFields P fs = true) (hC : P.cellsOf e = fs.size) (hint : ∀ j, j < fs.size → ∃ f, fs[j]? = some f ∧ P.underlying f.type = some (.int .i64)) (h : DataW.Trod enc P w 0 (fun _ => true) held t (.slice a len cap) d p) :
    ∃ zs, IsTab fs.size w a len cap zs := by
  obtain ⟨fuel, hf⟩ := h
  rcases open_slice_fields ht he hone hC hf with ⟨hcs, _⟩ | ⟨x, l, c, m, D, Pl, hcs, _, hl, hm, hmm, _, hi⟩
  · simp [Value.cells] at hcs
    obtain ⟨rfl, rfl, rfl⟩ := hcs
    exact ⟨fun _ _ => 0, .inl ⟨rfl, rfl, rfl⟩⟩
  · simp [Value.cells] at hcs
    obtain ⟨rfl, rfl, rfl⟩ := hcs
    have hm' : m = cap := by simpa using hmm
    subst hm'
    have hz : ∀ i j, ∃ z : Int, i < len → j < fs.size → w.cell? (x.add (i * fs.size + j)) = some (.int .i64 z) ∧ (Lit.int .i64 z).wf = true := by
      intro i j
      by_cases hil : i < len
      · by_cases hjl : j < fs.size
        · obtain ⟨ys, n, _, _, _, hg⟩ := hi i (by omega)
          obtain ⟨f, hf1, hf2⟩ := hint j hjl
          obtain ⟨v, y, hcell, _, hy⟩ := hg j f hf1
          obtain ⟨z, e0, _, wz⟩ := DataW.trod_int hf2 hy
          simp at e0; subst e0
          exact ⟨z, fun _ _ => ⟨hcell, wz⟩⟩
        · exact ⟨0, fun _ h => absurd h hjl⟩
      · exact ⟨0, fun h => absurd h hil⟩
    exact ⟨fun i j => (hz i j).choose, .inr ⟨x, rfl, hl, hm, fun i j h1 h2 => (hz i j).choose_spec h1 h2⟩⟩
end
end Go.Proofs.Ytjhaoimfgepkgaa
