/- Named memory and its walk, part 1: values, operations, that they are what the model does. No condition. -/
import Derived.Calls
import Derived.Orders
import Derived.Below
import Derived.KernelRfl
import Derived.Deep.AppendSrc
import Derived.Deep.Upon
import Derived.Laws.StructEq
import Derived.Laws.Rows
import Derived.Laws.BytesString
import Derived.Laws.MakeOwn
set_option linter.unusedVariables false
set_option linter.unusedSimpArgs false
/- Values and memory under names: what a Go value is when blocks have names of the prover's own, and how real memory bears it. No condition. -/
namespace Go.AE
open Go

inductive SV where
  | int (k : IntKind) (n : Int)
  | bool (b : Bool)
  | str (s : ByteArray)
  | nilp
  | ptr (b r c : Nat)
  | nils
  | sl (b r len cap : Nat) (x : Bool)
  | fn (f : Fn) (xs ys : List SV)
  | nilf
  | ifc (t : TypeId) (v : SV)
  | nili
  | agg (cs : List SV)
  | tup (cs : List SV)
  | mp (b len : Nat) (z : Nat → Int)
  | z0
  | one
  | nilm
  | junk

/-- Where a named block lies: the real block, the first cell, cells a row, the real block's size. -/
structure Pl where
  blk : Nat
  base : Nat
  w : Nat
  size : Nat
  ph : Bool := false
  fz : Nat → Option Obj := fun _ => none

abbrev Map := Nat → Option Pl
/-- u is a slice of len ints z in blocks that stay as they are -/
def Frz (f : Nat → Option Obj) (len : Nat) (z : Nat → Int) (u : Value) : Prop := ∃ a cap, u = .slice a len cap ∧ len ≤ cap ∧
  ((len = 0 ∧ cap = 0) ∨ ∃ blk base c e fr, a = some ⟨blk, base, none⟩ ∧ f blk = some (.cells c e fr) ∧ base + cap ≤ c.size ∧ ∀ i, i < len → c[base + i]? = some (.int .i64 (z i)))

mutual
inductive VR (ρ : Map) : SV → Value → Prop
  | int (k n) : VR ρ (.int k n) (.int k n)
  | bool (b) : VR ρ (.bool b) (.bool b)
  | str (s) : VR ρ (.str s) (.string s)
  | nilp : VR ρ .nilp (.pointer none)
  | ptr {b p} (r c) (h : ρ b = some p) : VR ρ (.ptr b r c) (.pointer (some ⟨p.blk, p.base + r * p.w + c, none⟩))
  | nils : VR ρ .nils (.slice none 0 0)
  | sl {b p} (r len cap x cap') (h : ρ b = some p) (hl : len ≤ cap) (hc : cap ≤ cap') (hx : x = true → cap' = cap) (hs : p.base + (r + cap') * p.w ≤ p.size) (hq : p.ph = false) :
      VR ρ (.sl b r len cap x) (.slice (some ⟨p.blk, p.base + r * p.w, none⟩) len cap')
  | z0 (a : Option Addr) : VR ρ .z0 (.slice a 0 0)
  | one (u : Value) (h : u.oneCell' = true) : VR ρ .one u
  | sl0 {b} (r x) (a : Option Addr) : VR ρ (.sl b r 0 0 x) (.slice a 0 0)
  | fn {xs ys us vs} (f) (h1 : VRs ρ xs us) (h2 : VRs ρ ys vs) : VR ρ (.fn f xs ys) (.func f us.toArray vs.toArray)
  | nilf : VR ρ .nilf .nilFunc
  | ifc {v u} (t) (h : VR ρ v u) : VR ρ (.ifc t v) (.iface t u)
  | nili : VR ρ .nili .nilIface
  | agg {cs us} (h : VRs ρ cs us) : VR ρ (.agg cs) (.agg us.toArray)
  | tup {cs us} (h : VRs ρ cs us) : VR ρ (.tup cs) (.tuple us.toArray)
  | mp {b p} (len z u) (h : ρ b = some p) (hu : Frz p.fz len z u) : VR ρ (.mp b len z) u
  | nilm : VR ρ .nilm (.map none)
  | junk (u) : VR ρ .junk u
inductive VRs (ρ : Map) : List SV → List Value → Prop
  | nil : VRs ρ [] []
  | cons {v u vs us} (h : VR ρ v u) (t : VRs ρ vs us) : VRs ρ (v :: vs) (u :: us)
end

def Le (ρ σ : Map) : Prop := ∀ n p, ρ n = some p → σ n = some p
theorem Le.refl (ρ : Map) : Le ρ ρ := fun _ _ h => h
theorem Le.trans {ρ σ τ : Map} (h : Le ρ σ) (k : Le σ τ) : Le ρ τ := fun n p e => k n p (h n p e)

mutual
theorem VR.mono {ρ σ : Map} (hρ : Le ρ σ) : ∀ {v : SV} {u : Value}, VR ρ v u → VR σ v u
  | _, _, .int k n => .int k n
  | _, _, .bool b => .bool b
  | _, _, .str s => .str s
  | _, _, .nilp => .nilp
  | _, _, .ptr r c h => .ptr r c (hρ _ _ h)
  | _, _, .nils => .nils
  | _, _, .sl r len cap x cap' h hl hc hx hs hq => .sl r len cap x cap' (hρ _ _ h) hl hc hx hs hq
  | _, _, .z0 a => .z0 a
  | _, _, .one u h => .one u h
  | _, _, .sl0 r x a => .sl0 r x a
  | _, _, .fn f h1 h2 => .fn f (VRs.mono hρ h1) (VRs.mono hρ h2)
  | _, _, .nilf => .nilf
  | _, _, .ifc t h => .ifc t (VR.mono hρ h)
  | _, _, .nili => .nili
  | _, _, .agg h => .agg (VRs.mono hρ h)
  | _, _, .tup h => .tup (VRs.mono hρ h)
  | _, _, .mp len z u h hu => .mp len z u (hρ _ _ h) hu
  | _, _, .nilm => .nilm
  | _, _, .junk u => .junk u
theorem VRs.mono {ρ σ : Map} (hρ : Le ρ σ) : ∀ {vs : List SV} {us : List Value}, VRs ρ vs us → VRs σ vs us
  | _, _, .nil => .nil
  | _, _, .cons h t => .cons (VR.mono hρ h) (VRs.mono hρ t)
end

theorem VRs.length {ρ : Map} : ∀ {vs : List SV} {us : List Value}, VRs ρ vs us → vs.length = us.length
  | _, _, .nil => rfl
  | _, _, .cons _ t => by simp [t.length]
theorem VRs.get {ρ : Map} : ∀ {vs : List SV} {us : List Value}, VRs ρ vs us → ∀ {j : Nat} {v : SV}, vs[j]? = some v → ∃ u, us[j]? = some u ∧ VR ρ v u
  | _, _, .nil, j, v, h => by simp at h
  | _, _, .cons (u := u) h t, 0, v, e => by simp at e; subst e; exact ⟨u, rfl, h⟩
  | _, _, .cons h t, j + 1, v, e => by simpa using t.get (j := j) (by simpa using e)
theorem VRs.of {ρ : Map} : ∀ {vs : List SV} {us : List Value}, vs.length = us.length → (∀ (j : Nat) (v : SV), vs[j]? = some v → ∃ u, us[j]? = some u ∧ VR ρ v u) → VRs ρ vs us
  | [], [], _, _ => .nil
  | v :: vs, u :: us, hl, h => by
    obtain ⟨u', hu, hv⟩ := h 0 v rfl
    simp at hu; subst hu
    exact .cons hv (VRs.of (by simpa using hl) fun j x hx => by simpa using h (j + 1) x (by simpa using hx))
  | [], _ :: _, hl, _ => by simp at hl
  | _ :: _, [], hl, _ => by simp at hl
theorem VRs.append {ρ : Map} : ∀ {vs : List SV} {us : List Value} {vs' us'}, VRs ρ vs us → VRs ρ vs' us' → VRs ρ (vs ++ vs') (us ++ us')
  | _, _, _, _, .nil, h => h
  | _, _, _, _, .cons h t, h' => .cons h (t.append h')
theorem VRs.drop {ρ : Map} : ∀ (n : Nat) {vs : List SV} {us : List Value}, VRs ρ vs us → VRs ρ (vs.drop n) (us.drop n)
  | 0, _, _, h => h
  | _ + 1, _, _, .nil => .nil
  | n + 1, _, _, .cons _ t => t.drop n
theorem VRs.take {ρ : Map} : ∀ (n : Nat) {vs : List SV} {us : List Value}, VRs ρ vs us → VRs ρ (vs.take n) (us.take n)
  | 0, _, _, _ => .nil
  | _ + 1, _, _, .nil => .nil
  | n + 1, _, _, .cons h t => .cons h (t.take n)

/-! ### Slots -/
def nth : List SV → Nat → SV
  | [], _ => .junk
  | v :: _, 0 => v
  | _ :: t, i + 1 => nth t i
def setK {R : Type} : List SV → Nat → SV → (List SV → R) → R
  | [], _, _, k => k []
  | _ :: t, 0, v, k => k (v :: t)
  | x :: t, i + 1, v, k => setK t i v fun t => k (x :: t)
theorem setK_eq {R : Type} : ∀ (l : List SV) (i : Nat) (v : SV) (k : List SV → R), setK l i v k = k (l.set i v)
  | [], _, _, _ => rfl
  | _ :: _, 0, _, _ => rfl
  | x :: t, i + 1, v, k => by simp only [setK, setK_eq t i v, List.set_cons_succ]
theorem nth_eq : ∀ (l : List SV) (i : Nat), nth l i = (l[i]?).getD .junk
  | [], i => by cases i <;> rfl
  | v :: _, 0 => rfl
  | _ :: t, i + 1 => by simp [nth, nth_eq t i]
theorem VRs.nth {ρ : Map} {t : List SV} {us : List Value} (h : VRs ρ t us) (i : Nat) (d : Value) : VR ρ (nth t i) ((us[i]?).getD d) := by
  rw [nth_eq]
  cases hi : t[i]? with
  | none => exact .junk _
  | some v => obtain ⟨u, hu, hv⟩ := h.get hi; simpa [hu] using hv
theorem VRs.set {ρ : Map} : ∀ {t : List SV} {us : List Value}, VRs ρ t us → ∀ (i : Nat) {v : SV} {u : Value}, VR ρ v u → VRs ρ (t.set i v) (us.set i u)
  | _, _, .nil, _, _, _, _ => .nil
  | _, _, .cons _ t, 0, _, _, h' => .cons h' t
  | _, _, .cons h t, i + 1, _, _, h' => .cons h (t.set i h')

/-- A constant of the text. -/
def ofN : Nat → Value → SV
  | _, .int k n => .int k n
  | _, .bool b => .bool b
  | _, .string s => .str s
  | _, .pointer none => .nilp
  | _, .slice none 0 0 => .nils
  | _, .nilFunc => .nilf
  | _, .nilIface => .nili
  | _, .map none => .nilm
  | n + 1, .agg cs => .agg (cs.toList.map (ofN n))
  | n + 1, .tuple cs => .tup (cs.toList.map (ofN n))
  | n + 1, .func f a b => .fn f (a.toList.map (ofN n)) (b.toList.map (ofN n))
  | n + 1, .iface t v => .ifc t (ofN n v)
  | _, _ => .junk
theorem VRs.map {ρ : Map} {f : Value → SV} (hf : ∀ u, VR ρ (f u) u) : ∀ us : List Value, VRs ρ (us.map f) us
  | [] => .nil
  | u :: us => .cons (hf u) (VRs.map hf us)
theorem VR.aggA {ρ : Map} {vs : List SV} {cs : Array Value} (h : VRs ρ vs cs.toList) : VR ρ (.agg vs) (.agg cs) := by have := VR.agg h; simpa using this
theorem VR.tupA {ρ : Map} {vs : List SV} {cs : Array Value} (h : VRs ρ vs cs.toList) : VR ρ (.tup vs) (.tuple cs) := by have := VR.tup h; simpa using this
theorem VR.fnA {ρ : Map} {f : Fn} {vs ws : List SV} {cs ds : Array Value} (h : VRs ρ vs cs.toList) (h' : VRs ρ ws ds.toList) : VR ρ (.fn f vs ws) (.func f cs ds) := by have := VR.fn f h h'; simpa using this
theorem ofN_rel (ρ : Map) : ∀ (n : Nat) (u : Value), VR ρ (ofN n u) u := by
  intro n
  induction n with
  | zero =>
    intro u
    unfold ofN
    split <;> first
      | exact .int _ _ | exact .bool _ | exact .str _ | exact .nilp | exact .nils | exact .nilf | exact .nili | exact .nilm | exact .junk _
      | (rename_i h; cases h)
  | succ n ih =>
    intro u
    unfold ofN
    split <;> first
      | exact .int _ _ | exact .bool _ | exact .str _ | exact .nilp | exact .nils | exact .nilf | exact .nili | exact .nilm | exact .junk _
      | (rename_i h; cases h; first | exact .aggA (VRs.map ih _) | exact .tupA (VRs.map ih _) | exact .fnA (VRs.map ih _) (VRs.map ih _) | exact .ifc _ (ih _))
end Go.AE

/- A walk of Go's operations over named memory, in continuation style: what each operation comes to. Definitions alone. -/
namespace Go.AE
open Go

/-- What a named block holds: cells one by one, or rows that are told by a function; entries of a map. w: cells a row; ro: it is only read. -/
inductive Bk where
  | flat (w : Nat) (ro : Bool) (cs : List SV)
  | fam (w : Nat) (ro : Bool) (n : Nat) (row : Nat → List SV)
  | mapk (es : List (SV × SV))
/-- name, how often it was written, what it holds -/
abbrev Hp := List (Nat × Nat × Bk)
structure St where
  h : Hp
  nx : Nat
  ck : Nat
  st : Nat

def find : Hp → Nat → Option (Nat × Bk)
  | [], _ => none
  | (m, x) :: t, n => cond (Nat.beq m n) (some x) (find t n)
def putK {R : Type} : Hp → Nat → Nat × Bk → (Hp → R) → R
  | [], _, _, k => k []
  | (m, y) :: t, n, x, k => cond (Nat.beq m n) (k ((m, x) :: t)) (putK t n x fun t => k ((m, y) :: t))
def delK {R : Type} : Hp → Nat → (Hp → R) → R
  | [], _, k => k []
  | (m, y) :: t, n, k => cond (Nat.beq m n) (delK t n k) (delK t n fun t => k ((m, y) :: t))
def listK {R : Type} : List SV → (List SV → R) → R
  | [], k => k []
  | v :: t, k => listK t fun t => k (v :: t)

def Bk.wd : Bk → Nat
  | .flat w _ _ | .fam w _ _ _ => w
  | .mapk _ => 0
def Bk.ro : Bk → Bool
  | .flat _ r _ | .fam _ r _ _ => r
  | .mapk _ => false

def sc : SV → Bool
  | .agg _ | .tup _ | .junk => false
  | _ => true
def nj : SV → Bool
  | .junk => false
  | _ => true
def SV.cells : SV → List SV
  | .agg cs => cs
  | v => [v]
/-- one of two values, by a test that need not be decided -/
def sel (b : Bool) (x y : SV) : SV :=
  match x, y with
  | .int j m, .int k n => cond (decide (j = k)) (.int j (cond b m n)) (cond b x y)
  | .bool m, .bool n => .bool (cond b m n)
  | .str m, .str n => .str (cond b m n)
  | _, _ => cond b x y
def selL (b : Bool) : List SV → List SV → List SV
  | x :: xs, y :: ys => sel b x y :: selL b xs ys
  | x :: xs, [] => cond b (x :: xs) []
  | [], y :: ys => cond b [] (y :: ys)
  | [], [] => []
/-- cells vs over those of l from c on -/
def spliceB (b : Bool) : List SV → Nat → List SV → List SV
  | [], _, _ => []
  | l, 0, [] => l
  | x :: l, 0, v :: vs => sel b v x :: spliceB b l 0 vs
  | x :: l, c + 1, vs => x :: spliceB b l c vs
/-- one value a row, from row r on -/
def rowsW (row : Nat → List SV) : Nat → List SV → Nat → List SV
  | _, [] => row
  | r, v :: vs => rowsW (fun i => spliceB (decide (i = r)) (row i) 0 [v]) (r + 1) vs
def splice (l : List SV) (c : Nat) (vs : List SV) : List SV := l.take c ++ vs ++ l.drop (c + vs.length)

section
variable {R : Type} (F : R) (ts : Bool → R → R → R) (P : Program)

def rd (b : Bk) (r c n : Nat) (k : List SV → R) : R :=
  match b with
  | .flat d _ cs => listK ((cs.drop (r * d + c)).take n) fun l => cond (Nat.beq l.length n) (k l) F
  | .fam d _ m row => ts (decide (r < m)) (cond (Nat.ble (c + n) d) (listK (((row r).drop c).take n) fun l => cond (Nat.beq l.length n) (k l) F) F) F
  | .mapk _ => F
def wr (b : Bk) (r c : Nat) (vs : List SV) (k : Bk → R) : R :=
  match b with
  | .flat d false cs => cond (Nat.ble (r * d + c + vs.length) cs.length) (listK (splice cs (r * d + c) vs) fun l => k (.flat d false l)) F
  | .fam d false m row => cond (Nat.ble (c + vs.length) d) (ts (decide (r < m)) (k (.fam d false m fun i => spliceB (decide (i = r)) (row i) c vs)) F)
      (cond (Nat.beq d 1 && Nat.beq c 0) (ts (decide (r + vs.length ≤ m)) (k (.fam d false m (rowsW row r vs))) F) F)
  | _ => F
def forceN (n : Nat) (k : Nat → R) : R := match n with
  | 0 => k 0
  | m + 1 => k (m + 1)
def normB (b : Bk) (k : Bk → R) : R := match b with
  | .flat w ro cs => forceN w fun w => k (.flat w ro cs)
  | .fam w ro n row => forceN w fun w => k (.fam w ro n row)
  | .mapk es => k (.mapk es)
def St.newK (s : St) (b : Bk) (k : Nat → St → R) : R := normB b fun b => match s with
  | ⟨h, nx, ck, st⟩ => forceN (nx + st) fun n => k nx ⟨(nx, ck, b) :: h, n, ck, st⟩
def St.putK (s : St) (n : Nat) (b : Bk) (k : St → R) : R := normB b fun b => match s with
  | ⟨h, nx, ck, st⟩ => AE.putK h n (ck, b) fun h => k ⟨h, nx, ck, st⟩
def St.delNewK (s : St) (n : Nat) (b : Bk) (k : Nat → St → R) : R := match s with
  | ⟨h, nx, ck, st⟩ => delK h n fun h => St.newK ⟨h, nx, ck, st⟩ b k

def width : Nat → TypeId → Nat
  | 0, t => P.cellsOf t
  | f + 1, t => match P.underlying t with
    | some (.array _ e) => width f e
    | _ => P.cellsOf t
def isAggT (t : TypeId) : Bool := match P.underlying t with
  | some (.struct _) | some (.array _ _) => true
  | _ => false

def aLoad (t : TypeId) (x : SV) (s : St) (k : SV → St → R) : R :=
  match x with
  | .ptr b r c => match find s.h b with
    | some (_, bk) => match P.underlying t with
      | some _ => match P.info? t with
        | some _ => cond (isAggT P t) (rd F ts bk r c (P.cellsOf t) fun l => k (.agg l) s) (rd F ts bk r c 1 fun l => k (nth l 0) s)
        | none => F
      | none => F
    | none => F
  | _ => F
def aStore (t : TypeId) (x v : SV) (s : St) (k : SV → St → R) : R :=
  match x with
  | .ptr b r c => match find s.h b with
    | some (_, bk) => match P.info? t with
      | some i => cond (Nat.beq v.cells.length i.size && v.cells.all sc) (wr F ts bk r c v.cells fun bk => s.putK b bk fun s => k (.tup []) s) F
      | none => F
    | none => F
  | _ => F
def aAlloc (t : TypeId) (s : St) (k : SV → St → R) : R :=
  match P.info? t with
  | some i => match i.zero with
    | some z => listK (ofN 3 z).cells fun l => cond (l.all sc) (s.newK (.flat (width P 5 t) false l) fun n s => k (.ptr n 0 0) s) F
    | none => F
  | none => F
def aBox (t : TypeId) (v : SV) (s : St) (k : SV → St → R) : R :=
  listK v.cells fun l => cond (l.all sc) (s.newK (.flat (width P 5 t) false l) fun n s => k (.ptr n 0 0) s) F
def fillK (place : Nat → Option (Nat × Nat)) (cells : List SV) (k : List SV → R) : List (Nat × SV) → R
  | [] => k cells
  | (i, v) :: rest => match place i with
    | none => F
    | some (off, size) => cond (nj v && Nat.beq v.cells.length size && Nat.ble (off + size) cells.length) (listK (splice cells off v.cells) fun cs => fillK place cs k rest) F
def placeOf (fs : Array Field) (i : Nat) : Option (Nat × Nat) := match fs[i]? with
  | some f => match P.info? f.type with
    | some j => some (f.offset, j.size)
    | none => none
  | none => none
def aBuild (t : TypeId) (ps : List (Nat × SV)) (s : St) (k : SV → St → R) : R :=
  match P.info? t with
  | some i => match i.zero, P.underlying t with
    | some z, some (.struct fs) => cond ((fs.toList.all fun f => (P.info? f.type).isSome) && nj (ofN 3 z)) (listK (ofN 3 z).cells fun l => fillK F (placeOf P fs) l (fun l => k (.agg l) s) ps) F
    | some z, some (.array _ e) => match P.info? e with
      | some j => cond (nj (ofN 3 z)) (listK (ofN 3 z).cells fun l => fillK F (fun i => some (i * j.size, j.size)) l (fun l => k (.agg l) s) ps) F
      | none => F
    | _, _ => F
  | none => F
def repK (z : List SV) : Nat → (List SV → R) → R
  | 0, k => k []
  | n + 1, k => repK z n fun l => k (z ++ l)
def aBuildSlice (t : TypeId) (len : Nat) (ps : List (Nat × SV)) (s : St) (k : SV → St → R) : R :=
  match P.underlying t with
  | some (.slice e) => match P.info? e with
    | some j => match j.zero with
      | some z => cond (nj (ofN 3 z) && Nat.ble (len * j.size) 16777216 && Nat.beq (ofN 3 z).cells.length j.size && Nat.ble 1 j.size && Nat.ble (width P 5 e) j.size)
          (repK (ofN 3 z).cells len fun l => listK l fun l => fillK F (fun i => some (i * j.size, j.size)) l (fun l => cond (l.all sc) (s.newK (.flat (width P 5 e) false l) fun n s => k (.sl n 0 len len true) s) F) ps) F
      | none => F
    | none => F
  | _ => F
def aFieldAddr (t : TypeId) (x : SV) (i : Nat) (s : St) (k : SV → St → R) : R :=
  match P.underlying t, x with
  | some (.struct fs), .ptr b r c => match fs[i]? with
    | some f => match P.info? f.type with
      | some j => cond (Nat.ble 1 j.size) (forceN f.offset fun o => k (.ptr b r (c + o)) s) F
      | none => F
    | none => F
  | _, _ => F
def aField (t : TypeId) (x : SV) (i : Nat) (s : St) (k : SV → St → R) : R :=
  match P.underlying t, x with
  | some (.struct fs), .agg cs => match fs[i]? with
    | some f => match P.underlying f.type, P.info? f.type with
      | some _, some j => cond (isAggT P f.type) (listK ((cs.drop f.offset).take j.size) fun l => k (.agg l) s) (cond (Nat.blt f.offset cs.length) (k (nth cs f.offset) s) F)
      | _, _ => F
    | none => F
  | _, _ => F
/-- the place of element n (elements of e cells) behind (b, r, c) -/
def atK (s : St) (b r c e n : Nat) (k : SV → St → R) : R :=
  match find s.h b with
  | some (_, bk) => forceN bk.wd fun d => forceN (e / d) fun q => cond (Nat.beq (e % d) 0 && Nat.ble 1 d) (k (.ptr b (r + n * q) c) s) (k (.ptr b r (c + n * e)) s)
  | none => F
def aIndexAddr (t : TypeId) (x i : SV) (s : St) (k : SV → St → R) : R :=
  match P.underlying t, x, i with
  | some (.array len e), .ptr b r c, .int _ n => match P.info? e with
    | some j => ts (decide (0 ≤ n) && decide (n < (len : Int))) (atK F s b r c j.size n.toNat k) F
    | none => F
  | some (.slice e), .sl b r len _ _, .int _ n => match P.info? e with
    | some j => ts (decide (0 ≤ n) && decide (n < (len : Int))) (atK F s b r 0 j.size n.toNat k) F
    | none => F
  | _, _, _ => F
def byteAt (s : ByteArray) (n : Nat) : Int := ((s.data.toList[n]?).getD 0).toNat
def aIndex (t : TypeId) (x i : SV) (s : St) (k : SV → St → R) : R :=
  match P.underlying t, x, i with
  | some .string, .str b, .int _ n => ts (decide (0 ≤ n) && decide (n < (b.size : Int))) (k (.int .u8 (byteAt b n.toNat)) s) F
  | some (.array len e), .agg cs, .int _ n => match P.underlying e, P.info? e with
    | some _, some j => ts (decide (0 ≤ n) && decide (n < (len : Int))) (cond (isAggT P e) (listK ((cs.drop (n.toNat * j.size)).take j.size) fun l => k (.agg l) s) (cond (Nat.blt (n.toNat * j.size) cs.length) (k (nth cs (n.toNat * j.size)) s) F)) F
    | _, _ => F
  | _, _, _ => F
def natOf (x : Option SV) (d : Nat) (k : Nat → R) : R :=
  match x with
  | none => k d
  | some (.int _ n) => ts (decide (0 ≤ n)) (k n.toNat) F
  | _ => F
def aSlice (t : TypeId) (x : SV) (lo hi mx : Option SV) (s : St) (k : SV → St → R) : R :=
  match P.underlying t, x with
  | some .string, .str b => match mx with
    | none => natOf F ts lo 0 fun l => natOf F ts hi b.size fun h => ts (decide (l ≤ h) && decide (h ≤ b.size)) (k (.str (b.extract l h)) s) F
    | _ => F
  | some (.slice e), .sl b r len cap x => match P.info? e, find s.h b with
    | some j, some (_, bk) => natOf F ts lo 0 fun l => natOf F ts hi len fun h => cond (Nat.beq j.size bk.wd)
        (match mx with
         | none => ts (decide (l ≤ h) && decide (h ≤ cap)) (k (.sl b (r + l) (h - l) (cap - l) x) s) F
         | some m => natOf F ts (some m) 0 fun m => ts (decide (l ≤ h) && decide (h ≤ m) && decide (m ≤ cap)) (k (.sl b (r + l) (h - l) (m - l) true) s) F) F
    | _, _ => F
  | some (.slice e), .nils => match P.info? e with
    | some _ => natOf F ts lo 0 fun l => natOf F ts hi 0 fun h => natOf F ts mx 0 fun m => cond (Nat.beq l 0 && Nat.beq h 0 && Nat.beq m 0) (k .nils s) F
    | none => F
  | _, _ => F

def seqB (a b : ByteArray) : Bool := a.toList == b.toList
/-- Are two values equal? eqt: struct types of which the model lets it be asked -/
def fieldsK (q : TypeId → SV → SV → (Bool → R) → R) (xs ys : List SV) : List Field → (Bool → R) → R
  | [], k => k true
  | g :: gs, k => match P.underlying g.type, P.info? g.type with
    | some _, some j => cond (isAggT P g.type)
        (listK ((xs.drop g.offset).take j.size) fun l => listK ((ys.drop g.offset).take j.size) fun m => q g.type (.agg l) (.agg m) fun b => fieldsK q xs ys gs fun c => k (b && c))
        (cond (Nat.blt g.offset xs.length && Nat.blt g.offset ys.length) (q g.type (nth xs g.offset) (nth ys g.offset) fun b => fieldsK q xs ys gs fun c => k (b && c)) F)
    | _, _ => F
def eqK (eqt : List TypeId) : Nat → TypeId → SV → SV → (Bool → R) → R
  | 0, _, _, _, _ => F
  | f + 1, t, x, y, k => match P.underlying t, x, y with
    | some (.int _), .int i a, .int j b => cond (decide (i = j)) (k (a == b)) F
    | some .bool, .bool a, .bool b => k (a == b)
    | some .string, .str a, .str b => k (seqB a b)
    | some (.pointer _), .nilp, .nilp => k true
    | some (.pointer _), .nilp, .ptr _ _ _ => k false
    | some (.pointer _), .ptr _ _ _, .nilp => k false
    | some (.interface _), .nili, .ifc _ _ => k false
    | some (.interface _), .ifc _ _, .nili => k false
    | some (.slice _), .nils, .nils => k true
    | some (.slice _), .nils, .sl _ _ _ cap _ => ts (decide (0 < cap)) (k false) F
    | some (.slice _), .sl _ _ _ cap _, .nils => ts (decide (0 < cap)) (k false) F
    | some (.map _ _), .nilm, .nilm => k true
    | some (.func _ _ _), .nilf, .nilf => k true
    | some (.func _ _ _), .nilf, .fn _ _ _ => k false
    | some (.func _ _ _), .fn _ _ _, .nilf => k false
    | some (.struct fs), .agg xs, .agg ys => cond (eqt.any (Nat.beq t)) (fieldsK F P (eqK eqt f) xs ys fs.toList k) F
    | _, _, _ => F
def aBin (eqt : List TypeId) (op : BinOp) (t : TypeId) (x y : SV) (s : St) (k : SV → St → R) : R :=
  match op, x, y with
  | .shl, .int i a, .int _ b => ts (decide (0 ≤ b)) (k (.int i (i.wrap (a * 2 ^ (min b.toNat i.bits)))) s) F
  | .shr, .int i a, .int _ b => ts (decide (0 ≤ b)) (k (.int i (a.fdiv (2 ^ (min b.toNat i.bits)))) s) F
  | .add, .int i a, .int j b => cond (decide (i = j)) (k (.int i (i.wrap (a + b))) s) F
  | .sub, .int i a, .int j b => cond (decide (i = j)) (k (.int i (i.wrap (a - b))) s) F
  | .mul, .int i a, .int j b => cond (decide (i = j)) (k (.int i (i.wrap (a * b))) s) F
  | .quo, .int i a, .int j b => cond (decide (i = j)) (ts (decide (b = 0)) F (k (.int i (i.wrap (a.tdiv b))) s)) F
  | .rem, .int i a, .int j b => cond (decide (i = j)) (ts (decide (b = 0)) F (k (.int i (a.tmod b)) s)) F
  | .and, .int i a, .int j b => cond (decide (i = j)) (k (.int i (bits .and i a b)) s) F
  | .or, .int i a, .int j b => cond (decide (i = j)) (k (.int i (bits .or i a b)) s) F
  | .xor, .int i a, .int j b => cond (decide (i = j)) (k (.int i (bits .xor i a b)) s) F
  | .andNot, .int i a, .int j b => cond (decide (i = j)) (k (.int i (bits .andNot i a b)) s) F
  | .eql, .int i a, .int j b => cond (decide (i = j)) (k (.bool (decide (a = b))) s) F
  | .neq, .int i a, .int j b => cond (decide (i = j)) (k (.bool (!decide (a = b))) s) F
  | .lss, .int i a, .int j b => cond (decide (i = j)) (k (.bool (decide (a < b))) s) F
  | .leq, .int i a, .int j b => cond (decide (i = j)) (k (.bool (decide (a ≤ b))) s) F
  | .gtr, .int i a, .int j b => cond (decide (i = j)) (k (.bool (decide (b < a))) s) F
  | .geq, .int i a, .int j b => cond (decide (i = j)) (k (.bool (decide (b ≤ a))) s) F
  | .add, .str a, .str b => ts (decide (a.size + b.size ≤ maxLen)) (k (.str (a ++ b)) s) F
  | .eql, .str a, .str b => k (.bool (seqB a b)) s
  | .neq, .str a, .str b => k (.bool (!seqB a b)) s
  | .eql, x, y => eqK F ts P eqt 8 t x y fun b => k (.bool b) s
  | .neq, x, y => eqK F ts P eqt 8 t x y fun b => k (.bool (!b)) s
  | _, _, _ => F
def aUn (op : UnOp) (x : SV) (s : St) (k : SV → St → R) : R :=
  match op, x with
  | .neg, .int i a => k (.int i (i.wrap (0 - a))) s
  | .xor, .int i a => k (.int i (bits .xor i (if i.signed then -1 else i.max) a)) s
  | .not, .bool b => k (.bool (!b)) s
  | _, _ => F
def isByte : List SV → Bool
  | [.int .u8 _] => true
  | _ => false
def byteOf : List SV → UInt8
  | [.int .u8 n] => UInt8.ofNat n.toNat
  | _ => 0
def bytesK : List SV → (List UInt8 → R) → R
  | [], k => k []
  | .int .u8 n :: l, k => bytesK l fun bs => k (UInt8.ofNat n.toNat :: bs)
  | _, _ => F
/-- rows r, r + 1, .. of a block, n of them, as cells, m cells each (in units of e cells a row of the block's w) -/
def aConvert (src dst : TypeId) (x : SV) (s : St) (k : SV → St → R) : R :=
  match P.underlying src, P.underlying dst, x with
  | some _, some (.int i), .int _ a => k (.int i (i.wrap a)) s
  | some (.slice e), some .string, .sl b r len _ _ => match P.underlying e, find s.h b with
    | some (.int .u8), some (_, .flat 1 _ cs) => cond (Nat.ble (r + len) cs.length) (listK ((cs.drop r).take len) fun l => bytesK F l fun bs => k (.str ⟨bs.toArray⟩) s) F
    | some (.int .u8), some (_, .fam 1 _ n row) => ts (decide (r + len ≤ n)) (ts ((List.range len).all fun i => isByte (row (r + i))) (k (.str ⟨((List.range len).map fun i => byteOf (row (r + i))).toArray⟩) s) F) F
    | _, _ => F
  | some (.slice e), some .string, .nils => match P.underlying e with
    | some (.int .u8) => k (.str .empty) s
    | _ => F
  | some .string, some .string, .str a => k (.str a) s
  | _, _, _ => F
def aExtract (x : SV) (i : Nat) (s : St) (k : SV → St → R) : R :=
  match x with
  | .tup vs => cond (Nat.blt i vs.length) (k (nth vs i) s) F
  | _ => F
def aNil (x : SV) (s : St) (k : SV → St → R) : R :=
  match x with
  | .ptr b r c => k (.ptr b r c) s
  | .ifc t v => k (.ifc t v) s
  | .fn (.func f) a b => k (.fn (.func f) a b) s
  | .int i n => k (.int i n) s
  | .sl b r l c x => k (.sl b r l c x) s
  | .nils => k .nils s
  | .nilm => k .nilm s
  | .str b => k (.str b) s
  | .agg l => k (.agg l) s
  | _ => F
def aLen (t : TypeId) (x : SV) (s : St) (k : SV → St → R) : R :=
  match P.underlying t, x with
  | some (.slice _), .sl _ _ len _ _ => k (.int .i64 len) s
  | some (.slice _), .nils => k (.int .i64 0) s
  | some (.slice _), .z0 => k (.int .i64 0) s
  | some (.slice _), .mp _ len _ => k (.int .i64 len) s
  | some .string, .str b => k (.int .i64 b.size) s
  | _, _ => F
def aMax2 : SV → SV → (SV → R) → R
  | .int i a, .int _ b, k => k (.int i (max a b))
  | _, _, _ => F
def aMin2 : SV → SV → (SV → R) → R
  | .int i a, .int _ b, k => k (.int i (min a b))
  | _, _, _ => F
/-- what is copied or appended: cells, or rows that a function tells -/
inductive Rows where
  | lst (cs : List SV)
  | fam (m : Nat) (row : Nat → List SV)
def Rows.row (d : Nat) : Rows → Nat → List SV
  | .lst cs, i => cond (Nat.beq cs.length d) cs ((cs.drop (i * d)).take d)
  | .fam _ f, i => f i
def Bk.rows (r m : Nat) (k : Rows → R) : Bk → R
  | .flat d _ cs => cond (Nat.ble ((r + m) * d) cs.length) (listK ((cs.drop (r * d)).take (m * d)) fun l => k (.lst l)) F
  | .fam _ _ n row => ts (decide (r + m ≤ n)) (k (.fam m fun i => row (r + i))) F
  | .mapk _ => F
/-- a source of elements of d cells: how many, their rows -/
def srcK (d : Nat) (x : SV) (s : St) (k : Nat → Rows → R) : R :=
  match x with
  | .nils => k 0 (.lst [])
  | .z0 => k 0 (.lst [])
  | .sl b r len _ _ => match find s.h b with
    | some (_, bk) => cond (Nat.beq bk.wd d) (bk.rows F ts r len fun rs => k len rs) F
    | none => F
  | .str b => cond (Nat.beq d 1) (k b.size (.fam b.size fun i => [.int .u8 (byteAt b i)])) F
  | .mp _ len z => cond (Nat.beq d 1) (k len (.fam len fun i => [.int .i64 (z i)])) F
  | _ => F
def ofRows (d : Nat) : Rows → Bk
  | .lst l => .flat d false l
  | .fam m f => .fam d false m f
def catK (d : Nat) (m : Nat) : Rows → Rows → Nat → (Bk → R) → R
  | .lst a, .lst b, _, k => listK (a ++ b) fun l => k (.flat d false l)
  | a, b, m2, k => k (.fam d false (m + m2) fun i => selL (decide (i < m)) (a.row d i) (b.row d (i - m)))
/-- rows from r on, m of them, written over -/
def ovK (bk : Bk) (r m : Nat) (rs : Rows) (k : Bk → R) : R :=
  match bk, rs with
  | .flat d false cs, .lst l => cond (Nat.ble ((r + m) * d) cs.length && Nat.beq l.length (m * d)) (listK (splice cs (r * d) l) fun cs => k (.flat d false cs)) F
  | .fam d false n row, rs => ts (decide (r + m ≤ n)) (k (.fam d false n fun i => selL (decide (r ≤ i) && decide (i < r + m)) (rs.row d (i - r)) (row i))) F
  | _, _ => F
/-- what is appended where there is room behind -/
def roomK (d b r len cap n : Nat) (x : Bool) (rs : Rows) (s : St) (k : SV → St → R) : R :=
  ts (decide (n = 0)) (k (.sl b r len cap x) s) (match find s.h b with
    | some (_, bk) => cond (Nat.beq bk.wd d) (ovK F ts bk (r + len) n rs fun bk => s.putK b bk fun s => k (.sl b r (len + n) cap x) s) F
    | none => F)
def aAppend (t : TypeId) (old x : SV) (s : St) (k : SV → St → R) : R :=
  match P.underlying t with
  | some (.slice e) => match P.info? e with
    | some j => match j.zero with
      | some z =>
        cond (Nat.beq j.size (width P 5 e) && Nat.ble 1 j.size && Nat.ble 1 j.bytes && nj (ofN 3 z) && Nat.beq (ofN 3 z).cells.length j.size) (srcK F ts j.size x s fun n rs =>
          match old with
          | .nils => ts (decide (n = 0)) (k .nils s) (ts (decide (n * j.bytes ≤ 140737488355328)) (s.newK (ofRows j.size rs) fun m s => k (.sl m 0 n n false) s) F)
          | .sl b r len cap true => ts (decide (len + n ≤ cap)) (roomK F ts j.size b r len cap n true rs s k) (ts (decide ((len + n) * j.bytes ≤ 140737488355328)) (match find s.h b with
            | some (_, bk) => cond (Nat.beq bk.wd j.size) (bk.rows F ts r len fun os => catK j.size len os rs n fun bk => s.newK bk fun m s => k (.sl m 0 (len + n) (len + n) false) s) F
            | none => F) F)
          | .sl b r len cap false => ts (decide (len + n ≤ cap)) (roomK F ts j.size b r len cap n false rs s k) (ts (decide ((len + n) * j.bytes ≤ 140737488355328)) (match find s.h b with
            | some (_, bk) => cond (Nat.beq bk.wd j.size && !bk.ro) (bk.rows F ts r len fun os => catK j.size len os rs n fun bk => s.delNewK b bk fun m s => k (.sl m 0 (len + n) (len + n) false) s) F
            | none => F) F)
          | _ => F) F
      | none => F
    | none => F
  | _ => F
def takeR (d m : Nat) : Rows → (Rows → R) → R
  | .lst l, k => listK (l.take (m * d)) fun l => k (.lst l)
  | .fam _ f, k => k (.fam m f)
def aCopy (t : TypeId) (x y : SV) (s : St) (k : SV → St → R) : R :=
  match P.underlying t with
  | some (.slice e) => match P.info? e with
    | some j => let d := width P 5 e
      cond (Nat.beq j.size d && Nat.ble 1 d) (srcK F ts d y s fun n rs =>
        match x with
        | .nils => k (.int .i64 0) s
        | .sl b r len _ _ => match find s.h b with
          | some (_, bk) => cond (Nat.beq bk.wd d) (ts (decide (n ≤ len)) (takeR d n rs fun rs => ovK F ts bk r n rs fun bk => s.putK b bk fun s => k (.int .i64 (n : Nat)) s) (takeR d len rs fun rs => ovK F ts bk r len rs fun bk => s.putK b bk fun s => k (.int .i64 (len : Nat)) s)) F
          | none => F
        | _ => F) F
    | none => F
  | _ => F
def aClear (t : TypeId) (x : SV) (s : St) (k : SV → St → R) : R :=
  match P.underlying t with
  | some (.slice e) => match P.info? e with
    | some j => match j.zero with
      | some z => let d := width P 5 e
        cond (Nat.beq j.size d && Nat.ble 1 d && Nat.beq (ofN 3 z).cells.length d && (ofN 3 z).cells.all sc) (
          match x with
          | .nils => k (.tup []) s
          | .sl b r len _ _ => match find s.h b with
            | some (_, bk) => cond (Nat.beq bk.wd d) (match bk with
              | .flat _ _ _ => repK (ofN 3 z).cells len fun l => ovK F ts bk r len (.lst l) fun bk => s.putK b bk fun s => k (.tup []) s
              | bk => ovK F ts bk r len (.fam len fun _ => (ofN 3 z).cells) fun bk => s.putK b bk fun s => k (.tup []) s) F
            | none => F
          | _ => F) F
      | none => F
    | none => F
  | _ => F
/-- make of a slice; lit: its length is a literal of the text -/
def aMakeSlice (t : TypeId) (lit : Bool) (l c : SV) (s : St) (k : SV → St → R) : R :=
  match P.underlying t, l, c with
  | some (.slice e), .int _ l, .int _ c => match P.info? e with
    | some j => match j.zero with
      | some z => let d := width P 5 e
        cond (Nat.ble 1 d && Nat.ble 1 j.size && Nat.beq (j.size % d) 0 && Nat.beq (ofN 3 z).cells.length j.size && (ofN 3 z).cells.all sc)
          (ts (decide (0 ≤ l) && decide (l ≤ c) && decide (c * j.bytes ≤ 281474976710656) && decide (c ≤ 9223372036854775807))
            (cond lit (repK (ofN 3 z).cells c.toNat fun cs => listK cs fun cs => s.newK (.flat d false cs) fun n s => k (.sl n 0 l.toNat c.toNat true) s)
              (cond (Nat.beq j.size d) (s.newK (.fam d false c.toNat fun _ => (ofN 3 z).cells) fun n s => k (.sl n 0 l.toNat c.toNat true) s)
                (match (ofN 3 z).cells with
                  | v :: _ => cond (Nat.beq d 1 && (ofN 3 z).cells.all fun u => match u, v with | .int i a, .int j b => decide (i = j) && decide (a = b) | .bool a, .bool b => decide (a = b) | _, _ => false)
                      (s.newK (.fam d false (c.toNat * j.size) fun _ => [v]) fun n s => k (.sl n 0 l.toNat c.toNat true) s) F
                  | [] => F))) F) F
      | none => F
    | none => F
  | _, _, _ => F
def aFold (f : SV → SV → (SV → R) → R) : SV → List SV → (SV → R) → R
  | x, [], k => k x
  | x, y :: l, k => f x y fun z => aFold f z l k
end
end Go.AE

/- The walk of a function's text over named memory, in continuation style. Definitions alone. -/
namespace Go.AE
open Go

structure Hd (R : Type) where
  F : R
  ts : Bool → R → R → R
  eqt : List TypeId
  hc : FuncId → List SV → St → (SV → St → R) → R
  hl : Code → List SV → St → (List SV → St → R) → (Nat → List SV → St → R) → (List SV → St → R) → R

section
variable {R : Type}

def nthK : List SV → Nat → (SV → R) → R
  | [], _, k => k .junk
  | v :: _, 0, k => k v
  | _ :: t, i + 1, k => nthK t i k
def force (v : SV) (k : SV → R) : R :=
  match v with
  | .int i n => k (.int i n)
  | .bool b => k (.bool b)
  | .str s => k (.str s)
  | .nilp => k .nilp
  | .nils => k .nils
  | .agg l => listK l fun l => k (.agg l)
  | v => k v
def evK (t : List SV) : Operand → (SV → R) → R
  | .tmp i, k => nthK t i k
  | .const v, k => force (ofN 3 v) k
  | .func f, k => k (.fn (.func f) [] [])
  | .global _, k => k .junk
def evsK (t : List SV) : List Operand → (List SV → R) → R
  | [], k => k []
  | x :: xs, k => evK t x fun v => evsK t xs fun vs => k (v :: vs)
def evpK (t : List SV) : List (Nat × Operand) → (List (Nat × SV) → R) → R
  | [], k => k []
  | (i, x) :: xs, k => evK t x fun v => evpK t xs fun vs => k ((i, v) :: vs)
def evoK (t : List SV) : Option Operand → (Option SV → R) → R
  | none, k => k none
  | some x, k => evK t x fun v => k (some v)

def hasBody (P : Program) (g : FuncId) : Bool := match P.funcs[g]? with
  | some fn => fn.body.isSome
  | none => false
def isConst : Operand → Bool
  | .const _ => true
  | _ => false

variable (H : Hd R) (P : Program)

def aBuiltin (b : Builtin) (tys : Array TypeId) (vs : List SV) (s : St) (k : SV → St → R) : R :=
  match b, vs with
  | .len, [x] => match tys.toList with
    | t :: _ => aLen H.F P t x s k
    | [] => H.F
  | .append, [x, y] => match tys.toList with
    | [t, u] => match P.underlying u, y with
      | some (.slice _), .sl b r l c e => aAppend H.F H.ts P t x (.sl b r l c e) s k
      | some (.slice _), .nils => aAppend H.F H.ts P t x .nils s k
      | some (.slice _), .z0 => aAppend H.F H.ts P t x .z0 s k
      | some (.slice _), .mp b l z => aAppend H.F H.ts P t x (.mp b l z) s k
      | some .string, .str b => aAppend H.F H.ts P t x (.str b) s k
      | _, _ => H.F
    | _ => H.F
  | .copy, [x, y] => match tys.toList with
    | [t, u] => match P.underlying u, y with
      | some (.slice _), .sl b r l c e => aCopy H.F H.ts P t x (.sl b r l c e) s k
      | some (.slice _), .nils => aCopy H.F H.ts P t x .nils s k
      | some (.slice _), .z0 => aCopy H.F H.ts P t x .z0 s k
      | some .string, .str b => aCopy H.F H.ts P t x (.str b) s k
      | _, _ => H.F
    | _ => H.F
  | .clear, [x] => match tys.toList with
    | [t] => aClear H.F H.ts P t x s k
    | _ => H.F
  | .max, x :: l => aFold (aMax2 H.F) x l fun v => k v s
  | .min, x :: l => aFold (aMin2 H.F) x l fun v => k v s
  | _, _ => H.F

/-- a number that is taken by a small constant modulus: which rest it is -/
def splitN : BinOp → Operand → Nat
  | .rem, .const (.int _ (.ofNat n)) => cond (Nat.ble n 24 && !Nat.beq n 16) n 0
  | _, _ => 0
def splitI (ts : Bool → R → R → R) (i : IntKind) (x : Int) (k : SV → R) : Nat → Nat → R
  | 0, _ => k (.int i x)
  | m + 1, j => ts (decide (x = (j : Int))) (k (.int i (j : Int))) (splitI ts i x k m (j + 1))
/-- as splitN, by the value; where each rest is by a number -/
def splitY (op : BinOp) (y : SV) : Nat := match op, y with
  | .rem, .int _ (.ofNat n) => cond (Nat.ble n 24) n 0
  | _, _ => 0
def splitV (ts : Bool → R → R → R) (n : Nat) (k : SV → St → R) (v : SV) (s : St) : R :=
  match n with
  | 0 => k v s
  | n + 1 => match v with
    | .int i x => splitI ts i x (fun v => k v s) (n + 1) 0
    | v => k v s
/-- a number that is read at cell c of a T e is split by its value where 4000000 + 100 e + c is asked -/
def ldN (eqt : List TypeId) (e : TypeId) (x : SV) : Nat := match x with
  | .ptr _ _ c => cond (eqt.any (Nat.beq (4000000 + e * 100 + c))) 5 0
  | _ => 0
def aop (t : List SV) (o : Op) (s : St) (k : SV → St → R) : R :=
  match o with
  | .move x | .assign x => evK t x fun v => k v s
  | .pick c a b => evK t c fun c => match c with
    | .bool c => H.ts c (evK t a fun v => k v s) (evK t b fun v => k v s)
    | _ => H.F
  | .alloc e => aAlloc H.F P e s k
  | .box e x => evK t x fun v => aBox H.F P e v s k
  | .build e ps => evpK t ps.toList fun ps => aBuild H.F P e ps s k
  | .buildSlice e n ps => evpK t ps.toList fun ps => aBuildSlice H.F P e n ps s k
  | .load e x => evK t x fun x => aLoad H.F H.ts P e x s (splitV H.ts (ldN H.eqt e x) k)
  | .store e x y => evK t x fun x => evK t y fun y => aStore H.F H.ts P e x y s k
  | .nilCheck x => evK t x fun x => aNil H.F x s k
  | .binOp op e x y _ => evK t x fun xv => evK t y fun yv => aBin H.F H.ts P H.eqt op e xv yv s (splitV H.ts (cond (H.eqt.any (Nat.beq 1000000)) 0 (cond (H.eqt.any (Nat.beq 1000002)) (splitY op yv) (splitN op y))) k)
  | .unOp op _ x => evK t x fun x => aUn H.F op x s k
  | .convert a b x => evK t x fun x => aConvert H.F H.ts P a b x s k
  | .makeFunc f xs ys => evsK t xs.toList fun xs => evsK t ys.toList fun ys => k (.fn f xs ys) s
  | .makeInterface e x => match P.underlying e with
    | some (.interface _) => H.F
    | some _ => evK t x fun x => k (.ifc e x) s
    | none => H.F
  | .makeSlice e l c => evK t l fun lv => evK t c fun cv => aMakeSlice H.F H.ts P e (isConst l && isConst c) lv cv s k
  | .slice e x lo hi mx => evK t x fun x => evoK t lo fun lo => evoK t hi fun hi => evoK t mx fun mx => cond (mx.isSome && hi.isNone) H.F (aSlice H.F H.ts P e x lo hi mx s k)
  | .fieldAddr e x f => evK t x fun x => aFieldAddr H.F P e x f s k
  | .field e x f => evK t x fun x => aField H.F P e x f s k
  | .indexAddr e x i => evK t x fun x => evK t i fun i => aIndexAddr H.F H.ts P e x i s k
  | .index e x i => evK t x fun x => evK t i fun i => aIndex H.F H.ts P e x i s k
  | .extract x i => evK t x fun x => aExtract H.F x i s k
  | .call c => match c.callee with
    | .builtin b => evsK t c.args.toList fun vs => aBuiltin H P b c.argTypes vs s k
    | .value f => evK t f fun f => match f with
      | .fn (.func g) xs ys => cond (hasBody P g) (evsK t c.args.toList fun vs => listK (xs ++ vs ++ ys) fun vs => H.hc g vs s k) H.F
      | _ => H.F
    | .invoke _ _ => H.F
  | _ => H.F

def putD (d : Option Tmp) (v : SV) (t : List SV) (k : List SV → R) : R :=
  match d with
  | some d => setK t d v k
  | none => k t
def dstOf : List Oper → Nat → Option Tmp
  | [], _ => none
  | o :: _, 0 => o.dst
  | _ :: r, i + 1 => dstOf r i
def rops (all : List Oper) : List Oper → List SV → St → (List SV → St → R) → R
  | [], t, s, k => k t s
  | o :: r, t, s, k =>
    match o.guard with
    | none => aop H P t o.op s fun v s => putD o.dst v t fun t => rops all r t s k
    | some (g, b) => match dstOf all g with
      | none => H.F
      | some d => nthK t d fun c => match c with
        | .bool c => match b with
          | true => H.ts c (setK t d (.bool true) fun t => aop H P t o.op s fun v s => putD o.dst v t fun t => rops all r t s k) (setK t d (.bool false) fun t => putD o.dst (.tup []) t fun t => rops all r t s k)
          | false => H.ts c (setK t d (.bool true) fun t => putD o.dst (.tup []) t fun t => rops all r t s k) (setK t d (.bool false) fun t => aop H P t o.op s fun v s => putD o.dst v t fun t => rops all r t s k)
        | .tup [] => putD o.dst (.tup []) t fun t => rops all r t s k
        | _ => H.F
/-! ### Regions that draw their order: walked in the row of their text; what may run at another time is looked at there too. -/
def bit (m j : Nat) : Bool := Nat.beq (Nat.land 1 (Nat.shiftRight m j)) 1
def nthN : List Nat → Nat → (Nat → R) → R
  | [], _, k => k 0
  | m :: _, 0, k => k m
  | _ :: t, i + 1, k => nthN t i k
/-- what an operation waits for, whether at once or through others; am: the same of the operations ahead of it, the last first -/
def ancK (i : Nat) (am : List Nat) : List Edge → Nat → (Nat → R) → R
  | [], m, k => forceN m k
  | e :: es, m, k => cond (Region.binds .any e) (nthN am (i - 1 - e.on) fun a => ancK i am es (Nat.lor (Nat.lor m (Nat.shiftLeft 1 e.on)) a) k) (ancK i am es m k)
inductive Knd where
  | pure | read | new | eff
def knd : Op → Knd
  | .move _ | .assign _ | .pick .. | .build .. | .nilCheck _ | .binOp .. | .unOp .. | .makeFunc .. | .makeInterface .. | .fieldAddr .. | .field .. | .extract .. => .pure
  | .load .. | .indexAddr .. | .slice .. | .convert .. | .index .. => .read
  | .alloc _ | .box .. | .buildSlice .. | .makeSlice .. => .new
  | .call c => match c.callee with
    | .builtin .len | .builtin .max | .builtin .min => .pure
    | _ => .eff
  | _ => .eff
def sveqL (p : SV → SV → Bool) : List SV → List SV → Bool
  | [], [] => true
  | x :: xs, y :: ys => p x y && sveqL p xs ys
  | _, _ => false
def sveq : Nat → SV → SV → Bool
  | 0, _, _ => false
  | _ + 1, .int k n, .int k' n' => decide (k = k') && decide (n = n')
  | _ + 1, .bool a, .bool b => decide (a = b)
  | _ + 1, .str a, .str b => decide (a = b)
  | _ + 1, .nilp, .nilp => true
  | _ + 1, .ptr b r c, .ptr b' r' c' => Nat.beq b b' && decide (r = r') && decide (c = c')
  | _ + 1, .nils, .nils => true
  | _ + 1, .z0, .z0 => true
  | _ + 1, .one, .one => true
  | _ + 1, .sl b r l c x, .sl b' r' l' c' x' => Nat.beq b b' && decide (r = r') && decide (l = l') && decide (c = c') && decide (x = x')
  | _ + 1, .nilf, .nilf => true
  | _ + 1, .nili, .nili => true
  | _ + 1, .nilm, .nilm => true
  | f + 1, .fn (.func g) xs ys, .fn (.func g') xs' ys' => Nat.beq g g' && sveqL (sveq f) xs xs' && sveqL (sveq f) ys ys'
  | f + 1, .agg xs, .agg ys => sveqL (sveq f) xs ys
  | f + 1, .tup xs, .tup ys => sveqL (sveq f) xs ys
  | f + 1, .ifc t x, .ifc t' x' => Nat.beq t t' && sveq f x x'
  | _, _, _ => false
def appK : Hp → Hp → (Hp → R) → R
  | [], h, k => k h
  | x :: g, h, k => appK g h fun h => k (x :: h)
def selK (m : Nat) : List (Nat × Hp) → Hp → (Hp → R) → R
  | [], h, k => k h
  | (j, g) :: r, h, k => cond (bit m j) (selK m r h fun h => appK g h k) (selK m r h k)
def restK (m : Nat) : List (Nat × Hp) → (List (Nat × Hp) → R) → R
  | [], k => k []
  | (j, g) :: r, k => cond (bit m j) (restK m r k) (restK m r fun r => k ((j, g) :: r))
def allFK : List (Nat × Hp) → Hp → (Hp → R) → R
  | [], h, k => k h
  | (_, g) :: r, h, k => allFK r h fun h => appK g h k
def oldB (g : Hp) (m : Nat) : Bool := match find g m with
  | some _ => true
  | none => false
/-- the names of a block list: of g, or new ones of blocks that are not only read -/
def namesB (g : Hp) (a b : Nat) : Hp → Bool
  | [] => true
  | (m, _, bk) :: r => (oldB g m || (!bk.ro && (Nat.ble a m && Nat.beq ((m - a) % b) 0))) && namesB g a b r
/-- what was seen at an earlier time is seen again: the reads that may run behind what is done now -/
structure Pend where
  i : Nat
  m : Nat
  t : List SV
  o : Op
  v : SV
structure Hist where
  i : Nat
  s : St
  fl : List (Nat × Hp)
structure Dx where
  i : Nat
  am : List Nat
  t : List SV
  s : St
  fl : List (Nat × Hp)
  hi : List Hist
  pe : List Pend
  N : Nat
def readsK (m : Nat) (t : List SV) (o : Op) (v : SV) : List Hist → R → R
  | [], k => k
  | e :: r, k => cond (bit m e.i) k (selK m e.fl e.s.h fun h => aop H P t o { h := h, nx := e.s.nx, ck := e.s.ck, st := e.s.st } fun v' _ => H.ts (sveq 9 v v') (readsK m t o v r k) H.F)
def pendK (m : Nat) (fl : List (Nat × Hp)) (s : St) : List Pend → R → R
  | [], k => k
  | p :: r, k => cond (bit m p.i) (pendK m fl s r k) (selK p.m fl s.h fun h => aop H P p.t p.o { h := h, nx := s.nx, ck := s.ck, st := s.st } fun v' _ => H.ts (sveq 9 p.v v') (pendK m fl s r k) H.F)
def lastB (m : Nat) : List Hist → Bool
  | [] => true
  | e :: _ => bit m e.i
def guardK (all : List Oper) (o : Oper) (t : List SV) (on off : List SV → R) : R :=
  match o.guard with
  | none => on t
  | some (g, b) => match dstOf all g with
    | none => H.F
    | some d => nthK t d fun c => match c with
      | .bool c => match b with
        | true => H.ts c (setK t d (.bool true) on) (setK t d (.bool false) off)
        | false => H.ts c (setK t d (.bool true) off) (setK t d (.bool false) on)
      | .tup [] => off t
      | _ => H.F
/-- one operation of such a region, as it is spoken of; a, b: the place and the step of its names -/
def dopS (o : Oper) (a b : Nat) (x : Dx) (m : Nat) (k : SV → Dx → R) : R :=
  match knd o.op with
  | .pure => aop H P x.t o.op { h := [], nx := 0, ck := 0, st := 0 } fun v _ => k v x
  | .read => selK m x.fl x.s.h fun h => aop H P x.t o.op { h := h, nx := x.s.nx, ck := x.s.ck, st := x.s.st } fun v _ =>
      readsK H P m x.t o.op v x.hi (k v { x with pe := { i := x.i, m := m, t := x.t, o := o.op, v := v } :: x.pe })
  | .new => aop H P x.t o.op { h := [], nx := a, ck := x.s.ck, st := b } fun v s' =>
      cond (namesB [] a b s'.h) (forceN s'.nx fun n => k v { x with fl := (x.i, s'.h) :: x.fl, N := cond (Nat.ble x.N n) n x.N }) H.F
  | .eff => cond (lastB m x.hi) (selK m x.fl x.s.h fun h => restK m x.fl fun fl => aop H P x.t o.op { h := h, nx := a, ck := x.s.ck, st := b } fun v s' =>
      cond (namesB h a b s'.h) (pendK H P m fl s' x.pe (forceN s'.nx fun n => k v { x with s := s', fl := fl, hi := { i := x.i, s := x.s, fl := x.fl } :: x.hi, N := cond (Nat.ble x.N n) n x.N })) H.F) H.F
def ropsS (all : List Oper) (nx st n : Nat) : List Oper → Dx → (List SV → St → R) → R
  | [], x, k => allFK x.fl x.s.h fun h => forceN (nx + st * (x.N - nx)) fun q => k x.t { h := h, nx := q, ck := x.s.ck, st := st }
  | o :: r, x, k => ancK x.i x.am o.after.toList 0 fun m => guardK H all o x.t
      (fun t => forceN (nx + x.i * st) fun a => forceN (n * st) fun b => dopS H P o a b { x with t := t } m fun v x => putD o.dst v x.t fun t => ropsS all nx st n r { x with t := t, i := x.i + 1, am := m :: x.am } k)
      (fun t => putD o.dst (.tup []) t fun t => ropsS all nx st n r { x with t := t, i := x.i + 1, am := m :: x.am } k)
/-- the same, its state built anew from its parts -/
def dopK (o : Oper) (a b : Nat) (x : Dx) (m : Nat) (k : SV → Dx → R) : R :=
  match x with
  | ⟨i, am, t, s, fl, hi, pe, N⟩ => match s with
    | ⟨h0, nx, ck, st⟩ => match knd o.op with
      | .pure => aop H P t o.op { h := [], nx := 0, ck := 0, st := 0 } fun v _ => k v ⟨i, am, t, ⟨h0, nx, ck, st⟩, fl, hi, pe, N⟩
      | .read => selK m fl h0 fun h => aop H P t o.op { h := h, nx := nx, ck := ck, st := st } fun v _ =>
          readsK H P m t o.op v hi (k v ⟨i, am, t, ⟨h0, nx, ck, st⟩, fl, hi, { i := i, m := m, t := t, o := o.op, v := v } :: pe, N⟩)
      | .new => aop H P t o.op { h := [], nx := a, ck := ck, st := b } fun v s' => match s' with
          | ⟨h', nx', _, _⟩ => cond (namesB [] a b h') (forceN nx' fun n => k v ⟨i, am, t, ⟨h0, nx, ck, st⟩, (i, h') :: fl, hi, pe, cond (Nat.ble N n) n N⟩) H.F
      | .eff => cond (lastB m hi) (selK m fl h0 fun h => restK m fl fun fl' => aop H P t o.op { h := h, nx := a, ck := ck, st := b } fun v s' => match s' with
          | ⟨h', nx', ck', st'⟩ => cond (namesB h a b h') (pendK H P m fl' ⟨h', nx', ck', st'⟩ pe (forceN nx' fun n => k v ⟨i, am, t, ⟨h', nx', ck', st'⟩, fl', { i := i, s := ⟨h0, nx, ck, st⟩, fl := fl } :: hi, pe, cond (Nat.ble N n) n N⟩)) H.F) H.F
def ropsD (all : List Oper) (nx st n : Nat) : List Oper → Dx → (List SV → St → R) → R
  | [], ⟨_, _, t, ⟨h0, _, ck, _⟩, fl, _, _, N⟩, k => allFK fl h0 fun h => forceN (nx + st * (N - nx)) fun q => k t { h := h, nx := q, ck := ck, st := st }
  | o :: r, ⟨i, am, t, s, fl, hi, pe, N⟩, k => ancK i am o.after.toList 0 fun m => guardK H all o t
      (fun t => forceN (nx + i * st) fun a => forceN (n * st) fun b => dopK H P o a b ⟨i, am, t, s, fl, hi, pe, N⟩ m fun v y => match y with
        | ⟨i, am, t, s, fl, hi, pe, N⟩ => putD o.dst v t fun t => forceN (i + 1) fun j => forceN N fun N => ropsD all nx st n r ⟨j, m :: am, t, s, fl, hi, pe, N⟩ k)
      (fun t => putD o.dst (.tup []) t fun t => forceN (i + 1) fun j => ropsD all nx st n r ⟨j, m :: am, t, s, fl, hi, pe, N⟩ k)
def drawnK (ops : List Oper) (t : List SV) (s : St) (k : List SV → St → R) : R :=
  forceN s.nx fun nx => forceN s.st fun st => forceN ops.length fun n =>
    ropsD H P ops nx st n ops { i := 0, am := [], t := t, s := s, fl := [], hi := [], pe := [], N := nx } k
def exec : Code → List SV → St → (List SV → St → R) → (Nat → List SV → St → R) → (List SV → St → R) → R
  | .skip, t, s, kn, _, _ => kn t s
  | .label _, t, s, kn, _, _ => kn t s
  | .ret, t, s, _, _, kr => kr t s
  | .exit id, t, s, _, kx, _ => kx id t s
  | .seq a b, t, s, kn, kx, kr => exec a t s (fun t s => exec b t s kn kx kr) kx kr
  | .cond c x y, t, s, kn, kx, kr => evK t c fun c => match c with
    | .bool c => H.ts c (exec x t s kn kx kr) (exec y t s kn kx kr)
    | _ => H.F
  | .block id b, t, s, kn, kx, kr => exec b t s kn (fun i t s => cond (Nat.beq i id) (kn t s) (kx i t s)) kr
  | .loop b, t, s, kn, kx, kr => H.hl b t s kn kx kr
  | .region _ ops false, t, s, kn, _, _ => rops H P ops.toList ops.toList t s kn
  | .region _ ops true, t, s, kn, _, _ => drawnK H P ops.toList t s kn
  | _, _, _, _, _, _ => H.F
def resK (t : List SV) (s : St) : List ResultVar → (List SV → R) → R
  | [], k => k []
  | .tmp i :: r, k => nthK t i fun v => resK t s r fun l => k (v :: l)
  | .cell a e :: r, k => nthK t a fun x => aLoad H.F H.ts P e x s fun v _ => resK t s r fun l => k (v :: l)
def one : List SV → SV
  | [v] => v
  | l => .tup l
def bodyK (fn : Func) (c : Code) (xs : List SV) (s : St) (k : SV → St → R) : R :=
  repK [.tup []] (fn.ntmps - xs.length) fun z => listK (xs ++ z) fun t =>
    exec H P c t s (fun t s => resK H P t s fn.results.toList fun l => k (one l) s) (fun _ _ _ => H.F) (fun t s => resK H P t s fn.results.toList fun l => k (one l) s)
def waitsFor (o : Oper) (k : Nat) : Bool := o.after.any fun e => Region.binds .any e && e.on == k
def dstAt (ops : Array Oper) (i : Nat) : Option Tmp := (ops[i]?).bind (·.dst)
/-- each operation waits for smaller ones alone, for those among them whose slots it reads; no two write one slot -/
def fits (ops : Array Oper) : Bool :=
  Region.noSelect ops && (List.range ops.size).all fun i => match ops[i]? with
    | none => false
    | some o => (o.after.all fun e => !Region.binds .any e || decide (e.on < i)) &&
      (List.range ops.size).all fun j => (j == i || o.dst == none || o.dst != dstAt ops j) &&
        match dstAt ops j with
        | some t => !(o.looksAt ops).contains t || (waitsFor o j || (Nat.beq j i || (Nat.blt i j && match ops[j]? with
          | some oj => waitsFor oj i
          | none => false)))
        | none => true
/-- every region that draws its order is of the kind that is walked -/
def cfits : Code → Bool
  | .seq a b => cfits a && cfits b
  | .cond _ x y => cfits x && cfits y
  | .block _ b | .loop b | .scope b => cfits b
  | .region _ ops true => fits ops
  | _ => true
def callK (f : FuncId) (xs : List SV) (s : St) (k : SV → St → R) : R :=
  match P.funcs[f]? with
  | some fn => match fn.body with
    | some c => cond (cfits c) (bodyK H P fn c xs s k) H.F
    | none => H.F
  | none => H.F
end
/-- Calls are walked into, loops are walked round by round, n deep. -/
def Hn {R : Type} (P : Program) (F : R) (ts : Bool → R → R → R) (eqt : List TypeId) : Nat → Hd R
  | 0 => { F := F, ts := ts, eqt := eqt, hc := fun _ _ _ _ => F, hl := fun _ _ _ _ _ _ => F }
  | n + 1 => { F := F, ts := ts, eqt := eqt, hc := fun f xs s k => callK (Hn P F ts eqt n) P f xs s k,
               hl := fun b t s kn kx kr => exec (Hn P F ts eqt n) P b t s (fun t s => (Hn P F ts eqt n).hl b t s kn kx kr) kx kr }
def s0 : St := { h := [], nx := 0, ck := 0, st := 1 }
end Go.AE

/- Real memory bears named memory. What it says, and that it is kept. No condition. -/
namespace Go.AE
open Go

structure Cx where
  w0 : World
  S : Nat → Prop
  Z : Nat → Prop := fun _ => False

/-- the cells cs stand in c from o on -/
def LR (ρ : Map) (c : Array Value) (o : Nat) (cs : List SV) : Prop := ∀ (j : Nat) (v : SV), cs[j]? = some v → ∃ u, c[o + j]? = some u ∧ VR ρ v u
def BR (ρ : Map) (w : World) (p : Pl) : Bk → Prop
  | .flat d ro cs => p.w = d ∧ ∃ c e fr, w.heap[p.blk]? = some (.cells c e fr) ∧ c.size = p.size ∧ (ro = false → fr = (0, 0)) ∧ cs.all sc = true ∧ LR ρ c p.base cs
  | .fam d ro n row => p.w = d ∧ ∃ c e fr, w.heap[p.blk]? = some (.cells c e fr) ∧ c.size = p.size ∧ (ro = false → fr = (0, 0)) ∧ ∀ i, i < n → (row i).length = d ∧ (row i).all sc = true ∧ LR ρ c (p.base + i * d) (row i)
  | .mapk _ => False
theorem LR.mono {ρ σ : Map} (h : Le ρ σ) {c o cs} (l : LR ρ c o cs) : LR σ c o cs := fun j v e => let ⟨u, a, b⟩ := l j v e; ⟨u, a, b.mono h⟩
theorem BR.mono {ρ σ : Map} (h : Le ρ σ) {w p b} (l : BR ρ w p b) : BR σ w p b := by
  cases b with
  | flat d ro cs => obtain ⟨a, c, e, fr, h1, h2, h3, h5, h4⟩ := l; exact ⟨a, c, e, fr, h1, h2, h3, h5, h4.mono h⟩
  | fam d ro n row => obtain ⟨a, c, e, fr, h1, h2, h3, h4⟩ := l; exact ⟨a, c, e, fr, h1, h2, h3, fun i hi => ⟨(h4 i hi).1, (h4 i hi).2.1, (h4 i hi).2.2.mono h⟩⟩
  | mapk es => exact l.elim
theorem BR.keep {ρ : Map} {w w' : World} {p b} (l : BR ρ w p b) (h : w'.heap[p.blk]? = w.heap[p.blk]?) : BR ρ w' p b := by
  cases b with
  | flat d ro cs => obtain ⟨a, c, e, fr, h1, h2⟩ := l; exact ⟨a, c, e, fr, h.trans h1, h2⟩
  | fam d ro n row => obtain ⟨a, c, e, fr, h1, h2⟩ := l; exact ⟨a, c, e, fr, h.trans h1, h2⟩
  | mapk es => exact l.elim
theorem BR.wd {ρ : Map} {w : World} {p b} (l : BR ρ w p b) : p.w = b.wd := by
  cases b with
  | flat d ro cs => exact l.1
  | fam d ro n row => exact l.1
  | mapk es => exact l.elim
theorem BR.lt {ρ : Map} {w : World} {p b} (l : BR ρ w p b) : p.blk < w.heap.size := by
  have key : ∀ {x : Obj}, w.heap[p.blk]? = some x → p.blk < w.heap.size := fun h => (Array.getElem?_eq_some_iff.1 h).1
  cases b with
  | flat d ro cs => obtain ⟨_, c, e, fr, h1, _⟩ := l; exact key h1
  | fam d ro n row => obtain ⟨_, c, e, fr, h1, _⟩ := l; exact key h1
  | mapk es => exact l.elim

/-- a block of which nothing is there: a name for the row that a nil slice has -/
def PH (p : Pl) : Bk → Prop
  | .fam d _ n _ => n = 0 ∧ p.w = d
  | _ => False
def BX (ρ : Map) (w : World) (p : Pl) (b : Bk) : Prop := (p.ph = false ∧ BR ρ w p b) ∨ (p.ph = true ∧ PH p b)
theorem BX.mono {ρ σ : Map} (h : Le ρ σ) {w p b} (l : BX ρ w p b) : BX σ w p b := l.imp (fun l => ⟨l.1, l.2.mono h⟩) id
theorem BX.keep {ρ : Map} {w w' : World} {p b} (l : BX ρ w p b) (h : p.ph = false → w'.heap[p.blk]? = w.heap[p.blk]?) : BX ρ w' p b := l.imp (fun l => ⟨l.1, l.2.keep (h l.1)⟩) id
theorem BX.real {ρ : Map} {w : World} {p b} (l : BX ρ w p b) (h : p.ph = false) : BR ρ w p b := by
  rcases l with l | l
  · exact l.2
  · rw [h] at l; cases l.1
theorem PH.wd {p : Pl} {b : Bk} (l : PH p b) : p.w = b.wd := by
  cases b with
  | fam d ro n row => exact l.2
  | _ => exact l.elim
theorem BX.wd {ρ : Map} {w : World} {p b} (l : BX ρ w p b) : p.w = b.wd := by
  rcases l with l | l
  · exact l.2.wd
  · exact l.2.wd

/-- σ has more names than ρ: new ones are those of the row s.nx, s.nx + s.st, .. below s'.nx -/
def Ext (s s' : St) (ρ σ : Map) : Prop := Le ρ σ ∧ (∀ m, σ m = ρ m ∨ ∃ q, m = s.nx + q * s.st ∧ m < s'.nx) ∧ s'.st = s.st ∧ ∃ q, s'.nx = s.nx + q * s.st
theorem Ext.refl (s : St) (ρ : Map) : Ext s s ρ ρ := ⟨Le.refl _, fun _ => .inl rfl, rfl, 0, by simp⟩
theorem Ext.le {a b : St} {ρ σ : Map} (h : Ext a b ρ σ) : a.nx ≤ b.nx := by obtain ⟨_, _, _, q, h⟩ := h; omega
theorem Ext.trans {a b c : St} {ρ σ τ : Map} (h : Ext a b ρ σ) (k : Ext b c σ τ) : Ext a c ρ τ := by
  have hk := k.le
  obtain ⟨h1, h2, h3, q, h4⟩ := h
  obtain ⟨k1, k2, k3, r, k4⟩ := k
  refine ⟨h1.trans k1, fun m => ?_, k3.trans h3, q + r, by rw [k4, h4, h3, Nat.add_mul]; omega⟩
  rcases k2 m with e | ⟨x, e, hl⟩
  · rcases h2 m with e' | ⟨y, e', hl⟩
    · exact .inl (e.trans e')
    · exact .inr ⟨y, e', by omega⟩
  · exact .inr ⟨q + x, by rw [e, h4, h3, Nat.add_mul]; omega, hl⟩
theorem Ext.eqv {a b c : St} {ρ σ : Map} (h : Ext a b ρ σ) (hn : c.nx = b.nx) (hs : c.st = b.st) : Ext a c ρ σ := by
  obtain ⟨h1, h2, h3, q, h4⟩ := h
  exact ⟨h1, by rw [hn]; exact h2, hs.trans h3, q, hn.trans h4⟩

theorem splitI_eq (i : IntKind) (x : Int) (k : SV → Prop) : ∀ m j, splitI cond i x k m j = k (.int i x)
  | 0, _ => rfl
  | m + 1, j => by
    simp only [splitI]
    by_cases h : x = (j : Int)
    · rw [decide_eq_true h, cond_true, h]
    · rw [decide_eq_false h, cond_false, splitI_eq i x k m (j + 1)]
theorem splitV_eq (n : Nat) (k : SV → St → Prop) : splitV cond n k = k := by
  funext v s
  cases n with
  | zero => rfl
  | succ n => cases v <;> first | rfl | exact splitI_eq _ _ _ _ _
/-! ### The list of blocks -/
def put : Hp → Nat → Nat × Bk → Hp
  | [], _, _ => []
  | (m, y) :: t, n, x => cond (Nat.beq m n) ((m, x) :: t) ((m, y) :: put t n x)
def del : Hp → Nat → Hp
  | [], _ => []
  | (m, y) :: t, n => cond (Nat.beq m n) (del t n) ((m, y) :: del t n)
theorem putK_eq {R : Type} : ∀ (h : Hp) (n : Nat) (x : Nat × Bk) (k : Hp → R), putK h n x k = k (put h n x)
  | [], _, _, _ => rfl
  | (m, y) :: t, n, x, k => by simp only [putK, put, putK_eq t n x]; cases Nat.beq m n <;> rfl
theorem delK_eq {R : Type} : ∀ (h : Hp) (n : Nat) (k : Hp → R), delK h n k = k (del h n)
  | [], _, _ => rfl
  | (m, y) :: t, n, k => by simp only [delK, del, delK_eq t n]; cases Nat.beq m n <;> rfl
theorem forceN_eq {R : Type} (n : Nat) (k : Nat → R) : forceN n k = k n := by cases n <;> rfl
theorem normB_eq {R : Type} (b : Bk) (k : Bk → R) : normB b k = k b := by cases b <;> simp [normB, forceN_eq]
theorem St.newK_eq {R : Type} (s : St) (b : Bk) (k : Nat → St → R) : s.newK b k = k s.nx { h := (s.nx, s.ck, b) :: s.h, nx := s.nx + s.st, ck := s.ck, st := s.st } := by
  unfold St.newK; rw [normB_eq]; exact forceN_eq _ _
theorem St.putK_eq {R : Type} (s : St) (n : Nat) (b : Bk) (k : St → R) : s.putK n b k = k { h := AE.put s.h n (s.ck, b), nx := s.nx, ck := s.ck, st := s.st } := by
  unfold St.putK; rw [normB_eq]; exact AE.putK_eq _ _ _ _
theorem St.delNewK_eq {R : Type} (s : St) (n : Nat) (b : Bk) (k : Nat → St → R) : s.delNewK n b k = k s.nx { h := (s.nx, s.ck, b) :: del s.h n, nx := s.nx + s.st, ck := s.ck, st := s.st } := by
  unfold St.delNewK; exact (delK_eq _ _ _).trans (St.newK_eq _ _ _)
theorem listK_eq {R : Type} : ∀ (l : List SV) (k : List SV → R), listK l k = k l
  | [], _ => rfl
  | v :: t, k => by simp only [listK, listK_eq t]
theorem beq_ne {m n : Nat} (h : m ≠ n) : Nat.beq m n = false := by cases hb : Nat.beq m n with
  | false => rfl
  | true => exact absurd (Nat.eq_of_beq_eq_true hb) h
theorem find_put_same : ∀ (h : Hp) (n : Nat) (x : Nat × Bk), find (put h n x) n = (find h n).map fun _ => x
  | [], _, _ => rfl
  | (m, y) :: t, n, x => by
    by_cases e : m = n
    · subst e; simp [put, find]
    · simp [put, find, beq_ne e, find_put_same t n x]
theorem find_put_other : ∀ (h : Hp) {n m : Nat} (x : Nat × Bk), m ≠ n → find (put h n x) m = find h m
  | [], _, _, _, _ => rfl
  | (q, y) :: t, n, m, x, hm => by
    by_cases e : q = n
    · subst e; simp [put, find, beq_ne (Ne.symm hm)]
    · simp only [put, beq_ne e, cond_false, find]
      cases Nat.beq q m with
      | true => rfl
      | false => exact find_put_other t x hm
theorem find_del_same : ∀ (h : Hp) (n : Nat), find (del h n) n = none
  | [], _ => rfl
  | (m, y) :: t, n => by
    by_cases e : m = n
    · subst e; simp [del, find_del_same t m]
    · simp [del, find, beq_ne e, find_del_same t n]
theorem find_del_other : ∀ (h : Hp) {n m : Nat}, m ≠ n → find (del h n) m = find h m
  | [], _, _, _ => rfl
  | (q, y) :: t, n, m, hm => by
    by_cases e : q = n
    · subst e; simp [del, find, beq_ne (Ne.symm hm), find_del_other t hm]
    · simp only [del, beq_ne e, cond_false, find]
      cases Nat.beq q m with
      | true => rfl
      | false => exact find_del_other t hm

/-- Real memory w bears named memory s. -/
structure Rel (C : Cx) (ρ : Map) (s : St) (w : World) : Prop where
  os : w.os = C.w0.os
  tape : w.tape = C.w0.tape
  output : w.output = C.w0.output
  size : C.w0.heap.size ≤ w.heap.size
  out : ∀ r, r < C.w0.heap.size → ¬ C.S r → w.heap[r]? = C.w0.heap[r]?
  blk : ∀ n v b, find s.h n = some (v, b) → ∃ p, ρ n = some p ∧ BX ρ w p b
  sep : ∀ n m vn bn vm bm p q, find s.h n = some (vn, bn) → find s.h m = some (vm, bm) → n ≠ m → bn.ro = false → ρ n = some p → ρ m = some q → p.ph = false → q.ph = false → p.blk ≠ q.blk
  own : ∀ n v b p, find s.h n = some (v, b) → b.ro = false → ρ n = some p → p.ph = false → C.S p.blk ∨ C.w0.heap.size ≤ p.blk
  fresh : ∀ q, ρ (s.nx + q * s.st) = none
  stp : 0 < s.st
  inb : ∀ n p, ρ n = some p → p.ph = false → p.blk < w.heap.size
  frz : ∀ n p r o, ρ n = some p → p.fz r = some o → w.heap[r]? = some o ∧ (C.Z r ∨ C.S r ∨ C.w0.heap.size ≤ r) ∧ ∀ m v b q, find s.h m = some (v, b) → b.ro = false → ρ m = some q → q.ph = false → q.blk ≠ r

section
variable {C : Cx} {ρ : Map} {s : St} {w : World}
theorem Rel.fresh0 (h : Rel C ρ s w) : ρ s.nx = none := by have := h.fresh 0; simpa using this
theorem Rel.fresh1 (h : Rel C ρ s w) (q : Nat) : ρ (s.nx + s.st + q * s.st) = none := by
  have := h.fresh (q + 1)
  rwa [Nat.add_mul, Nat.one_mul, Nat.add_comm (q * s.st), ← Nat.add_assoc] at this
/-- the tape is read -/
theorem Rel.drew (h : Rel C ρ s w) : Rel C ρ s w.drew :=
  ⟨h.os, h.tape, h.output, h.size, h.out, fun n v b e => let ⟨p, a, c⟩ := h.blk n v b e; ⟨p, a, c.keep fun _ => rfl⟩, h.sep, h.own, h.fresh, h.stp, h.inb, h.frz⟩
/-- block n holds something else now -/
theorem Rel.put (h : Rel C ρ s w) {n : Nat} {v : Nat} {b b' : Bk} {p : Pl} {w' : World} (hf : find s.h n = some (v, b)) (hro : b.ro = false) (hp : ρ n = some p) (hx : p.ph = false) (hb : BR ρ w' p b') (hro' : b'.ro = false)
    (hk : ∀ r, r ≠ p.blk → w'.heap[r]? = w.heap[r]?) (hs : w'.heap.size = w.heap.size) (ho : w'.os = w.os) (ht : w'.tape = w.tape) (hou : w'.output = w.output) :
    Rel C ρ { h := AE.put s.h n (s.ck, b'), nx := s.nx, ck := s.ck, st := s.st } w' := by
  have key : ∀ m vm bm, find (AE.put s.h n (s.ck, b')) m = some (vm, bm) → (m = n ∧ bm = b') ∨ (m ≠ n ∧ find s.h m = some (vm, bm)) := by
    intro m vm bm e
    by_cases hm : m = n
    · subst hm; rw [find_put_same, hf] at e; simp at e; exact .inl ⟨rfl, e.2.symm⟩
    · rw [find_put_other _ _ hm] at e; exact .inr ⟨hm, e⟩
  refine ⟨ho.trans h.os, ht.trans h.tape, hou.trans h.output, hs ▸ h.size, fun r hr hS => ?_, fun m vm bm e => ?_, fun m q vm bm vq bq pm pq em eq hne hr hpm hpq x1 x2 => ?_, fun m vm bm pm e hr hpm x1 => ?_, h.fresh, h.stp, fun m q hq x1 => hs ▸ h.inb m q hq x1, fun n' p' r o hn' hf' => ?_⟩
  · rw [← h.out r hr hS]
    refine hk r fun e => ?_
    rcases h.own n v b p hf hro hp hx with hh | hh
    · exact hS (e ▸ hh)
    · omega
  · rcases key m vm bm e with ⟨rfl, rfl⟩ | ⟨hm, e'⟩
    · exact ⟨p, hp, .inl ⟨hx, hb⟩⟩
    · obtain ⟨q, hq, hbr⟩ := h.blk m vm bm e'
      exact ⟨q, hq, hbr.keep fun y => hk _ (h.sep n m v b vm bm p q hf e' (Ne.symm hm) hro hp hq hx y).symm⟩
  · rcases key m vm bm em with ⟨rfl, rfl⟩ | ⟨hm, em'⟩ <;> rcases key q vq bq eq with ⟨rfl, rfl⟩ | ⟨hq, eq'⟩
    · exact absurd rfl hne
    · exact h.sep m q v b vq bq pm pq hf eq' hne hro hpm hpq x1 x2
    · exact h.sep m q vm bm v b pm pq em' hf hne hr hpm hpq x1 x2
    · exact h.sep m q vm bm vq bq pm pq em' eq' hne hr hpm hpq x1 x2
  · rcases key m vm bm e with ⟨rfl, rfl⟩ | ⟨hm, e'⟩
    · exact h.own m v b pm hf hro hpm x1
    · exact h.own m vm bm pm e' hr hpm x1
  · obtain ⟨f1, f2, f3⟩ := h.frz n' p' r o hn' hf'
    refine ⟨(hk r fun e => f3 n v b p hf hro hp hx e.symm).trans f1, f2, fun m vm bm q em hr hq x1 => ?_⟩
    rcases key m vm bm em with ⟨rfl, rfl⟩ | ⟨hm, em'⟩
    · exact f3 m v b q hf hro hq x1
    · exact f3 m vm bm q em' hr hq x1

def upd (ρ : Map) (n : Nat) (p : Pl) : Map := fun m => if m = n then some p else ρ m
theorem upd_le {n : Nat} {p : Pl} (h : ρ n = none) : Le ρ (upd ρ n p) := fun m q e => by
  unfold upd
  split
  · rename_i hm; subst hm; rw [h] at e; cases e
  · exact e
theorem upd_ext {s s' : St} {p : Pl} (h : ρ s.nx = none) (hp : 0 < s.st) (hn : s'.nx = s.nx + s.st) (hs : s'.st = s.st) : Ext s s' ρ (upd ρ s.nx p) := ⟨upd_le h, fun m => by
  unfold upd
  split
  · rename_i hm; exact .inr ⟨0, by omega, by omega⟩
  · exact .inl rfl, hs, 1, by omega⟩
theorem upd_same (n : Nat) (p : Pl) : upd ρ n p n = some p := by simp [upd]
/-- a new block -/
theorem Rel.new (h : Rel C ρ s w) {b : Bk} {p : Pl} {w' : World} (o : Obj) (hw : w'.heap = w.heap.push o) (hp : p.blk = w.heap.size) (hx : p.ph = false) (hb : BR (upd ρ s.nx p) w' p b)
    (ho : w'.os = w.os) (ht : w'.tape = w.tape) (hou : w'.output = w.output) (hz : ∀ r, p.fz r = none := by intro r; rfl) : Rel C (upd ρ s.nx p) { h := (s.nx, s.ck, b) :: s.h, nx := s.nx + s.st, ck := s.ck, st := s.st } w' := by
  have hle : Le ρ (upd ρ s.nx p) := upd_le h.fresh0
  have hold : ∀ r, r < w.heap.size → w'.heap[r]? = w.heap[r]? := fun r hr => by rw [hw, Array.getElem?_push, if_neg (Nat.ne_of_lt hr)]
  have hsz : w'.heap.size = w.heap.size + 1 := by rw [hw]; simp
  have key : ∀ m vm bm, find ((s.nx, s.ck, b) :: s.h) m = some (vm, bm) → (m = s.nx ∧ bm = b) ∨ (m ≠ s.nx ∧ find s.h m = some (vm, bm)) := by
    intro m vm bm e
    by_cases hm : m = s.nx
    · subst hm; simp [find] at e; exact .inl ⟨rfl, e.2.symm⟩
    · simp only [find, beq_ne (Ne.symm hm), cond_false] at e; exact .inr ⟨hm, e⟩
  have old : ∀ m pm, m ≠ s.nx → upd ρ s.nx p m = some pm → ρ m = some pm := fun m pm hm e => by simpa [upd, hm] using e
  refine ⟨ho.trans h.os, ht.trans h.tape, hou.trans h.output, by have := h.size; omega, fun r hr hS => (hold r (Nat.lt_of_lt_of_le hr h.size)).trans (h.out r hr hS), fun m vm bm e => ?_, fun m q vm bm vq bq pm pq em eq hne hr hpm hpq x1 x2 => ?_, fun m vm bm pm e hr hpm x1 => ?_, fun k => ?_, h.stp, fun m q hq x1 => ?_, fun n' p' r o hn' hf' => ?_⟩
  · rcases key m vm bm e with ⟨rfl, rfl⟩ | ⟨hm, e'⟩
    · exact ⟨p, upd_same _ _, .inl ⟨hx, hb⟩⟩
    · obtain ⟨q, hq, hbr⟩ := h.blk m vm bm e'
      exact ⟨q, hle _ _ hq, (hbr.mono hle).keep fun y => hold _ (h.inb m q hq y)⟩
  · rcases key m vm bm em with ⟨rfl, rfl⟩ | ⟨hm, em'⟩ <;> rcases key q vq bq eq with ⟨rfl, rfl⟩ | ⟨hq, eq'⟩
    · exact absurd rfl hne
    · rw [upd_same] at hpm; cases hpm
      have := h.inb q pq (old q pq hq hpq) x2
      omega
    · rw [upd_same] at hpq; cases hpq
      have := h.inb m pm (old m pm hm hpm) x1
      omega
    · exact h.sep m q vm bm vq bq pm pq em' eq' hne hr (old m pm hm hpm) (old q pq hq hpq) x1 x2
  · rcases key m vm bm e with ⟨rfl, rfl⟩ | ⟨hm, e'⟩
    · rw [upd_same] at hpm; cases hpm
      exact .inr (by have := h.size; omega)
    · exact h.own m vm bm pm e' hr (old m pm hm hpm) x1
  · have hp := h.stp
    have : s.nx + s.st + k * s.st ≠ s.nx := by omega
    simp only [upd, if_neg this]
    exact h.fresh1 k
  · by_cases hm : m = s.nx
    · subst hm; rw [upd_same] at hq; cases hq; omega
    · have := h.inb m q (old m q hm hq) x1; omega
  · by_cases hn : n' = s.nx
    · subst hn; rw [upd_same] at hn'; cases hn'; rw [hz] at hf'; cases hf'
    obtain ⟨f1, f2, f3⟩ := h.frz n' p' r o (old n' p' hn hn') hf'
    have hr' : r < w.heap.size := (Array.getElem?_eq_some_iff.1 f1).1
    refine ⟨(hold r hr').trans f1, f2, fun m vm bm q em hr hq x1 => ?_⟩
    rcases key m vm bm em with ⟨rfl, rfl⟩ | ⟨hm, em'⟩
    · rw [upd_same] at hq; cases hq; omega
    · exact f3 m vm bm q em' hr (old m q hm hq) x1
/-- block n goes on under another name -/
theorem Rel.move (h : Rel C ρ s w) {n : Nat} {v : Nat} {b b' : Bk} {p p' : Pl} {w' : World} (hf : find s.h n = some (v, b)) (hro : b.ro = false) (hp : ρ n = some p) (hx : p.ph = false) (hpp : p'.blk = p.blk) (hx' : p'.ph = false) (hb : BR (upd ρ s.nx p') w' p' b')
    (hk : ∀ r, r ≠ p.blk → w'.heap[r]? = w.heap[r]?) (hs : w'.heap.size = w.heap.size) (ho : w'.os = w.os) (ht : w'.tape = w.tape) (hou : w'.output = w.output) (hz : ∀ r, p'.fz r = none := by intro r; rfl) :
    Rel C (upd ρ s.nx p') { h := (s.nx, s.ck, b') :: del s.h n, nx := s.nx + s.st, ck := s.ck, st := s.st } w' := by
  have hle : Le ρ (upd ρ s.nx p') := upd_le h.fresh0
  have key : ∀ m vm bm, find ((s.nx, s.ck, b') :: del s.h n) m = some (vm, bm) → (m = s.nx ∧ bm = b') ∨ (m ≠ s.nx ∧ m ≠ n ∧ find s.h m = some (vm, bm)) := by
    intro m vm bm e
    by_cases hm : m = s.nx
    · subst hm; simp [find] at e; exact .inl ⟨rfl, e.2.symm⟩
    · simp only [find, beq_ne (Ne.symm hm), cond_false] at e
      by_cases hn : m = n
      · subst hn; rw [find_del_same] at e; cases e
      · rw [find_del_other _ hn] at e; exact .inr ⟨hm, hn, e⟩
  have old : ∀ m pm, m ≠ s.nx → upd ρ s.nx p' m = some pm → ρ m = some pm := fun m pm hm e => by simpa [upd, hm] using e
  refine ⟨ho.trans h.os, ht.trans h.tape, hou.trans h.output, hs ▸ h.size, fun r hr hS => ?_, fun m vm bm e => ?_, fun m q vm bm vq bq pm pq em eq hne hr hpm hpq x1 x2 => ?_, fun m vm bm pm e hr hpm x1 => ?_, fun k => ?_, h.stp, fun m q hq x1 => ?_, fun n' p' r o hn' hf' => ?_⟩
  · rw [← h.out r hr hS]
    refine hk r fun e => ?_
    rcases h.own n v b p hf hro hp hx with hh | hh
    · exact hS (e ▸ hh)
    · omega
  · rcases key m vm bm e with ⟨rfl, rfl⟩ | ⟨hm, hn, e'⟩
    · exact ⟨p', upd_same _ _, .inl ⟨hx', hb⟩⟩
    · obtain ⟨q, hq, hbr⟩ := h.blk m vm bm e'
      exact ⟨q, hle _ _ hq, (hbr.mono hle).keep fun y => hk _ (h.sep n m v b vm bm p q hf e' (Ne.symm hn) hro hp hq hx y).symm⟩
  · rcases key m vm bm em with ⟨rfl, rfl⟩ | ⟨hm, hmn, em'⟩ <;> rcases key q vq bq eq with ⟨rfl, rfl⟩ | ⟨hq, hqn, eq'⟩
    · exact absurd rfl hne
    · rw [upd_same] at hpm; cases hpm
      rw [hpp]
      exact h.sep n q v b vq bq p pq hf eq' (Ne.symm hqn) hro hp (old q pq hq hpq) hx x2
    · rw [upd_same] at hpq; cases hpq
      rw [hpp]
      exact h.sep m n vm bm v b pm p em' hf hmn hr (old m pm hm hpm) hp x1 hx
    · exact h.sep m q vm bm vq bq pm pq em' eq' hne hr (old m pm hm hpm) (old q pq hq hpq) x1 x2
  · rcases key m vm bm e with ⟨rfl, rfl⟩ | ⟨hm, hn, e'⟩
    · rw [upd_same] at hpm; cases hpm
      rw [hpp]
      exact h.own n v b p hf hro hp hx
    · exact h.own m vm bm pm e' hr (old m pm hm hpm) x1
  · have hp := h.stp
    have : s.nx + s.st + k * s.st ≠ s.nx := by omega
    simp only [upd, if_neg this]
    exact h.fresh1 k
  · by_cases hm : m = s.nx
    · subst hm; rw [upd_same] at hq; cases hq; rw [hpp, hs]; exact h.inb n p hp hx
    · rw [hs]; exact h.inb m q (old m q hm hq) x1
  · by_cases hn : n' = s.nx
    · subst hn; rw [upd_same] at hn'; cases hn'; rw [hz] at hf'; cases hf'
    obtain ⟨f1, f2, f3⟩ := h.frz n' _ r o (old n' _ hn hn') hf'
    refine ⟨(hk r fun e => f3 n v b p hf hro hp hx e.symm).trans f1, f2, fun m vm bm q em hr hq x1 => ?_⟩
    rcases key m vm bm em with ⟨rfl, rfl⟩ | ⟨hm, _, em'⟩
    · rw [upd_same] at hq; cases hq; rw [hpp]; exact f3 n v b p hf hro hp hx
    · exact f3 m vm bm q em' hr (old m q hm hq) x1
/-- a block of which nothing is there holds nothing anew -/
theorem Rel.putPh (h : Rel C ρ s w) {n : Nat} {v : Nat} {b b' : Bk} {p : Pl} (hf : find s.h n = some (v, b)) (hp : ρ n = some p) (hx : p.ph = true) (hb : PH p b') :
    Rel C ρ { h := AE.put s.h n (s.ck, b'), nx := s.nx, ck := s.ck, st := s.st } w := by
  have key : ∀ m vm bm, find (AE.put s.h n (s.ck, b')) m = some (vm, bm) → (m = n ∧ bm = b') ∨ (m ≠ n ∧ find s.h m = some (vm, bm)) := by
    intro m vm bm e
    by_cases hm : m = n
    · subst hm; rw [find_put_same, hf] at e; simp at e; exact .inl ⟨rfl, e.2.symm⟩
    · rw [find_put_other _ _ hm] at e; exact .inr ⟨hm, e⟩
  have bad : ∀ {q : Pl}, ρ n = some q → q.ph = false → False := fun hq hz => by rw [hp] at hq; cases hq; rw [hx] at hz; cases hz
  refine ⟨h.os, h.tape, h.output, h.size, h.out, fun m vm bm e => ?_, fun m q vm bm vq bq pm pq em eq hne hr hpm hpq x1 x2 => ?_, fun m vm bm pm e hr hpm x1 => ?_, h.fresh, h.stp, h.inb, fun n' p' r o hn' hf' => ?_⟩
  · rcases key m vm bm e with ⟨rfl, rfl⟩ | ⟨hm, e'⟩
    · exact ⟨p, hp, .inr ⟨hx, hb⟩⟩
    · exact h.blk m vm bm e'
  · rcases key m vm bm em with ⟨rfl, rfl⟩ | ⟨hm, em'⟩
    · exact (bad hpm x1).elim
    · rcases key q vq bq eq with ⟨rfl, rfl⟩ | ⟨hq, eq'⟩
      · exact (bad hpq x2).elim
      · exact h.sep m q vm bm vq bq pm pq em' eq' hne hr hpm hpq x1 x2
  · rcases key m vm bm e with ⟨rfl, rfl⟩ | ⟨hm, e'⟩
    · exact (bad hpm x1).elim
    · exact h.own m vm bm pm e' hr hpm x1
  · obtain ⟨f1, f2, f3⟩ := h.frz n' p' r o hn' hf'
    refine ⟨f1, f2, fun m vm bm q em hr hq x1 => ?_⟩
    rcases key m vm bm em with ⟨rfl, rfl⟩ | ⟨hm, em'⟩
    · exact (bad hq x1).elim
    · exact f3 m vm bm q em' hr hq x1
/-- a new name for a block of which nothing is there -/
theorem Rel.newPh (h : Rel C ρ s w) {n : Nat} {b' : Bk} {p' : Pl} (hx : p'.ph = true) (hb : PH p' b') (hz : ∀ r, p'.fz r = none := by intro r; rfl) :
    Rel C (upd ρ s.nx p') { h := (s.nx, s.ck, b') :: del s.h n, nx := s.nx + s.st, ck := s.ck, st := s.st } w := by
  have hle : Le ρ (upd ρ s.nx p') := upd_le h.fresh0
  have key : ∀ m vm bm, find ((s.nx, s.ck, b') :: del s.h n) m = some (vm, bm) → (m = s.nx ∧ bm = b') ∨ (m ≠ s.nx ∧ m ≠ n ∧ find s.h m = some (vm, bm)) := by
    intro m vm bm e
    by_cases hm : m = s.nx
    · subst hm; simp [find] at e; exact .inl ⟨rfl, e.2.symm⟩
    · simp only [find, beq_ne (Ne.symm hm), cond_false] at e
      by_cases hn : m = n
      · subst hn; rw [find_del_same] at e; cases e
      · rw [find_del_other _ hn] at e; exact .inr ⟨hm, hn, e⟩
  have old : ∀ m pm, m ≠ s.nx → upd ρ s.nx p' m = some pm → ρ m = some pm := fun m pm hm e => by simpa [upd, hm] using e
  have bad : ∀ {q : Pl}, upd ρ s.nx p' s.nx = some q → q.ph = false → False := fun hq hz => by rw [upd_same] at hq; cases hq; rw [hx] at hz; cases hz
  refine ⟨h.os, h.tape, h.output, h.size, h.out, fun m vm bm e => ?_, fun m q vm bm vq bq pm pq em eq hne hr hpm hpq x1 x2 => ?_, fun m vm bm pm e hr hpm x1 => ?_, fun k => ?_, h.stp, fun m q hq x1 => ?_, fun n' p' r o hn' hf' => ?_⟩
  · rcases key m vm bm e with ⟨rfl, rfl⟩ | ⟨hm, hn, e'⟩
    · exact ⟨p', upd_same _ _, .inr ⟨hx, hb⟩⟩
    · obtain ⟨q, hq, hbr⟩ := h.blk m vm bm e'
      exact ⟨q, hle _ _ hq, hbr.mono hle⟩
  · rcases key m vm bm em with ⟨rfl, rfl⟩ | ⟨hm, hmn, em'⟩
    · exact (bad hpm x1).elim
    · rcases key q vq bq eq with ⟨rfl, rfl⟩ | ⟨hq, hqn, eq'⟩
      · exact (bad hpq x2).elim
      · exact h.sep m q vm bm vq bq pm pq em' eq' hne hr (old m pm hm hpm) (old q pq hq hpq) x1 x2
  · rcases key m vm bm e with ⟨rfl, rfl⟩ | ⟨hm, hn, e'⟩
    · exact (bad hpm x1).elim
    · exact h.own m vm bm pm e' hr (old m pm hm hpm) x1
  · have hp := h.stp
    have : s.nx + s.st + k * s.st ≠ s.nx := by omega
    simp only [upd, if_neg this]
    exact h.fresh1 k
  · by_cases hm : m = s.nx
    · subst hm; exact (bad hq x1).elim
    · exact h.inb m q (old m q hm hq) x1
  · by_cases hn : n' = s.nx
    · subst hn; rw [upd_same] at hn'; cases hn'; rw [hz] at hf'; cases hf'
    obtain ⟨f1, f2, f3⟩ := h.frz n' _ r o (old n' _ hn hn') hf'
    refine ⟨f1, f2, fun m vm bm q em hr hq x1 => ?_⟩
    rcases key m vm bm em with ⟨rfl, rfl⟩ | ⟨hm, _, em'⟩
    · exact (bad hq x1).elim
    · exact f3 m vm bm q em' hr (old m q hm hq) x1
end
end Go.AE

/- Loads, stores, new blocks: what the walk says of them is what the model does. No condition. -/
namespace Go.AE
open Go

/-- What a computation of the model comes to. -/
def RV (C : Cx) (ρ : Map) (s : St) (K : SV → St → Prop) (m : Result Value) : Prop :=
  ∃ v s' ρ' u w', K v s' ∧ m = .ok u w' ∧ Ext s s' ρ ρ' ∧ VR ρ' v u ∧ Rel C ρ' s' w'
theorem RV.same {C : Cx} {ρ : Map} {K : SV → St → Prop} {m : Result Value} {s : St} {w : World} (hR : Rel C ρ s w) {v : SV} {u : Value} (hK : K v s) (hm : m = .ok u w) (hv : VR ρ v u) : RV C ρ s K m :=
  ⟨v, s, ρ, u, w, hK, hm, Ext.refl _ _, hv, hR⟩

theorem cond_t {b : Bool} {x : Prop} (h : cond b x False) : b = true ∧ x := by cases b; exact h.elim; exact ⟨rfl, h⟩
theorem beq_t {m n : Nat} (h : Nat.beq m n = true) : m = n := Nat.eq_of_beq_eq_true h
theorem ble_t {m n : Nat} (h : Nat.ble m n = true) : m ≤ n := Nat.le_of_ble_eq_true h

section
variable {P : Program} {C : Cx} {ρ : Map} {s : St} {w : World} {K : SV → St → Prop}

theorem run_isAgg {t : TypeId} {d : TypeDesc} (h : P.underlying t = some d) (w : World) : (isAgg t).run P w = .ok (isAggT P t) w := by
  unfold isAgg isAggT
  rw [Sem.run_bind, run_underlying h]
  cases d <;> simp [h]
theorem run_sizeOf {t : TypeId} {i : TypeInfo} (h : P.info? t = some i) (w : World) : (sizeOf t).run P w = .ok i.size w := by simp [sizeOf, typeInfo, h]
theorem cellsOf_eq {t : TypeId} {i : TypeInfo} (h : P.info? t = some i) : P.cellsOf t = i.size := by simp [Program.cellsOf, h]
theorem add_eq (b o n : Nat) : (⟨b, o, none⟩ : Addr).add n = ⟨b, o + n, none⟩ := by unfold Addr.add; split <;> simp_all
theorem cell_of {w : World} {g : Nat} {c : Array Value} {e : TypeId} {fr : Nat × Nat} (h : w.heap[g]? = some (.cells c e fr)) (j : Nat) : w.cell? ⟨g, j, none⟩ = c[j]? := cell_of_row w g j c e fr h

theorem LR.sub {c : Array Value} {o : Nat} {cs : List SV} (h : LR ρ c o cs) (i n : Nat) : LR ρ c (o + i) ((cs.drop i).take n) := fun j v e => by
  rw [List.getElem?_take] at e
  split at e
  · rw [List.getElem?_drop] at e
    obtain ⟨u, hu, hv⟩ := h (i + j) v e
    exact ⟨u, by rw [Nat.add_assoc]; exact hu, hv⟩
  · cases e
/-- the real cells of a related row -/
theorem LR.list {c : Array Value} {o : Nat} {cs : List SV} (h : LR ρ c o cs) : ∃ us : List Value, VRs ρ cs us ∧ ∀ (j : Nat) (u : Value), us[j]? = some u → c[o + j]? = some u := by
  have hlen : o + cs.length ≤ c.size ∨ cs.length = 0 := by
    rcases Nat.eq_zero_or_pos cs.length with h0 | h0
    · exact .inr h0
    · obtain ⟨u, hu, _⟩ := h (cs.length - 1) (cs[cs.length - 1]'(by omega)) (List.getElem?_eq_getElem (by omega))
      have := (Array.getElem?_eq_some_iff.1 hu).1
      exact .inl (by omega)
  refine ⟨(List.range cs.length).map fun j => (c[o + j]?).getD undef, VRs.of (by simp) fun j v e => ?_, fun j u e => ?_⟩
  · obtain ⟨u, hu, hv⟩ := h j v e
    have hj : j < cs.length := (List.getElem?_eq_some_iff.1 e).1
    refine ⟨u, ?_, hv⟩
    rw [List.getElem?_map, List.getElem?_range hj]
    simp [hu]
  · rw [List.getElem?_map] at e
    rcases Nat.lt_or_ge j cs.length with hj | hj
    · rw [List.getElem?_range hj] at e
      simp at e
      obtain ⟨v, hv⟩ : ∃ v, cs[j]? = some v := ⟨_, List.getElem?_eq_getElem hj⟩
      obtain ⟨u', hu', _⟩ := h j v hv
      rw [hu'] at e ⊢
      simpa using e
    · rw [List.getElem?_eq_none (by simpa using hj)] at e
      cases e

theorem rd_sound {p : Pl} {bk : Bk} (hb : BR ρ w p bk) {r c n : Nat} {k : List SV → Prop} (h : rd False cond bk r c n k) :
    ∃ (l : List SV) (us : List Value), k l ∧ l.length = n ∧ VRs ρ l us ∧ ∀ (j : Nat) (u : Value), us[j]? = some u → w.cell? ⟨p.blk, p.base + r * p.w + c + j, none⟩ = some u := by
  cases bk with
  | flat d ro cs =>
    obtain ⟨rfl, a, e, fr, h1, _, _, _, h4⟩ := hb
    simp only [rd, listK_eq] at h
    obtain ⟨hl, hk⟩ := cond_t h
    obtain ⟨us, hu, hc⟩ := (h4.sub (r * p.w + c) n).list
    exact ⟨_, us, hk, beq_t hl, hu, fun j u hj => by rw [cell_of h1]; have := hc j u hj; simpa [Nat.add_assoc] using this⟩
  | fam d ro m row =>
    obtain ⟨rfl, a, e, fr, h1, _, _, h4⟩ := hb
    simp only [rd, listK_eq] at h
    obtain ⟨hr, h⟩ := cond_t h
    obtain ⟨hcn, h⟩ := cond_t h
    obtain ⟨hl, hk⟩ := cond_t h
    obtain ⟨us, hu, hc⟩ := ((h4 r (by simpa using hr)).2.2.sub c n).list
    exact ⟨_, us, hk, beq_t hl, hu, fun j u hj => by rw [cell_of h1]; have := hc j u hj; simpa [Nat.add_assoc] using this⟩
  | mapk es => exact hb.elim

theorem rd_ph {p : Pl} {bk : Bk} (hb : PH p bk) {r c n : Nat} {k : List SV → Prop} (h : rd False cond bk r c n k) : False := by
  cases bk with
  | fam d ro m row =>
    obtain ⟨rfl, _⟩ := hb
    simp only [rd] at h
    obtain ⟨hr, _⟩ := cond_t h
    simp at hr
  | _ => exact hb.elim
theorem rd_bx {p : Pl} {bk : Bk} (hb : BX ρ w p bk) {r c n : Nat} {k : List SV → Prop} (h : rd False cond bk r c n k) : BR ρ w p bk := by
  rcases hb with hb | hb
  · exact hb.2
  · exact (rd_ph hb.2 h).elim
theorem aLoad_sound {t : TypeId} {x : SV} {u : Value} (hR : Rel C ρ s w) (hx : VR ρ x u) (h : aLoad False cond P t x s K) : RV C ρ s K ((Instr.loadAt t u).run P w) := by
  cases hx with
  | @ptr b p r c hp =>
    simp only [aLoad] at h
    cases hf : find s.h b with
    | none => rw [hf] at h; exact h.elim
    | some y =>
      obtain ⟨v, bk⟩ := y
      rw [hf] at h
      obtain ⟨q, hq, hb⟩ := hR.blk b v bk hf
      rw [hp] at hq; cases hq
      cases hd : P.underlying t with
      | none => simp only [hd] at h
      | some d =>
        cases hi : P.info? t with
        | none => simp only [hd, hi] at h
        | some i =>
          simp only [hd, hi] at h
          cases hag : isAggT P t with
          | true =>
            rw [hag, cond_true] at h
            obtain ⟨l, us, hk, hl, hv, hc⟩ := rd_sound (rd_bx hb h) h
            refine .same hR hk ?_ (.agg hv)
            have hlu : us.length = i.size := by rw [← hv.length, hl, cellsOf_eq hi]
            have := run_loadCells_list (P := P) w ⟨p.blk, p.base + r * p.w + c, none⟩ us (fun j v e => by rw [add_eq]; exact hc j v e)
            simp [Instr.loadAt, Instr.sureAddr, loadVar, run_isAgg hd, run_sizeOf hi, hag, ← hlu, this]
          | false =>
            rw [hag, cond_false] at h
            obtain ⟨l, us, hk, hl, hv, hc⟩ := rd_sound (rd_bx hb h) h
            obtain ⟨a, rfl⟩ : ∃ a, l = [a] := List.length_eq_one_iff.1 hl
            cases hv with
            | @cons _ u' _ us' ha ht =>
              cases ht
              refine .same hR hk ?_ ha
              have := hc 0 u' rfl
              rw [Nat.add_zero] at this
              simp [Instr.loadAt, Instr.sureAddr, loadVar, run_isAgg hd, hag, this]
  | _ => exact h.elim

/-! ### Stores -/
theorem heap_setCells (b : Nat) : ∀ (vs : List Value) (o : Nat) (w : World) (c : Array Value) (e : TypeId) (fr : Nat × Nat), w.heap[b]? = some (.cells c e fr) →
    ∃ c' : Array Value, (w.setCells b o vs).heap[b]? = some (.cells c' e fr) ∧ c'.size = c.size ∧ (∀ j, j < o ∨ o + vs.length ≤ j → c'[j]? = c[j]?) ∧ (o + vs.length ≤ c.size → ∀ (j : Nat) (v : Value), vs[j]? = some v → c'[o + j]? = some v)
  | [], o, w, c, e, fr, h => ⟨c, h, rfl, fun _ _ => rfl, fun _ j v e => by simp at e⟩
  | v :: vs, o, w, c, e, fr, h => by
    have h1 : (w.setCell ⟨b, o, none⟩ v).heap[b]? = some (.cells (c.setIfInBounds o v) e fr) := by simp [World.setCell, Array.getElem?_modify, h]
    obtain ⟨c', hc, hs, ho, hi⟩ := heap_setCells b vs (o + 1) _ _ e fr h1
    refine ⟨c', hc, by simpa using hs, fun j hj => ?_, fun hle j x hx => ?_⟩
    · rw [ho j (by simp at hj; omega), Array.getElem?_setIfInBounds, if_neg (by simp at hj; omega)]
    · cases j with
      | zero =>
        simp at hx; subst hx
        rw [Nat.add_zero, ho o (by omega), Array.getElem?_setIfInBounds, if_pos rfl, if_pos (by simp at hle; omega)]
      | succ j =>
        have := hi (by simp at hle ⊢; omega) j x (by simpa using hx)
        rwa [show o + (j + 1) = o + 1 + j by omega]
theorem setCells_other (b : Nat) : ∀ (vs : List Value) (o : Nat) (w : World) {r : Nat}, r ≠ b → (w.setCells b o vs).heap[r]? = w.heap[r]?
  | [], _, _, _, _ => rfl
  | v :: vs, o, w, r, h => by
    rw [World.setCells, setCells_other b vs (o + 1) _ h]
    exact heap_setCell_other w ⟨b, o, none⟩ r v h
theorem setCells_rest (b : Nat) : ∀ (vs : List Value) (o : Nat) (w : World), (w.setCells b o vs).heap.size = w.heap.size ∧ (w.setCells b o vs).os = w.os ∧ (w.setCells b o vs).tape = w.tape ∧ (w.setCells b o vs).output = w.output
  | [], _, _ => ⟨rfl, rfl, rfl, rfl⟩
  | v :: vs, o, w => by
    obtain ⟨a, b', c, d⟩ := setCells_rest b vs (o + 1) (w.setCell ⟨b, o, none⟩ v)
    exact ⟨a.trans (World.size_setCell _ _ _), b', c, d⟩
theorem sc_one {v : SV} {u : Value} (h : VR ρ v u) (hs : sc v = true) : u.oneCell' = true := by cases h <;> first | rfl | assumption | (simp [sc] at hs; done) | (rename_i hu; obtain ⟨a, cap, rfl, _⟩ := hu; rfl)
theorem sc_ones {vs : List SV} {us : List Value} (h : VRs ρ vs us) (hs : vs.all sc = true) : ∀ u ∈ us, u.oneCell' = true := by
  intro u hu
  obtain ⟨j, hj, rfl⟩ := List.getElem_of_mem hu
  have hl := h.length
  obtain ⟨u', hu', hv⟩ := h.get (j := j) (v := vs[j]'(by omega)) (List.getElem?_eq_getElem (by omega))
  rw [List.getElem?_eq_getElem hj] at hu'
  simp at hu'; subst hu'
  exact sc_one hv (List.all_eq_true.1 hs _ (List.getElem_mem _))
theorem VR.cellsN {v : SV} {u : Value} (h : VR ρ v u) (hn : nj v = true) : VRs ρ v.cells u.cells.toList := by
  cases h with
  | agg h => simpa [SV.cells, Value.cells] using h
  | junk u => simp [nj] at hn
  | tup h => exact .cons (.tup h) .nil
  | int k n => exact .cons (.int k n) .nil
  | bool b => exact .cons (.bool b) .nil
  | str b => exact .cons (.str b) .nil
  | nilp => exact .cons .nilp .nil
  | ptr r c h => exact .cons (.ptr r c h) .nil
  | nils => exact .cons .nils .nil
  | z0 a => exact .cons (.z0 a) .nil
  | one u h => cases u <;> first | exact .cons (.one _ h) .nil | (simp [Value.oneCell'] at h)
  | sl r len cap x cap' h hl hc hx hs hq => exact .cons (.sl r len cap x cap' h hl hc hx hs hq) .nil
  | sl0 r x a => exact .cons (.sl0 r x a) .nil
  | fn f h1 h2 => exact .cons (.fn f h1 h2) .nil
  | nilf => exact .cons .nilf .nil
  | ifc t h => exact .cons (.ifc t h) .nil
  | nili => exact .cons .nili .nil
  | mp len z u h hu => obtain ⟨a, cap, rfl, _⟩ := id hu; exact .cons (.mp len z _ h hu) .nil
  | nilm => exact .cons .nilm .nil
theorem VR.cells {v : SV} {u : Value} (h : VR ρ v u) (hall : v.cells.all sc = true) : VRs ρ v.cells u.cells.toList :=
  h.cellsN (by cases v <;> first | rfl | (simp [SV.cells, sc] at hall))

theorem sel_eq (b : Bool) (x y : SV) : sel b x y = cond b x y := by
  unfold sel
  split
  · rename_i j m k n
    by_cases h : j = k
    · subst h; cases b <;> simp
    · simp [h]
  · cases b <;> rfl
  · cases b <;> rfl
  · rfl
theorem selL_eq (b : Bool) : ∀ (xs ys : List SV), selL b xs ys = cond b xs ys
  | [], [] => by cases b <;> rfl
  | x :: xs, y :: ys => by simp only [selL, sel_eq, selL_eq b xs ys]; cases b <;> rfl
  | [], _ :: _ => rfl
  | _ :: _, [] => rfl
theorem spliceB_eq (b : Bool) : ∀ (l : List SV) (c : Nat) (vs : List SV), c + vs.length ≤ l.length → spliceB b l c vs = cond b (splice l c vs) l
  | [], c, vs, h => by
    have : vs = [] := by simp at h; exact h.2
    subst this
    cases b <;> simp [spliceB, splice]
  | x :: l, 0, [], h => by cases b <;> simp [spliceB, splice]
  | x :: l, 0, v :: vs, h => by
    simp only [spliceB, sel_eq, spliceB_eq b l 0 vs (by simp at h ⊢; omega)]
    cases b <;> simp [splice]
  | x :: l, c + 1, vs, h => by
    simp only [spliceB, spliceB_eq b l c vs (by simp at h; omega)]
    cases b <;> simp [splice, Nat.add_right_comm c 1]
theorem length_splice {l vs : List SV} {c : Nat} (h : c + vs.length ≤ l.length) : (splice l c vs).length = l.length := by simp [splice]; omega
theorem get_splice {l vs : List SV} {c : Nat} (h : c + vs.length ≤ l.length) (j : Nat) : (splice l c vs)[j]? = if j < c then l[j]? else if j < c + vs.length then vs[j - c]? else l[j]? := by
  unfold splice
  by_cases h1 : j < c
  · rw [if_pos h1, List.append_assoc, List.getElem?_append_left (by simp; omega), List.getElem?_take_of_lt h1]
  · rw [if_neg h1]
    by_cases h2 : j < c + vs.length
    · rw [if_pos h2, List.getElem?_append_left (by simp; omega), List.getElem?_append_right (by simp; omega)]
      simp [Nat.min_eq_left (show c ≤ l.length by omega)]
    · rw [if_neg h2, List.getElem?_append_right (by simp; omega), List.getElem?_drop]
      congr 1
      simp [Nat.min_eq_left (show c ≤ l.length by omega)]
      omega
theorem sc_splice {l vs : List SV} (hl : l.all sc = true) (hv : vs.all sc = true) (c : Nat) : (splice l c vs).all sc = true := by
  rw [List.all_eq_true] at *
  intro x hx
  simp only [splice, List.mem_append] at hx
  rcases hx with (hx | hx) | hx
  · exact hl x (List.mem_of_mem_take hx)
  · exact hv x hx
  · exact hl x (List.mem_of_mem_drop hx)
/-- a row of which a part is written over -/
theorem LR.splice {c c' : Array Value} {o : Nat} {cs : List SV} (h : LR ρ c o cs) {i : Nat} {vs : List SV} {us : List Value} (hi : i + vs.length ≤ cs.length) (hv : VRs ρ vs us)
    (hout : ∀ j, j < o + i ∨ o + i + us.length ≤ j → c'[j]? = c[j]?) (hin : ∀ (j : Nat) (v : Value), us[j]? = some v → c'[o + i + j]? = some v) : LR ρ c' o (AE.splice cs i vs) := fun j v e => by
  have hl := hv.length
  rw [get_splice hi] at e
  split at e
  · obtain ⟨u, hu, hx⟩ := h j v e
    exact ⟨u, by rw [hout _ (.inl (by omega))]; exact hu, hx⟩
  · split at e
    · obtain ⟨u, hu, hx⟩ := hv.get e
      refine ⟨u, ?_, hx⟩
      have := hin _ u hu
      rwa [show o + i + (j - i) = o + j by omega] at this
    · obtain ⟨u, hu, hx⟩ := h j v e
      exact ⟨u, by rw [hout _ (.inr (by omega))]; exact hu, hx⟩

theorem wr_one {p : Pl} {m : Nat} {row : Nat → List SV} {d : Nat} (hb : BR ρ w p (.fam d false m row)) {r c : Nat} {vs : List SV} {us : List Value} (hv : VRs ρ vs us) (hsc : vs.all sc = true) (hr : r < m) (hle : c + vs.length ≤ d) :
    (∀ j, j < us.length → (w.cell? ⟨p.blk, p.base + r * p.w + c + j, none⟩).isSome = true) ∧ (∀ j, w.frozen? ⟨p.blk, j, none⟩ = false) ∧
      BR ρ (w.setCells p.blk (p.base + r * p.w + c) us) p (.fam d false m fun i => spliceB (decide (i = r)) (row i) c vs) := by
  have hl := hv.length
  obtain ⟨rfl, a, e, fr, h1, h2, h3, h4⟩ := hb
  obtain rfl := h3 rfl
  obtain ⟨hrl, hrsc, hrr⟩ := h4 r hr
  have hex : ∀ j, j < us.length → ∃ u, a[p.base + r * p.w + c + j]? = some u := fun j hj => by
    obtain ⟨u, hu, _⟩ := hrr (c + j) _ (List.getElem?_eq_getElem (by omega))
    exact ⟨u, by rw [← hu]; congr 1; omega⟩
  have hbound : 0 < us.length → p.base + r * p.w + c + us.length ≤ a.size := fun h0 => by
    obtain ⟨u, hu⟩ := hex (us.length - 1) (by omega)
    have := (Array.getElem?_eq_some_iff.1 hu).1
    omega
  obtain ⟨c', hc, hs, ho, hi⟩ := heap_setCells p.blk us (p.base + r * p.w + c) w a e (0, 0) h1
  refine ⟨fun j hj => ?_, fun j => frozen_of_row w p.blk j a e h1, rfl, c', e, (0, 0), hc, hs.trans h2, fun _ => rfl, fun i hi' => ?_⟩
  · obtain ⟨u, hu⟩ := hex j hj
    rw [cell_of h1, hu]; rfl
  · obtain ⟨hil, hisc, hir⟩ := h4 i hi'
    dsimp only
    rw [spliceB_eq _ _ _ _ (by omega)]
    by_cases hie : i = r
    · subst hie
      simp only [decide_true, cond_true]
      refine ⟨by rw [length_splice (by omega)]; exact hil, sc_splice hisc hsc _, hir.splice (by omega) hv (fun j hj => ho j (by omega)) (fun j v e => ?_)⟩
      exact hi (hbound (by have : j < us.length := (List.getElem?_eq_some_iff.1 e).1; omega)) j v e
    · simp only [decide_eq_false hie, cond_false]
      refine ⟨hil, hisc, fun j v e => ?_⟩
      obtain ⟨u, hu, hx⟩ := hir j v e
      refine ⟨u, ?_, hx⟩
      rw [ho _ ?_]
      · exact hu
      · have hj : j < p.w := by rw [← hil]; exact (List.getElem?_eq_some_iff.1 e).1
        rcases Nat.lt_or_ge i r with hlt | hge
        · left
          have : (i + 1) * p.w ≤ r * p.w := Nat.mul_le_mul_right _ hlt
          have hm := Nat.succ_mul i p.w
          simp only [Nat.succ_eq_add_one] at hm
          omega
        · right
          have : (r + 1) * p.w ≤ i * p.w := Nat.mul_le_mul_right _ (by omega)
          have hm := Nat.succ_mul r p.w
          simp only [Nat.succ_eq_add_one] at hm
          omega
theorem wr_many {p : Pl} {m : Nat} : ∀ {vs : List SV} {us : List Value} {row : Nat → List SV} {w : World} {r : Nat}, BR ρ w p (.fam 1 false m row) → VRs ρ vs us → vs.all sc = true → r + vs.length ≤ m →
    (∀ j, j < us.length → (w.cell? ⟨p.blk, p.base + r * p.w + j, none⟩).isSome = true) ∧ BR ρ (w.setCells p.blk (p.base + r * p.w) us) p (.fam 1 false m (rowsW row r vs))
  | [], us, row, w, r, hb, hv, hsc, hm => by cases hv; exact ⟨fun j hj => absurd hj (Nat.not_lt_zero _), hb⟩
  | v :: vs, us, row, w, r, hb, hv, hsc, hm => by
    cases hv with
    | @cons _ u _ us h1 h2 =>
      simp only [List.all_cons, Bool.and_eq_true] at hsc
      have hm' : r + (vs.length + 1) ≤ m := hm
      have hw : p.w = 1 := hb.1
      obtain ⟨g1, g2, g3⟩ := wr_one hb (r := r) (c := 0) (VRs.cons h1 VRs.nil) (by simp [hsc.1]) (by omega) (by simp)
      have hcell := g1 0 (by simp)
      obtain ⟨k1, k2⟩ := wr_many (r := r + 1) g3 h2 hsc.2 (by omega)
      refine ⟨fun j hj => ?_, ?_⟩
      · cases j with
        | zero => simpa using hcell
        | succ j =>
          obtain ⟨_, c, e, fr, q1, q2, q3, q4⟩ := hb
          have hj' : j < us.length := by simpa using hj
          have hlen := h2.length
          obtain ⟨y1, y2, y3⟩ := q4 (r + (j + 1)) (by omega)
          cases hrow : row (r + (j + 1)) with
          | nil => rw [hrow] at y1; simp at y1
          | cons x _ =>
            obtain ⟨u', hu', _⟩ := y3 0 x (by rw [hrow]; rfl)
            rw [cell_of q1, show p.base + r * p.w + (j + 1) = p.base + (r + (j + 1)) * 1 + 0 by rw [hw]; omega, hu']; rfl
      · have e1 : p.base + (r + 1) * p.w = p.base + r * p.w + 1 := by rw [hw]; omega
        rw [e1] at k2
        exact k2
theorem wr_sound {p : Pl} {bk : Bk} (hb : BR ρ w p bk) {r c : Nat} {vs : List SV} {us : List Value} (hv : VRs ρ vs us) (hsc : vs.all sc = true) {k : Bk → Prop} (h : wr False cond bk r c vs k) :
    bk.ro = false ∧ (∀ j, j < us.length → (w.cell? ⟨p.blk, p.base + r * p.w + c + j, none⟩).isSome = true) ∧ (∀ j, w.frozen? ⟨p.blk, j, none⟩ = false) ∧
      ∃ bk', k bk' ∧ bk'.ro = false ∧ BR ρ (w.setCells p.blk (p.base + r * p.w + c) us) p bk' := by
  have hl := hv.length
  cases bk with
  | flat d ro cs =>
    obtain ⟨rfl, a, e, fr, h1, h2, h3, h5, h4⟩ := hb
    cases ro with
    | true => exact h.elim
    | false =>
      simp only [wr, listK_eq] at h
      obtain ⟨hle, hk⟩ := cond_t h
      have hle := ble_t hle
      obtain rfl := h3 rfl
      have hex : ∀ j, j < us.length → ∃ u, a[p.base + r * p.w + c + j]? = some u := fun j hj => by
        obtain ⟨u, hu, _⟩ := h4 (r * p.w + c + j) _ (List.getElem?_eq_getElem (by omega))
        exact ⟨u, by rw [← hu]; congr 1; omega⟩
      obtain ⟨c', hc, hs, ho, hi⟩ := heap_setCells p.blk us (p.base + r * p.w + c) w a e (0, 0) h1
      refine ⟨rfl, fun j hj => ?_, fun j => frozen_of_row w p.blk j a e h1, _, hk, rfl, rfl, c', e, (0, 0), hc, hs.trans h2, fun _ => rfl, sc_splice h5 hsc _, ?_⟩
      · obtain ⟨u, hu⟩ := hex j hj
        rw [cell_of h1, hu]; rfl
      · refine h4.splice hle hv (fun j hj => ho j (by omega)) (fun j v e => ?_)
        have hbound : p.base + r * p.w + c + us.length ≤ a.size := by
          rcases Nat.eq_zero_or_pos us.length with h0 | h0
          · have : j < us.length := (List.getElem?_eq_some_iff.1 e).1
            omega
          · obtain ⟨u, hu⟩ := hex (us.length - 1) (by omega)
            have := (Array.getElem?_eq_some_iff.1 hu).1
            omega
        have := hi hbound j v e
        rwa [show p.base + (r * p.w + c) + j = p.base + r * p.w + c + j by omega]
  | fam d ro m row =>
    cases ro with
    | true => exact h.elim
    | false =>
      simp only [wr] at h
      cases hle : Nat.ble (c + vs.length) d with
      | true =>
        rw [hle, cond_true] at h
        obtain ⟨hr, hk⟩ := cond_t h
        obtain ⟨g1, g2, g3⟩ := wr_one hb hv hsc (by simpa using hr) (ble_t hle)
        exact ⟨rfl, g1, g2, _, hk, rfl, g3⟩
      | false =>
        rw [hle, cond_false] at h
        obtain ⟨hd, h'⟩ := cond_t h
        simp only [Bool.and_eq_true] at hd
        have hd1 := beq_t hd.1
        have hc0 := beq_t hd.2
        obtain ⟨hr, hk⟩ := cond_t h'
        clear h h' hd
        subst hd1; subst hc0
        obtain ⟨g1, g3⟩ := wr_many hb hv hsc (by simpa using hr)
        have hb' := hb
        obtain ⟨_, a, e, fr, h1, h2, h3, h4⟩ := hb'
        obtain rfl := h3 rfl
        exact ⟨rfl, fun j hj => by simpa using g1 j hj, fun j => frozen_of_row w p.blk j a e h1, _, hk, rfl, by simpa using g3⟩
  | mapk es => exact hb.elim

theorem wr_ph {p : Pl} {bk : Bk} (hb : PH p bk) {r c : Nat} {vs : List SV} {k : Bk → Prop} (h : wr False cond bk r c vs k) : False := by
  cases bk with
  | fam d ro m row =>
    obtain ⟨rfl, _⟩ := hb
    cases ro with
    | true => exact h.elim
    | false =>
      simp only [wr] at h
      cases hle : Nat.ble (c + vs.length) d with
      | true =>
        rw [hle, cond_true] at h
        obtain ⟨hr, _⟩ := cond_t h
        simp at hr
      | false =>
        rw [hle, cond_false] at h
        obtain ⟨hd, h'⟩ := cond_t h
        simp only [Bool.and_eq_true] at hd
        have hd1 := beq_t hd.1
        have hc0 := beq_t hd.2
        obtain ⟨hr, _⟩ := cond_t h'
        have hlt : ¬ (c + vs.length ≤ d) := fun hz => by rw [Nat.ble_eq_true_of_le hz] at hle; cases hle
        simp only [decide_eq_true_eq] at hr
        omega
  | _ => exact hb.elim
theorem wr_bx {p : Pl} {bk : Bk} (hb : BX ρ w p bk) {r c : Nat} {vs : List SV} {k : Bk → Prop} (h : wr False cond bk r c vs k) : p.ph = false ∧ BR ρ w p bk := by
  rcases hb with hb | hb
  · exact hb
  · exact (wr_ph hb.2 h).elim
theorem aStore_sound {t : TypeId} {x v : SV} {u uv : Value} (hR : Rel C ρ s w) (hx : VR ρ x u) (hv : VR ρ v uv) (h : aStore False cond P t x v s K) :
    ∃ s' w', K (.tup []) s' ∧ (Instr.storeAt t u uv).run P w = .ok () w' ∧ Ext s s' ρ ρ ∧ Rel C ρ s' w' := by
  cases hx with
  | @ptr b p r c hp =>
    simp only [aStore] at h
    cases hf : find s.h b with
    | none => rw [hf] at h; exact h.elim
    | some y =>
      obtain ⟨ver, bk⟩ := y
      rw [hf] at h
      obtain ⟨q, hq, hb⟩ := hR.blk b ver bk hf
      rw [hp] at hq; cases hq
      cases hi : P.info? t with
      | none => simp only [hi] at h
      | some i =>
        simp only [hi] at h
        obtain ⟨hc, h⟩ := cond_t h
        simp only [Bool.and_eq_true] at hc
        obtain ⟨hsz, hsc⟩ := hc
        have hvs := hv.cells hsc
        obtain ⟨hx0, hb⟩ := wr_bx hb h
        obtain ⟨hro, hcell, hfrz, bk', hk, hro', hbr⟩ := wr_sound hb hvs hsc h
        simp only [St.putK_eq] at hk
        have hlen : uv.cells.toList.length = i.size := by rw [← hvs.length]; exact beq_t hsz
        have hst := run_storeCells_cells (P := P) p.blk (p.base + r * p.w + c) uv.cells.toList 0 w (fun j hj => by have := hcell j hj; simpa using this) (fun j _ => by simpa using hfrz _) (sc_ones hvs hsc)
        obtain ⟨e1, e2, e3, e4⟩ := setCells_rest p.blk uv.cells.toList (p.base + r * p.w + c) w
        refine ⟨_, w.setCells p.blk (p.base + r * p.w + c) uv.cells.toList, hk, ?_, Ext.refl _ _, hR.put hf hro hp hx0 hbr hro' (fun r' hr' => setCells_other p.blk _ _ _ hr') e1 e2 e3 e4⟩
        have hsz' : uv.cells.size = i.size := by simpa using hlen
        simp only [Nat.add_zero] at hst
        simp [Instr.storeAt, Instr.sureAddr, storeVar, run_sizeOf hi, hsz', hst]
  | _ => exact h.elim
end
end Go.AE

/- New blocks, structs, places of fields and elements: what the walk says of them is what the model does. No condition. -/
namespace Go.AE
open Go

theorem LR.of {ρ : Map} {l : List SV} {us : List Value} (h : VRs ρ l us) : LR ρ us.toArray 0 l := fun j v e => by
  obtain ⟨u, hu, hv⟩ := h.get e
  exact ⟨u, by simpa using hu, hv⟩

section
variable {P : Program} {C : Cx} {ρ : Map} {s : St} {w : World} {K : SV → St → Prop}

theorem newBk (hR : Rel C ρ s w) (c : Array Value) (e : TypeId) (d : Nat) {w' : World} (hw : w'.heap = w.heap.push (.cells c e)) (ho : w'.os = w.os) (ht : w'.tape = w.tape) (hou : w'.output = w.output)
    (b : Bk) (hb : ∀ (σ : Map), Le ρ σ → BR σ w' { blk := w.heap.size, base := 0, w := d, size := c.size } b) :
    ∃ σ, Ext s { h := [], nx := s.nx + s.st, ck := 0, st := s.st } ρ σ ∧ σ s.nx = some { blk := w.heap.size, base := 0, w := d, size := c.size } ∧ Rel C σ { h := (s.nx, s.ck, b) :: s.h, nx := s.nx + s.st, ck := s.ck, st := s.st } w' :=
  have hle := upd_le hR.fresh0
  ⟨_, upd_ext hR.fresh0 hR.stp rfl rfl, upd_same _ _, hR.new _ hw rfl rfl (hb _ hle) ho ht hou⟩
theorem newFlat (hR : Rel C ρ s w) (c : Array Value) (e : TypeId) (d : Nat) {w' : World} (hw : w'.heap = w.heap.push (.cells c e)) (ho : w'.os = w.os) (ht : w'.tape = w.tape) (hou : w'.output = w.output)
    {l : List SV} (hsc : l.all sc = true) (hl : LR ρ c 0 l) :
    ∃ σ, Ext s { h := [], nx := s.nx + s.st, ck := 0, st := s.st } ρ σ ∧ σ s.nx = some { blk := w.heap.size, base := 0, w := d, size := c.size } ∧ Rel C σ { h := (s.nx, s.ck, .flat d false l) :: s.h, nx := s.nx + s.st, ck := s.ck, st := s.st } w' :=
  newBk hR c e d hw ho ht hou _ fun σ hσ => ⟨rfl, c, e, (0, 0), by rw [hw]; simp, rfl, fun _ => rfl, hsc, hl.mono hσ⟩
theorem newFam (hR : Rel C ρ s w) (c : Array Value) (e : TypeId) (d : Nat) {w' : World} (hw : w'.heap = w.heap.push (.cells c e)) (ho : w'.os = w.os) (ht : w'.tape = w.tape) (hou : w'.output = w.output)
    {n : Nat} {row : Nat → List SV} (hl : ∀ i, i < n → (row i).length = d ∧ (row i).all sc = true ∧ LR ρ c (i * d) (row i)) :
    ∃ σ, Ext s { h := [], nx := s.nx + s.st, ck := 0, st := s.st } ρ σ ∧ σ s.nx = some { blk := w.heap.size, base := 0, w := d, size := c.size } ∧ Rel C σ { h := (s.nx, s.ck, .fam d false n row) :: s.h, nx := s.nx + s.st, ck := s.ck, st := s.st } w' :=
  newBk hR c e d hw ho ht hou _ fun σ hσ => ⟨rfl, c, e, (0, 0), by rw [hw]; simp, rfl, fun _ => rfl, fun i hi => ⟨(hl i hi).1, (hl i hi).2.1, by simpa using (hl i hi).2.2.mono hσ⟩⟩

theorem newPtr (hR : Rel C ρ s w) {l : List SV} {us : List Value} (hsc : l.all sc = true) (hl : VRs ρ l us) (e : TypeId) (d : Nat)
    (h : K (.ptr s.nx 0 0) { h := (s.nx, s.ck, .flat d false l) :: s.h, nx := s.nx + s.st, ck := s.ck, st := s.st }) :
    RV C ρ s K (.ok (.pointer (some ⟨w.heap.size, 0, none⟩)) (w.alloc (.cells us.toArray e))) := by
  obtain ⟨σ, hσ, hn, hR'⟩ := newFlat hR us.toArray e d (w' := w.alloc (.cells us.toArray e)) rfl rfl rfl rfl hsc (LR.of hl)
  exact ⟨_, _, σ, _, _, h, rfl, hσ, by have := VR.ptr 0 0 hn; simpa using this, hR'⟩

theorem aAlloc_sound {t : TypeId} {z : Value} (hR : Rel C ρ s w) (h : aAlloc False P t s K) : RV C ρ s K ((Instr.alloc t true z).run P w) := by
  simp only [aAlloc] at h
  cases hi : P.info? t with
  | none => simp only [hi] at h
  | some i =>
    simp only [hi] at h
    cases hz : i.zero with
    | none => simp only [hz] at h
    | some v =>
      simp only [hz, listK_eq] at h
      obtain ⟨hsc, h⟩ := cond_t h
      have := newPtr hR hsc ((ofN_rel ρ 3 v).cells hsc) t _ (by rw [St.newK_eq] at h; exact h)
      simpa [Instr.alloc, zeroValue, typeInfo, hi, hz, newVar, newRow] using this
theorem aBox_sound {t : TypeId} {v : SV} {u : Value} (hR : Rel C ρ s w) (hv : VR ρ v u) (h : aBox False P t v s K) : RV C ρ s K ((Instr.box t u).run P w) := by
  simp only [aBox, listK_eq] at h
  obtain ⟨hsc, h⟩ := cond_t h
  have := newPtr hR hsc (hv.cells hsc) t _ (by rw [St.newK_eq] at h; exact h)
  simpa [Instr.box, newVar, newRow] using this

/-! ### Structs out of parts -/
inductive VPs (ρ : Map) : List (Nat × SV) → List (Nat × Value) → Prop
  | nil : VPs ρ [] []
  | cons {i v u vs us} (h : VR ρ v u) (t : VPs ρ vs us) : VPs ρ ((i, v) :: vs) ((i, u) :: us)
theorem fold_set (off : Nat) : ∀ (vs : List Value) (k : Nat) (c : Array Value), ((vs.zipIdx k).foldl (fun cs x => cs.setIfInBounds (off + x.2) x.1) c).size = c.size ∧
    ∀ j, off + k + vs.length ≤ c.size → ((vs.zipIdx k).foldl (fun cs x => cs.setIfInBounds (off + x.2) x.1) c)[j]? = if j < off + k then c[j]? else if j < off + k + vs.length then vs[j - (off + k)]? else c[j]?
  | [], k, c => ⟨rfl, fun j _ => by by_cases a : j < off + k <;> simp [a]⟩
  | v :: vs, k, c => by
    obtain ⟨h1, h2⟩ := fold_set off vs (k + 1) (c.setIfInBounds (off + k) v)
    simp only [List.zipIdx_cons, List.foldl_cons]
    refine ⟨by rw [h1]; simp, fun j hj => ?_⟩
    rw [h2 j (by simp at hj ⊢; omega)]
    simp only [List.length_cons] at hj ⊢
    by_cases a : j < off + k
    · rw [if_pos (by omega), if_pos a, Array.getElem?_setIfInBounds, if_neg (by omega)]
    · rw [if_neg a]
      by_cases b : j = off + k
      · subst b
        rw [if_pos (by omega), if_pos (by omega), Array.getElem?_setIfInBounds, if_pos rfl, if_pos (by omega)]
        simp
      · rw [if_neg (by omega)]
        by_cases d : j < off + (k + 1) + vs.length
        · rw [if_pos d, if_pos (by omega)]
          rw [show j - (off + k) = (j - (off + (k + 1))) + 1 by omega]
          simp
        · rw [if_neg d, if_neg (by omega), Array.getElem?_setIfInBounds, if_neg (by omega)]
theorem fill_sound {place place' : Nat → Option (Nat × Nat)} (hp : ∀ i x, place i = some x → place' i = some x) {k : List SV → Prop} : ∀ {ps : List (Nat × SV)} {qs : List (Nat × Value)} {l : List SV} {c : Array Value}, VPs ρ ps qs → VRs ρ l c.toList →
    fillK False place l k ps → ∃ (l' : List SV) (c' : Array Value), k l' ∧ Instr.fill place' c qs = some c' ∧ VRs ρ l' c'.toList
  | _, _, l, c, .nil, hl, h => ⟨l, c, h, rfl, hl⟩
  | _, _, l, c, .cons (i := i) (v := v) (u := u) (us := us) hv ht, hl, h => by
    simp only [fillK] at h
    cases hpl : place i with
    | none => rw [hpl] at h; exact h.elim
    | some x =>
      obtain ⟨off, size⟩ := x
      rw [hpl] at h
      simp only [listK_eq] at h
      obtain ⟨hc, h⟩ := cond_t h
      simp only [Bool.and_eq_true] at hc
      have h1 := beq_t hc.1.2
      have h2 := ble_t hc.2
      have hlen := hl.length
      have hcs := hv.cellsN hc.1.1
      have hlu := hcs.length
      have hsz : u.cells.size = size := by rw [← h1, hlu]; simp
      obtain ⟨g1, g2⟩ := fold_set off u.cells.toList 0 c
      have hcl : l.length = c.size := by simpa using hlen
      have hrel : VRs ρ (splice l off v.cells) ((u.cells.toList.zipIdx 0).foldl (fun cs x => cs.setIfInBounds (off + x.2) x.1) c).toList := by
        refine VRs.of (by rw [length_splice (by omega)]; simp [g1, hcl]) fun j x hx => ?_
        rw [get_splice (by omega)] at hx
        have g := g2 j (by simp; omega)
        simp only [Array.getElem?_toList, g, Nat.add_zero]
        split at hx
        · rename_i a
          rw [if_pos (by omega)]
          have := hl.get hx
          simpa using this
        · rename_i a
          rw [if_neg (by omega)]
          split at hx
          · rename_i b
            rw [if_pos (by omega)]
            have := hcs.get hx
            simpa using this
          · rename_i b
            rw [if_neg (by omega)]
            have := hl.get hx
            simpa using this
      obtain ⟨l', c', e1, e2, e3⟩ := fill_sound hp ht hrel h
      refine ⟨l', c', e1, ?_, e3⟩
      have hz : (u.cells.zipIdx.foldl (fun cs (x : Value × Nat) => cs.setIfInBounds (off + x.2) x.1) c) = (u.cells.toList.zipIdx 0).foldl (fun cs x => cs.setIfInBounds (off + x.2) x.1) c := by
        rw [← Array.foldl_toList]; simp
      simp only [Instr.fill, hp i _ hpl]
      rw [if_neg (by simp [hsz]; omega)]
      rw [← e2]
      congr 1
end
end Go.AE

/- Structs and rows out of parts, fields, elements, slices of slices: what the walk says of them is what the model does. No condition. -/
namespace Go.AE
open Go
section
variable {P : Program} {C : Cx} {ρ : Map} {s : St} {w : World} {K : SV → St → Prop}

theorem run_places (fs : Array Field) (hall : (fs.all fun f => (P.info? f.type).isSome) = true) (w : World) :
    Sem.run P (fs.mapM fun f => do pure (f.offset, ← sizeOf f.type)) w = .ok (fs.map fun f => (f.offset, P.cellsOf f.type)) w := by
  rw [← Array.toArray_toList (xs := fs)]
  simp only [List.mapM_toArray, Sem.run_map]
  have key : ∀ l : List Field, (∀ f ∈ l, (P.info? f.type).isSome = true) → Sem.run P (l.mapM fun f => do pure (f.offset, ← sizeOf f.type)) w = .ok (l.map fun f => (f.offset, P.cellsOf f.type)) w := by
    intro l
    induction l with
    | nil => intro _; rfl
    | cons f l ih =>
      intro h
      obtain ⟨i, hi⟩ := Option.isSome_iff_exists.1 (h f (by simp))
      have := ih (fun g hg => h g (by simp [hg]))
      simp [List.mapM_cons, run_sizeOf hi, cellsOf_eq hi] at this ⊢
      simp [this]
  rw [key fs.toList (fun f hf => by
    have := Array.all_eq_true'.1 hall f (by simpa using hf)
    exact this)]
  simp only [Result.andThen_ok]
  congr 1
  apply Array.ext'
  simp

theorem aBuild_sound {t : TypeId} {ps : List (Nat × SV)} {qs : Array (Nat × Value)} (hR : Rel C ρ s w) (hv : VPs ρ ps qs.toList) (h : aBuild False P t ps s K) : RV C ρ s K ((Instr.build t qs).run P w) := by
  simp only [aBuild] at h
  cases hi : P.info? t with
  | none => simp only [hi] at h
  | some i =>
    simp only [hi] at h
    cases hz : i.zero with
    | none => simp only [hz] at h
    | some z =>
      have hzr : ∀ {l}, l = (ofN 3 z).cells → nj (ofN 3 z) = true → VRs ρ l z.cells.toList := fun e hn => by subst e; exact (ofN_rel ρ 3 z).cellsN hn
      cases hd : P.underlying t with
      | none => simp only [hz, hd] at h
      | some d =>
        cases d with
        | struct fs =>
          simp only [hz, hd, listK_eq] at h
          obtain ⟨hall, h⟩ := cond_t h
          simp only [Bool.and_eq_true] at hall
          obtain ⟨hall, hn⟩ := hall
          have hall : (fs.all fun f => (P.info? f.type).isSome) = true := by simpa using hall
          obtain ⟨l', c', hk, hf, hr⟩ := fill_sound (place' := fun x => (fs.map fun f => (f.offset, P.cellsOf f.type))[x]?) (fun j x e => by
            unfold placeOf at e
            cases hj : fs[j]? with
            | none => simp [hj] at e
            | some f =>
              simp only [hj] at e
              cases hq : P.info? f.type with
              | none => simp [hq] at e
              | some q => simp only [hq] at e; simp [hj, cellsOf_eq hq]; simpa using e) hv (hzr rfl hn) h
          refine .same hR hk ?_ (.aggA hr)
          simp only [Instr.build, zeroValue, typeInfo, Sem.run_bind, run_program, hi, hz, Result.andThen_ok, Sem.run_pure, run_underlying hd, run_places fs hall]
          simp only [hf, Sem.run_pure]
        | array n e =>
          cases hj : P.info? e with
          | none => simp only [hz, hd, hj] at h
          | some j =>
            simp only [hz, hd, hj, listK_eq] at h
            obtain ⟨hn, h⟩ := cond_t h
            obtain ⟨l', c', hk, hf, hr⟩ := fill_sound (place' := fun i => some (i * j.size, j.size)) (fun _ _ e => e) hv (hzr rfl hn) h
            refine .same hR hk ?_ (.aggA hr)
            simp only [Instr.build, zeroValue, typeInfo, Sem.run_bind, run_program, hi, hz, Result.andThen_ok, Sem.run_pure, run_underlying hd, run_sizeOf hj]
            simp only [hf, Sem.run_pure]
        | _ => simp only [hz, hd] at h

theorem repK_eq {R : Type} (z : List SV) : ∀ (n : Nat) (k : List SV → R), repK z n k = k (List.replicate n z).flatten
  | 0, k => by simp [repK]
  | n + 1, k => by simp [repK, repK_eq z n, List.replicate_succ]
theorem VRs.rep {zs : List SV} {us : List Value} (h : VRs ρ zs us) : ∀ n, VRs ρ (List.replicate n zs).flatten (List.replicate n us).flatten
  | 0 => .nil
  | n + 1 => by simpa [List.replicate_succ] using h.append (VRs.rep h n)
theorem get_rep {α : Type} (us : List α) (hs : 0 < us.length) : ∀ (n j : Nat), j < n * us.length → (List.replicate n us).flatten[j]? = us[j % us.length]?
  | 0, j, h => by simp at h
  | n + 1, j, h => by
    simp only [List.replicate_succ, List.flatten_cons]
    rcases Nat.lt_or_ge j us.length with hj | hj
    · rw [List.getElem?_append_left hj, Nat.mod_eq_of_lt hj]
    · rw [List.getElem?_append_right hj, get_rep us hs n (j - us.length) (by rw [Nat.add_mul] at h; omega), Nat.mod_eq_sub_mod hj]
theorem rep_range (z : Array Value) (hs : 0 < z.size) (n : Nat) : ((Array.range (n * z.size)).map (z[· % z.size]!)) = (List.replicate n z.toList).flatten.toArray := by
  apply Array.ext'
  apply List.ext_getElem?
  intro j
  rcases Nat.lt_or_ge j (n * z.size) with hj | hj
  · have hm : j % z.size < z.size := Nat.mod_lt _ hs
    have := get_rep z.toList (by simpa using hs) n j (by simpa using hj)
    simp only [Array.length_toList] at this
    have hjl : j < (List.replicate n z.toList).flatten.length := by simp [List.length_flatten]; omega
    rw [List.getElem?_eq_getElem hjl, List.getElem?_eq_getElem (by simpa using hm)] at this
    simp at this
    simp [this, hj, hm, hjl]
  · rw [List.getElem?_eq_none (by simpa using hj), List.getElem?_eq_none (by simpa using hj)]

theorem aBuildSlice_sound {t : TypeId} {n : Nat} {ps : List (Nat × SV)} {qs : Array (Nat × Value)} (hR : Rel C ρ s w) (hv : VPs ρ ps qs.toList) (h : aBuildSlice False P t n ps s K) :
    RV C ρ s K ((Instr.buildSlice t n qs).run P w) := by
  simp only [aBuildSlice] at h
  cases hd : P.underlying t with
  | none => simp only [hd] at h
  | some d =>
    cases d with
    | slice e =>
      cases hj : P.info? e with
      | none => simp only [hd, hj] at h
      | some j =>
        cases hz : j.zero with
        | none => simp only [hd, hj, hz] at h
        | some z =>
          simp only [hd, hj, hz, repK_eq, listK_eq] at h
          obtain ⟨hc, h⟩ := cond_t h
          simp only [Bool.and_eq_true] at hc
          obtain ⟨⟨⟨⟨hn, h1⟩, h2⟩, h3⟩, h4⟩ := hc
          have h4 := ble_t h4
          have h1 := ble_t h1; have h2 := beq_t h2; have h3 := ble_t h3
          have hzr := (ofN_rel ρ 3 z).cellsN hn
          have hzs : z.cells.size = j.size := by have := hzr.length; simp at this; omega
          obtain ⟨l', c', hk, hf, hr⟩ := fill_sound (place' := fun i => some (i * j.size, j.size)) (c := (List.replicate n z.cells.toList).flatten.toArray) (fun _ _ e => e) hv (by simpa using hzr.rep n) h
          obtain ⟨hsc, hk⟩ := cond_t hk
          simp only [St.newK_eq] at hk
          obtain ⟨σ, hσ, hq, hR'⟩ := newFlat hR c' e (width P 5 e) (w' := w.alloc (.cells c' e)) rfl rfl rfl rfl (l := l') hsc (by have := LR.of hr; simpa using this)
          have hlen : c'.size = n * j.size := by
            have a := hr.length
            have b : ∀ {ps : List (Nat × Value)} {c d : Array Value}, Instr.fill (fun i => some (i * j.size, j.size)) c ps = some d → d.size = c.size := by
              intro ps
              induction ps with
              | nil => intro c d e; simp [Instr.fill] at e; rw [e]
              | cons x ps ih =>
                intro c d e
                simp only [Instr.fill] at e
                split at e
                · cases e
                · rw [ih e]
                  have hz : (x.2.cells.zipIdx.foldl (fun cs (y : Value × Nat) => cs.setIfInBounds (x.1 * j.size + y.2) y.1) c) = (x.2.cells.toList.zipIdx 0).foldl (fun cs y => cs.setIfInBounds (x.1 * j.size + y.2) y.1) c := by
                    rw [← Array.foldl_toList]; simp
                  have := (fold_set (x.1 * j.size) x.2.cells.toList 0 c).1
                  rw [← hz] at this
                  exact this
            rw [b hf]
            simp [hzs, List.length_flatten]
          refine ⟨_, _, σ, .slice (some ⟨w.heap.size, 0, none⟩) n n, _, hk, ?_, hσ, ?_, hR'⟩
          · have hb : ¬ (n * j.size > 2 ^ 24) := by omega
            by_cases h0 : n * j.size = 0
            · have hn0 : n = 0 := by rcases Nat.mul_eq_zero.1 h0 with a | a <;> omega
              subst hn0
              simp at hf
              have hz0 : ∀ f : Nat → Value, (Array.range (0 * j.size)).map f = #[] := fun f => by simp
              simp only [Instr.buildSlice, Sem.run_bind, run_underlying hd, Result.andThen_ok, run_sizeOf hj, if_neg hb, if_pos h0, Sem.run_pure, hz0, hf, newRow, run_newObj]
              rfl
            · have hcells : ((Array.range (n * j.size)).map (z.cells[· % z.cells.size]!)) = (List.replicate n z.cells.toList).flatten.toArray := by
                rw [← hzs]
                exact rep_range z.cells (by omega) n
              simp only [Instr.buildSlice, Sem.run_bind, run_underlying hd, Result.andThen_ok, run_sizeOf hj, if_neg hb, if_neg h0, Sem.run_pure, zeroValue, typeInfo, run_program, hj, hz, hcells, hf, newRow, run_newObj]
              rfl
          · have := VR.sl (ρ := σ) 0 n n true n hq (Nat.le_refl _) (Nat.le_refl _) (fun _ => rfl) ?_ rfl
            · simpa using this
            · simp only [Nat.zero_add, hlen]
              exact Nat.mul_le_mul_left n h4
    | _ => simp only [hd] at h
end
end Go.AE

/- Fields, elements, slices, numbers, strings: what the walk says of them is what the model does. No condition. -/
namespace Go.AE
open Go
section
variable {P : Program} {C : Cx} {ρ : Map} {s : St} {w : World} {K : SV → St → Prop}

theorem aFieldAddr_sound {t : TypeId} {x : SV} {u : Value} {i : Nat} (hR : Rel C ρ s w) (hx : VR ρ x u) (h : aFieldAddr False P t x i s K) : RV C ρ s K ((Instr.fieldAt t u i).run P w) := by
  simp only [aFieldAddr] at h
  cases hd : P.underlying t with
  | none => simp only [hd] at h
  | some d =>
    cases d with
    | struct fs =>
      cases hx with
      | @ptr b p r c hp =>
        simp only [hd] at h
        cases hf : fs[i]? with
        | none => simp only [hf] at h
        | some f =>
          cases hj : P.info? f.type with
          | none => simp only [hf, hj] at h
          | some j =>
            simp only [hf, hj] at h
            obtain ⟨h1, hk⟩ := cond_t h
            have h1 := ble_t h1
            rw [forceN_eq] at hk
            refine .same hR hk ?_ (.ptr r (c + f.offset) hp)
            have hne : ¬ (j.size = 0) := by omega
            simp [Instr.fieldAt, run_underlying hd, hf, Instr.sureAddr, fieldPlace, run_sizeOf hj, hne, add_eq, Nat.add_assoc]
      | _ => simp only [hd] at h
    | _ => simp only [hd] at h

theorem VRs.nthR {l : List SV} {us : List Value} (h : VRs ρ l us) {i : Nat} (hi : i < l.length) : ∃ u, us[i]? = some u ∧ VR ρ (AE.nth l i) u := by
  obtain ⟨u, hu, hv⟩ := h.get (List.getElem?_eq_getElem hi)
  exact ⟨u, hu, by rw [nth_eq, List.getElem?_eq_getElem hi]; exact hv⟩
theorem run_part_agg {t : TypeId} {d : TypeDesc} {j : TypeInfo} (hd : P.underlying t = some d) (hj : P.info? t = some j) (ha : isAggT P t = true) (cs : Array Value) (o : Nat) (w : World) :
    (part t cs o).run P w = .ok (.agg (cs.extract o (o + j.size))) w := by
  simp [part, run_isAgg hd, ha, run_sizeOf hj]
theorem run_part_one {t : TypeId} {d : TypeDesc} (hd : P.underlying t = some d) (ha : isAggT P t = false) (cs : Array Value) {o : Nat} {u : Value} (hu : cs[o]? = some u) (w : World) :
    (part t cs o).run P w = .ok u w := by
  simp [part, run_isAgg hd, ha, hu]
theorem extract_rel {l : List SV} {us : List Value} (h : VRs ρ l us) (o n : Nat) : VR ρ (.agg ((l.drop o).take n)) (.agg (us.toArray.extract o (o + n))) := by
  refine .aggA ?_
  have := (h.drop o).take n
  simpa [List.extract_eq_take_drop] using this

theorem aField_sound {t : TypeId} {x : SV} {u : Value} {i : Nat} (hR : Rel C ρ s w) (hx : VR ρ x u) (h : aField False P t x i s K) : RV C ρ s K ((Instr.field t u i).run P w) := by
  simp only [aField] at h
  cases hd : P.underlying t with
  | none => simp only [hd] at h
  | some d =>
    cases d with
    | struct fs =>
      cases hx with
      | agg hv =>
        simp only [hd] at h
        cases hf : fs[i]? with
        | none => simp only [hf] at h
        | some f =>
          cases hq : P.underlying f.type with
          | none => simp only [hf, hq] at h
          | some q =>
            cases hj : P.info? f.type with
            | none => simp only [hf, hq, hj] at h
            | some j =>
              simp only [hf, hq, hj] at h
              cases ha : isAggT P f.type with
              | true =>
                rw [ha, cond_true, listK_eq] at h
                refine .same hR h ?_ (extract_rel hv _ _)
                simp [Instr.field, run_underlying hd, hf, asAgg, run_part_agg hq hj ha]
              | false =>
                rw [ha, cond_false] at h
                obtain ⟨hl, hk⟩ := cond_t h
                obtain ⟨u, hu, hr⟩ := hv.nthR (i := f.offset) (by simpa [Nat.blt_eq] using hl)
                refine .same hR hk ?_ hr
                simp only [Instr.field, run_underlying hd, hf, asAgg, Sem.run_bind, Sem.run_pure, Result.andThen_ok]
                exact run_part_one hq ha _ (by simpa using hu) w
      | _ => simp only [hd] at h
    | _ => simp only [hd] at h

theorem at_sound {b r c e n : Nat} {p : Pl} {k : SV → St → Prop} (hR : Rel C ρ s w) (hp : ρ b = some p) (h : atK False s b r c e n k) :
    ∃ v, k v s ∧ VR ρ v (.pointer (some ⟨p.blk, p.base + r * p.w + c + n * e, none⟩)) := by
  unfold atK at h
  cases hf : find s.h b with
  | none => simp only [hf] at h
  | some y =>
    obtain ⟨ver, bk⟩ := y
    simp only [hf, forceN_eq] at h
    obtain ⟨q, hq, hb⟩ := hR.blk b ver bk hf
    rw [hp] at hq; cases hq
    have hw := hb.wd
    cases hc : (Nat.beq (e % bk.wd) 0 && Nat.ble 1 bk.wd) with
    | true =>
      rw [hc, cond_true] at h
      simp only [Bool.and_eq_true] at hc
      have h0 := beq_t hc.1
      have he : e / bk.wd * bk.wd = e := Nat.div_mul_cancel (Nat.dvd_of_mod_eq_zero h0)
      refine ⟨_, h, ?_⟩
      have := VR.ptr (ρ := ρ) (r + n * (e / bk.wd)) c hp
      rw [hw] at this
      have hm : (r + n * (e / bk.wd)) * bk.wd = r * bk.wd + n * e := by rw [Nat.add_mul, Nat.mul_assoc, he]
      rw [hm] at this
      rw [hw, show p.base + r * bk.wd + c + n * e = p.base + (r * bk.wd + n * e) + c by omega]
      exact this
    | false =>
      rw [hc, cond_false] at h
      refine ⟨_, h, ?_⟩
      have := VR.ptr (ρ := ρ) r (c + n * e) hp
      rwa [show p.base + r * p.w + c + n * e = p.base + r * p.w + (c + n * e) by omega]

theorem aIndexAddr_sound {t : TypeId} {x i : SV} {u ui : Value} (hR : Rel C ρ s w) (hx : VR ρ x u) (hi : VR ρ i ui) (h : aIndexAddr False cond P t x i s K) : RV C ρ s K ((Instr.indexAt t u ui).run P w) := by
  simp only [aIndexAddr] at h
  cases hd : P.underlying t with
  | none => simp only [hd] at h
  | some d =>
    cases d with
    | array len e =>
      cases hx with
      | @ptr b p r c hp =>
        cases hi with
        | int k n =>
          simp only [hd] at h
          cases hj : P.info? e with
          | none => simp only [hj] at h
          | some j =>
            simp only [hj] at h
            obtain ⟨hc, h⟩ := cond_t h
            simp only [Bool.and_eq_true, decide_eq_true_eq] at hc
            obtain ⟨v, hk, hv⟩ := at_sound hR hp h
            refine .same hR hk ?_ hv
            simp [Instr.indexAt, asIntOf, run_underlying hd, Instr.sureAddr, hc, run_sizeOf hj, add_eq]
        | _ => simp only [hd] at h
      | _ => simp only [hd] at h
    | slice e =>
      cases hi with
      | int k n =>
        cases hx with
        | @sl b p r len cap x cap' hp hl hcp hxx hs hph =>
          simp only [hd] at h
          cases hj : P.info? e with
          | none => simp only [hj] at h
          | some j =>
            simp only [hj] at h
            obtain ⟨hc, h⟩ := cond_t h
            simp only [Bool.and_eq_true, decide_eq_true_eq] at hc
            obtain ⟨v, hk, hv⟩ := at_sound hR hp h
            refine .same hR hk ?_ hv
            simp [Instr.indexAt, asIntOf, run_underlying hd, Instr.sureAddr, hc, run_sizeOf hj, add_eq]
        | @sl0 b r x a =>
          simp only [hd] at h
          cases hj : P.info? e with
          | none => simp only [hj] at h
          | some j =>
            simp only [hj] at h
            obtain ⟨hc, h⟩ := cond_t h
            simp only [Bool.and_eq_true, decide_eq_true_eq] at hc
            omega
        | _ => simp only [hd] at h
      | _ => simp only [hd] at h
    | _ => simp only [hd] at h

theorem byteAt_eq (b : ByteArray) (n : Nat) (h : n < b.size) : b[n]? = some (b[n]'h) ∧ byteAt b n = ((b[n]'h).toNat : Int) := by
  refine ⟨by simp [h], ?_⟩
  unfold byteAt
  have : b.data.toList[n]? = some (b[n]'h) := by
    rw [List.getElem?_eq_getElem (by simpa using h)]
    rfl
  rw [this]
  rfl
theorem aIndex_sound {t : TypeId} {x i : SV} {u ui : Value} (hR : Rel C ρ s w) (hx : VR ρ x u) (hi : VR ρ i ui) (h : aIndex False cond P t x i s K) : RV C ρ s K ((Instr.index t u ui).run P w) := by
  simp only [aIndex] at h
  cases hd : P.underlying t with
  | none => simp only [hd] at h
  | some d =>
    cases d with
    | string =>
      cases hi with
      | int k n =>
        cases hx with
        | str b =>
          simp only [hd] at h
          obtain ⟨hc, hk⟩ := cond_t h
          simp only [Bool.and_eq_true, decide_eq_true_eq] at hc
          obtain ⟨e1, e2⟩ := byteAt_eq b n.toNat (by omega)
          refine .same hR hk ?_ (.int _ _)
          simp [Instr.index, asIntOf, run_underlying hd, hc, e1, e2]
        | _ => simp only [hd] at h
      | _ => simp only [hd] at h
    | array len e =>
      cases hi with
      | int k n =>
        cases hx with
        | @agg cs us hv =>
          simp only [hd] at h
          cases hq : P.underlying e with
          | none => simp only [hq] at h
          | some q =>
            cases hj : P.info? e with
            | none => simp only [hq, hj] at h
            | some j =>
              simp only [hq, hj] at h
              obtain ⟨hc, h⟩ := cond_t h
              simp only [Bool.and_eq_true, decide_eq_true_eq] at hc
              cases ha : isAggT P e with
              | true =>
                rw [ha, cond_true, listK_eq] at h
                refine .same hR h ?_ (extract_rel hv _ _)
                simp [Instr.index, asIntOf, run_underlying hd, hc, run_sizeOf hj, run_part_agg hq hj ha]
              | false =>
                rw [ha, cond_false] at h
                obtain ⟨hl, hk⟩ := cond_t h
                obtain ⟨u, hu, hr⟩ := hv.nthR (i := n.toNat * j.size) (by simpa [Nat.blt_eq] using hl)
                refine .same hR hk ?_ hr
                have := run_part_one hq ha us.toArray (o := n.toNat * j.size) (by simpa using hu) w
                simp [Instr.index, asIntOf, run_underlying hd, hc, run_sizeOf hj, this]
        | _ => simp only [hd] at h
      | _ => simp only [hd] at h
    | _ => simp only [hd] at h

theorem aExtract_sound {x : SV} {u : Value} {i : Nat} (hR : Rel C ρ s w) (hx : VR ρ x u) (h : aExtract False x i s K) : RV C ρ s K ((Instr.extract u i).run P w) := by
  cases hx with
  | tup hv =>
    simp only [aExtract] at h
    obtain ⟨hl, hk⟩ := cond_t h
    obtain ⟨u, hu, hr⟩ := hv.nthR (i := i) (by simpa [Nat.blt_eq] using hl)
    refine .same hR hk ?_ hr
    simp [Instr.extract, hu]
  | _ => exact h.elim
end
end Go.AE

/- Slices of slices, numbers, comparisons, conversions: what the walk says of them is what the model does. No condition. -/
namespace Go.AE
open Go
section
variable {P : Program} {C : Cx} {ρ : Map} {s : St} {w : World} {K : SV → St → Prop}

inductive VO (ρ : Map) : Option SV → Option Value → Prop
  | none : VO ρ none none
  | some {v u} (h : VR ρ v u) : VO ρ (some v) (some u)
theorem natOf_sound {x : Option SV} {u : Option Value} {d : Nat} {k : Nat → Prop} (hx : VO ρ x u) (h : natOf False cond x d k) :
    ∃ n, k n ∧ ((u = none ∧ n = d) ∨ ∃ i, u = some (.int i n)) := by
  cases hx with
  | none => exact ⟨d, h, .inl ⟨rfl, rfl⟩⟩
  | some hv =>
    cases hv with
    | int i n =>
      simp only [natOf] at h
      obtain ⟨hn, hk⟩ := cond_t h
      simp only [decide_eq_true_eq] at hn
      exact ⟨n.toNat, hk, .inr ⟨i, by rw [Int.toNat_of_nonneg hn]⟩⟩
    | _ => exact h.elim
theorem run_sliceBound {i : IntKind} {n y : Nat} (h : n ≤ y) (c : BoundsCode) (w : World) : (Instr.sliceBound (.int i n) y c).run P w = .ok n w := by
  have : (n : Int) ≤ (y : Int) := by omega
  simp [Instr.sliceBound, asIntOf, this]
theorem run_sliceBounds {isS : Bool} {len cap : Nat} {lo hi mx : Option Value} {l h m : Nat} (w : World)
    (hl : (lo = none ∧ l = 0) ∨ ∃ i, lo = some (.int i l)) (hh : (hi = none ∧ h = len ∧ mx = none) ∨ ∃ i, hi = some (.int i h)) (hm : (mx = none ∧ m = cap) ∨ ∃ i, mx = some (.int i m))
    (h1 : l ≤ h) (h2 : h ≤ m) (h3 : m ≤ cap) : (Instr.sliceBounds isS len cap lo hi mx).run P w = .ok (l, h, m) w := by
  unfold Instr.sliceBounds
  rcases hm with ⟨rfl, rfl⟩ | ⟨i, rfl⟩
  · rcases hh with ⟨rfl, rfl, _⟩ | ⟨j, rfl⟩
    · rcases hl with ⟨rfl, rfl⟩ | ⟨q, rfl⟩
      · simp
      · simp [run_sliceBound h1]
    · rcases hl with ⟨rfl, rfl⟩ | ⟨q, rfl⟩
      · cases isS <;> simp [run_sliceBound h2]
      · cases isS <;> simp [run_sliceBound h2, run_sliceBound h1]
  · rcases hh with ⟨rfl, rfl, hn⟩ | ⟨j, rfl⟩
    · cases hn
    · rcases hl with ⟨rfl, rfl⟩ | ⟨q, rfl⟩
      · cases isS <;> simp [run_sliceBound h2, run_sliceBound h3]
      · cases isS <;> simp [run_sliceBound h2, run_sliceBound h1, run_sliceBound h3]

theorem aSlice_sound {t : TypeId} {x : SV} {u : Value} {lo hi mx : Option SV} {ul uh um : Option Value} (hR : Rel C ρ s w) (hx : VR ρ x u) (hl : VO ρ lo ul) (hh : VO ρ hi uh) (hm : VO ρ mx um)
    (h : aSlice False cond P t x lo hi mx s K) (hsh : um = none ∨ uh ≠ none) : RV C ρ s K ((Instr.sliceAt t u ul uh um).run P w) := by
  simp only [aSlice] at h
  cases hd : P.underlying t with
  | none => simp only [hd] at h
  | some d =>
    cases d with
    | string =>
      cases hx with
      | str b =>
        cases hm with
        | none =>
          simp only [hd] at h
          obtain ⟨l, h, hl'⟩ := natOf_sound hl h
          obtain ⟨h', h, hh'⟩ := natOf_sound hh h
          obtain ⟨hc, hk⟩ := cond_t h
          simp only [Bool.and_eq_true, decide_eq_true_eq] at hc
          refine .same hR hk ?_ (.str _)
          have := run_sliceBounds (P := P) (isS := false) (len := b.size) (cap := b.size) w hl' (hh'.imp (fun a => ⟨a.1, a.2, rfl⟩) id) (.inl ⟨rfl, rfl⟩) hc.1 hc.2 (Nat.le_refl _)
          simp [Instr.sliceAt, Instr.slice, run_underlying hd, this]
        | some _ => simp only [hd] at h
      | _ => simp only [hd] at h
    | slice e =>
      cases hj : P.info? e with
      | none => cases hx <;> simp only [hd, hj] at h
      | some j =>
        have h : aSlice False cond P t x lo hi mx s K := by simp only [aSlice]; exact h
        have key : ∀ {b : Nat} {p : Pl} {r len cap : Nat} {x : Bool} {cap' : Nat} {a : Option Addr}, ρ b = some p → VR ρ (.sl b r len cap x) (.slice a len cap') → (cap' ≠ 0 → a = some ⟨p.blk, p.base + r * p.w, none⟩) → cap ≤ cap' → (x = true → cap' = cap) → (cap' ≠ 0 → p.base + (r + cap') * p.w ≤ p.size) → (cap' ≠ 0 → p.ph = false) →
            aSlice False cond P t (.sl b r len cap x) lo hi mx s K → RV C ρ s K ((Instr.sliceAt t (.slice a len cap') ul uh um).run P w) := by
          intro b p r len cap x cap' a hp hv ha hcc hxx hss hph h
          simp only [aSlice, hd, hj] at h
          cases hf : find s.h b with
          | none => simp only [hf] at h
          | some y =>
            obtain ⟨ver, bk⟩ := y
            simp only [hf] at h
            obtain ⟨q, hq, hb⟩ := hR.blk b ver bk hf
            rw [hp] at hq; cases hq
            have hw := hb.wd
            obtain ⟨l, h, hl'⟩ := natOf_sound hl h
            obtain ⟨h', h, hh'⟩ := natOf_sound hh h
            obtain ⟨hc, h⟩ := cond_t h
            have he := beq_t hc
            have fin : ∀ (m : Nat) (x' : Bool) (cm : Nat), ((um = none ∧ m = cap') ∨ ∃ i, um = some (.int i m)) → l ≤ h' → h' ≤ cm → cm ≤ m → m ≤ cap' → (x' = true → m = cm) → K (.sl b (r + l) (h' - l) (cm - l) x') s →
                RV C ρ s K ((Instr.sliceAt t (.slice a len cap') ul uh um).run P w) := by
              intro m x' cm hm' g1 g2 g3 g4 g5 hk
              have hrun := run_sliceBounds (P := P) (isS := true) (len := len) (cap := cap') w hl' (hh'.imp (fun a => ⟨a.1, a.2, by rcases hsh with hz | hz; exact hz; exact absurd a.1 hz⟩) id) hm' g1 (by omega : h' ≤ m) g4
              have hrow : (r + l) * p.w = r * p.w + l * j.size := by rw [hw, Nat.add_mul, he]
              by_cases hml : m = l
              · have hcl : cm = l := by omega
                have hhl : h' = l := by omega
                subst hcl; subst hhl
                refine .same hR hk (u := .slice a 0 0) ?_ ?_
                · simp [Instr.sliceAt, Instr.slice, run_underlying hd, hrun, run_sizeOf hj, hml]
                · simp only [Nat.sub_self]
                  exact .sl0 _ _ _
              · have hc0 : cap' ≠ 0 := by omega
                obtain rfl := ha hc0
                refine .same hR hk (u := .slice (some ⟨p.blk, p.base + (r + l) * p.w, none⟩) (h' - l) (m - l)) ?_ ?_
                · simp only [Instr.sliceAt, Instr.slice, run_underlying hd, hrun, run_sizeOf hj, Sem.run_bind, Result.andThen_ok, Sem.run_pure, if_neg hml, Option.map_some]
                  rw [add_eq, hrow, Nat.add_assoc]
                · refine .sl _ _ _ _ _ hp (by omega) (by omega) (fun hx' => by have := g5 hx'; omega) ?_ (hph hc0)
                  have := hss hc0
                  exact Nat.le_trans (Nat.add_le_add_left (Nat.mul_le_mul_right _ (by omega)) _) this
            cases hm with
            | none =>
              simp only at h
              obtain ⟨hc, hk⟩ := cond_t h
              simp only [Bool.and_eq_true, decide_eq_true_eq] at hc
              exact fin cap' x cap (.inl ⟨rfl, rfl⟩) hc.1 hc.2 hcc (Nat.le_refl _) hxx hk
            | some hv' =>
              simp only at h
              obtain ⟨m, h, hm'⟩ := natOf_sound (.some hv') h
              obtain ⟨hc, hk⟩ := cond_t h
              simp only [Bool.and_eq_true, decide_eq_true_eq] at hc
              have hm'' : ∃ i, _ = some (Value.int i m) := hm'.resolve_left (fun a => by cases a.1)
              exact fin m true m (.inr hm'') hc.1.1 hc.1.2 (Nat.le_refl _) (by omega) (fun _ => rfl) hk
        cases hx with
        | @sl b p r len cap x cap' hp hll hcp hxx hs hph => exact key hp (.sl r len cap x cap' hp hll hcp hxx hs hph) (fun _ => rfl) hcp hxx (fun _ => hs) (fun _ => hph) h
        | @sl0 b r x a =>
          have h' := h
          simp only [aSlice, hd, hj] at h'
          cases hf : find s.h b with
          | none => simp only [hf] at h'
          | some y =>
            obtain ⟨ver, bk⟩ := y
            obtain ⟨q, hq, _⟩ := hR.blk b ver bk hf
            exact key hq (.sl0 r x a) (fun hz => absurd rfl hz) (Nat.le_refl _) (fun _ => rfl) (fun hz => absurd rfl hz) (fun hz => absurd rfl hz) h
        | nils =>
          simp only [aSlice, hd, hj] at h
          obtain ⟨l, h, hl'⟩ := natOf_sound hl h
          obtain ⟨h', h, hh'⟩ := natOf_sound hh h
          obtain ⟨m, h, hm'⟩ := natOf_sound hm h
          obtain ⟨hc, hk⟩ := cond_t h
          simp only [Bool.and_eq_true] at hc
          obtain rfl := beq_t hc.1.1
          obtain rfl := beq_t hc.1.2
          obtain rfl := beq_t hc.2
          refine .same hR hk ?_ .nils
          have hrun := run_sliceBounds (P := P) (isS := true) (len := 0) (cap := 0) w hl' (hh'.imp (fun a => ⟨a.1, a.2, by rcases hsh with hz | hz; exact hz; exact absurd a.1 hz⟩) id) hm' (Nat.le_refl _) (Nat.le_refl _) (Nat.le_refl _)
          simp [Instr.sliceAt, Instr.slice, run_underlying hd, hrun, run_sizeOf hj]
        | _ => simp only [aSlice, hd, hj] at h
    | _ => cases hx <;> simp only [hd] at h
end
end Go.AE

/- Numbers, comparisons, conversions: what the walk says of them is what the model does. No condition. -/
namespace Go.AE
open Go
section
variable {P : Program} {C : Cx} {ρ : Map} {s : St} {w : World} {K : SV → St → Prop}

theorem aLen_sound {x : SV} {u : Value} {t ty : TypeId} {tys : Array TypeId} (ht : tys[0]? = some t) (hR : Rel C ρ s w) (hx : VR ρ x u) (h : aLen False P t x s K) : RV C ρ s K ((Builtin.len_ tys ty #[u]).run P w) := by
  simp only [aLen] at h
  cases hd : P.underlying t with
  | none => cases hx <;> simp only [hd] at h
  | some d =>
    cases d <;> cases hx <;> simp only [hd] at h <;> first
      | (rename_i hu; unfold Frz at hu; obtain ⟨a, cap, rfl, _, _⟩ := hu; exact .same hR h (by simp [Builtin.len_, ht, run_underlying hd, goInt]) (.int _ _))
      | exact .same hR h (by simp [Builtin.len_, ht, run_underlying hd, goInt]) (.int _ _)

theorem aUn_sound {op : UnOp} {x : SV} {u : Value} (hR : Rel C ρ s w) (hx : VR ρ x u) (h : aUn False op x s K) : RV C ρ s K ((Op.unary op u).run P w) := by
  cases hx with
  | int k n =>
    cases op with
    | neg => exact .same hR h (by simp [Op.unary, Op.intArith]) (.int _ _)
    | xor => exact .same hR h (by simp only [Op.unary, intBits_xor]; rfl) (.int _ _)
    | _ => exact h.elim
  | bool b =>
    cases op with
    | not => exact .same hR h (by simp [Op.unary]) (.bool _)
    | _ => exact h.elim
  | _ => cases op <;> exact h.elim

/-- Types of structs of which '==' may be asked. -/
def Good (P : Program) (eqt : List TypeId) : Prop := ∀ t ∈ eqt, P.stoodInHeld t = false ∧ P.eqGuardType P.depth t = false ∧ ∀ fs, P.underlying t = some (.struct fs) → ∀ f ∈ fs.toList, f.name ≠ "_"

set_option maxHeartbeats 4000000 in
theorem eq_sound {eqt : List TypeId} (hg : Good P eqt) : ∀ (f : Nat) (t : TypeId) (x y : SV) (u v : Value) (k : Bool → Prop), VR ρ x u → VR ρ y v → eqK False cond P eqt f t x y k →
    ∃ b, k b ∧ ∀ d, f ≤ d → (Op.equalIn d t u v).run P w = .ok b w := by
  intro f
  induction f with
  | zero => intro t x y u v k _ _ h; simp only [eqK] at h
  | succ f ih =>
    intro t x y u v k hx hy h
    have fields : ∀ (gs : List Field), (∀ g ∈ gs, g.name ≠ "_") → ∀ {xs ys : List SV} {us vs : List Value} {k : Bool → Prop}, VRs ρ xs us → VRs ρ ys vs → fieldsK False P (eqK False cond P eqt f) xs ys gs k →
        ∃ b, k b ∧ ∀ d, f ≤ d → (Op.eqFields d us.toArray vs.toArray gs).run P w = .ok b w := by
      intro gs
      induction gs with
      | nil => intro _ xs ys us vs k _ _ h; simp only [fieldsK] at h; exact ⟨true, h, fun d _ => by simp [Op.eqFields]⟩
      | cons g gs ihg =>
        intro hn xs ys us vs k hxs hys h
        have hg1 := hn g (by simp)
        simp only [fieldsK] at h
        cases hq : P.underlying g.type with
        | none => simp only [hq] at h
        | some q =>
          cases hj : P.info? g.type with
          | none => simp only [hq, hj] at h
          | some j =>
            simp only [hq, hj, listK_eq] at h
            cases ha : isAggT P g.type with
            | true =>
              rw [ha, cond_true] at h
              obtain ⟨b, h, hb⟩ := ih _ _ _ _ _ _ (extract_rel hxs _ _) (extract_rel hys _ _) h
              obtain ⟨c, h, hc⟩ := ihg (fun g' hg' => hn g' (by simp [hg'])) hxs hys h
              refine ⟨_, h, fun d hd => ?_⟩
              have hb' := hb d hd
              have hc' := hc d hd
              cases b <;> simp [Op.eqFields, hg1, run_part_agg hq hj ha] <;> simp at hb' hc' ⊢ <;> simp [hb', hc']
            | false =>
              rw [ha, cond_false] at h
              obtain ⟨hl, h⟩ := cond_t h
              simp only [Bool.and_eq_true, Nat.blt_eq] at hl
              obtain ⟨u1, hu1, hr1⟩ := hxs.nthR hl.1
              obtain ⟨v1, hv1, hr2⟩ := hys.nthR hl.2
              obtain ⟨b, h, hb⟩ := ih _ _ _ _ _ _ hr1 hr2 h
              obtain ⟨c, h, hc⟩ := ihg (fun g' hg' => hn g' (by simp [hg'])) hxs hys h
              refine ⟨_, h, fun d hd => ?_⟩
              have p1 := run_part_one (P := P) hq ha us.toArray (o := g.offset) (by simpa using hu1) w
              have p2 := run_part_one (P := P) hq ha vs.toArray (o := g.offset) (by simpa using hv1) w
              have hb' := hb d hd
              have hc' := hc d hd
              cases b <;> simp [Op.eqFields, hg1, p1, p2, hb', hc']
    have dd : ∀ {d : Nat}, f + 1 ≤ d → ∃ e, d = e + 1 ∧ f ≤ e := fun {d} hd => ⟨d - 1, by omega, by omega⟩
    unfold eqK at h
    cases hd : P.underlying t with
    | none => simp only [hd] at h
    | some q =>
      cases q with
      | struct fs =>
        cases hx <;> cases hy <;> simp only [hd] at h
        rename_i xs us hxs ys vs hys
        obtain ⟨ht, h⟩ := cond_t h
        have hmem : t ∈ eqt := by
          obtain ⟨t', h1, h2⟩ := List.any_eq_true.1 ht
          rw [beq_t h2]; exact h1
        obtain ⟨g1, g2, g3⟩ := hg t hmem
        obtain ⟨b, hk, hb⟩ := fields fs.toList (g3 fs hd) hxs hys h
        refine ⟨b, hk, fun d hdd => ?_⟩
        obtain ⟨e, rfl, he⟩ := dd hdd
        have hfs : P.fieldsOf t = fs := by simp [Program.fieldsOf, hd]
        rw [run_equalIn_struct w e t _ _ (by rw [hfs]; exact hd) g1, hfs]
        exact hb e he
      | int kk =>
        cases hx with
        | int i n =>
          cases hy with
          | int j m =>
            simp only [hd] at h
            obtain ⟨hk, h2⟩ := cond_t h
            simp only [decide_eq_true_eq] at hk
            subst hk
            exact ⟨_, h2, fun d hdd => by obtain ⟨e, rfl, he⟩ := dd hdd; simp [Op.equalIn, run_underlying hd]⟩
          | _ => simp only [hd] at h
        | _ => simp only [hd] at h
      | string =>
        cases hx with
        | str a =>
          cases hy with
          | str b =>
            simp only [hd] at h
            exact ⟨_, h, fun d hdd => by obtain ⟨e, rfl, he⟩ := dd hdd; rw [run_equalIn_string w e t _ _ hd]; rfl⟩
          | _ => simp only [hd] at h
        | _ => simp only [hd] at h
      | bool =>
        cases hx with
        | bool a =>
          cases hy with
          | bool b =>
            simp only [hd] at h
            exact ⟨_, h, fun d hdd => by obtain ⟨e, rfl, he⟩ := dd hdd; simp [Op.equalIn, run_underlying hd]⟩
          | _ => simp only [hd] at h
        | _ => simp only [hd] at h
      | pointer _ =>
        cases hx with
        | nilp =>
          cases hy with
          | nilp | ptr => simp only [hd] at h; exact ⟨_, h, fun d hdd => by obtain ⟨e, rfl, he⟩ := dd hdd; simp [Op.equalIn, run_underlying hd]⟩
          | _ => simp only [hd] at h
        | ptr =>
          cases hy with
          | nilp => simp only [hd] at h; exact ⟨_, h, fun d hdd => by obtain ⟨e, rfl, he⟩ := dd hdd; simp [Op.equalIn, run_underlying hd]⟩
          | _ => simp only [hd] at h
        | _ => simp only [hd] at h
      | interface _ =>
        cases hx with
        | nili =>
          cases hy with
          | ifc => simp only [hd] at h; exact ⟨_, h, fun d hdd => by obtain ⟨e, rfl, he⟩ := dd hdd; simp [Op.equalIn, run_underlying hd]⟩
          | _ => simp only [hd] at h
        | ifc =>
          cases hy with
          | nili => simp only [hd] at h; exact ⟨_, h, fun d hdd => by obtain ⟨e, rfl, he⟩ := dd hdd; simp [Op.equalIn, run_underlying hd]⟩
          | _ => simp only [hd] at h
        | _ => simp only [hd] at h
      | slice _ =>
        cases hx with
        | nils =>
          cases hy with
          | nils => simp only [hd] at h; exact ⟨_, h, fun d hdd => by obtain ⟨e, rfl, he⟩ := dd hdd; simp [Op.equalIn, run_underlying hd]⟩
          | sl => simp only [hd] at h; obtain ⟨_, h⟩ := cond_t h; exact ⟨_, h, fun d hdd => by obtain ⟨e, rfl, he⟩ := dd hdd; simp [Op.equalIn, run_underlying hd]⟩
          | sl0 => simp only [hd] at h; obtain ⟨h0, h⟩ := cond_t h; simp at h0
          | _ => simp only [hd] at h
        | sl =>
          cases hy with
          | nils => simp only [hd] at h; obtain ⟨_, h⟩ := cond_t h; exact ⟨_, h, fun d hdd => by obtain ⟨e, rfl, he⟩ := dd hdd; simp [Op.equalIn, run_underlying hd]⟩
          | _ => simp only [hd] at h
        | sl0 =>
          cases hy with
          | nils => simp only [hd] at h; obtain ⟨h0, h⟩ := cond_t h; simp at h0
          | _ => simp only [hd] at h
        | _ => simp only [hd] at h
      | map _ _ =>
        cases hx with
        | nilm =>
          cases hy with
          | nilm => simp only [hd] at h; exact ⟨_, h, fun d hdd => by obtain ⟨e, rfl, he⟩ := dd hdd; simp [Op.equalIn, run_underlying hd]⟩
          | _ => simp only [hd] at h
        | _ => simp only [hd] at h
      | func _ _ _ =>
        cases hx with
        | nilf =>
          cases hy with
          | nilf | fn => simp only [hd] at h; exact ⟨_, h, fun d hdd => by obtain ⟨e, rfl, he⟩ := dd hdd; simp [Op.equalIn, run_underlying hd]⟩
          | _ => simp only [hd] at h
        | fn =>
          cases hy with
          | nilf => simp only [hd] at h; exact ⟨_, h, fun d hdd => by obtain ⟨e, rfl, he⟩ := dd hdd; simp [Op.equalIn, run_underlying hd]⟩
          | _ => simp only [hd] at h
        | _ => simp only [hd] at h
      | _ => simp only [hd] at h

end
end Go.AE

/- '==' and the other operators: what the walk says of them is what the model does. No condition. -/
namespace Go.AE
open Go
section
variable {P : Program} {C : Cx} {ρ : Map} {s : St} {w : World} {K : SV → St → Prop}
def simple : Value → Bool
  | .int _ _ | .float _ _ | .complex _ _ _ | .string _ | .agg _ | .nilIface => false
  | _ => true
theorem guard_simple {u : Value} (hu : simple u = true) (op : BinOp) (t : TypeId) (ox oy : Operand) (v : Value) (w : World) : (eqGuard op t ox oy u v).run P w = .ok () w := by
  cases u <;> simp [simple] at hu <;> cases op <;> simp [eqGuard]
theorem eql_simple {u : Value} (hu : simple u = true) (t : TypeId) (v : Value) (w : World) : (binOp .eql t u v).run P w = ((Op.equalIn 10000 t u v).run P w).andThen fun b w' => .ok (.bool b) w' := by
  cases u <;> simp [simple] at hu <;> simp [binOp, Op.equal, Op.maxDepth]
theorem neq_simple {u : Value} (hu : simple u = true) (t : TypeId) (v : Value) (w : World) : (binOp .neq t u v).run P w = ((Op.equalIn 10000 t u v).run P w).andThen fun b w' => .ok (.bool (!b)) w' := by
  cases u <;> simp [simple] at hu <;> simp [binOp, Op.equal, Op.maxDepth]
theorem eqK_no {eqt : List TypeId} {t : TypeId} {x y : SV} {k : Bool → Prop} (hx : x = .junk ∨ (∃ cs, x = .tup cs) ∨ (∃ i n, x = .int i n ∧ ∀ j m, y ≠ .int j m) ∨ (∃ b, x = .str b ∧ ∀ c, y ≠ .str c) ∨ (∃ cs, x = .agg cs ∧ ∀ ds, y ≠ .agg ds) ∨ (x = .nili ∧ ∀ j v, y ≠ .ifc j v))
    (h : eqK False cond P eqt 8 t x y k) : False := by
  unfold eqK at h
  cases hd : P.underlying t with
  | none => simp only [hd] at h
  | some d =>
    rcases hx with rfl | ⟨_, rfl⟩ | ⟨_, _, rfl, hy⟩ | ⟨_, rfl, hy⟩ | ⟨_, rfl, hy⟩ | ⟨rfl, hy⟩
    · cases d <;> simp only [hd] at h
    · cases d <;> simp only [hd] at h
    · cases y with
      | int j m => exact hy j m rfl
      | _ => cases d <;> simp only [hd] at h
    · cases y with
      | str b => exact hy b rfl
      | _ => cases d <;> simp only [hd] at h
    · cases y with
      | agg b => exact hy b rfl
      | _ => cases d <;> simp only [hd] at h
    · cases y with
      | ifc j v => exact hy j v rfl
      | _ => cases d <;> simp only [hd] at h
theorem eqK_one {eqt : List TypeId} {t : TypeId} {y : SV} {k : Bool → Prop} (h : eqK False cond P eqt 8 t .one y k) : False := by
  unfold eqK at h
  cases hd : P.underlying t with
  | none => simp only [hd] at h
  | some d => cases d <;> simp only [hd] at h
theorem VR.simple {x : SV} {u : Value} (h : VR ρ x u) (h1 : x ≠ .junk) (h2 : ∀ i n, x ≠ .int i n) (h3 : ∀ b, x ≠ .str b) (h4 : ∀ cs, x ≠ .agg cs) (h5 : x ≠ .nili) (h6 : x ≠ .one) : AE.simple u = true := by
  cases h <;> first | rfl | (rename_i hu; unfold Frz at hu; obtain ⟨a, cap, rfl, _⟩ := hu; rfl) | exact absurd rfl h6 | exact absurd rfl h1 | exact absurd rfl (h2 _ _) | exact absurd rfl (h3 _) | exact absurd rfl (h4 _) | exact absurd rfl h5

theorem aEq_sound {eqt : List TypeId} (hg : Good P eqt) (neg : Bool) {t : TypeId} {x y : SV} {u v : Value} {ox oy : Operand} (hR : Rel C ρ s w) (hx : VR ρ x u) (hy : VR ρ y v)
    (hni : ∀ i a j b, ¬ (x = .int i a ∧ y = .int j b)) (hns : ∀ a b, ¬ (x = .str a ∧ y = .str b)) (h : eqK False cond P eqt 8 t x y fun b => K (.bool (if neg then !b else b)) s) :
    RV C ρ s K ((do eqGuard (if neg then .neq else .eql) t ox oy u v; binOp (if neg then .neq else .eql) t u v : Sem Value).run P w) := by
  have fin : (eqGuard (if neg then .neq else .eql) t ox oy u v).run P w = .ok () w →
      (∀ w', (binOp (if neg then .neq else .eql) t u v).run P w' = ((Op.equalIn 10000 t u v).run P w').andThen fun b w' => .ok (.bool (if neg then !b else b)) w') →
      RV C ρ s K ((do eqGuard (if neg then .neq else .eql) t ox oy u v; binOp (if neg then .neq else .eql) t u v : Sem Value).run P w) := by
    intro hgd hb
    obtain ⟨b, hk, hrun⟩ := eq_sound (w := w) hg 8 t x y u v _ hx hy h
    refine .same hR hk ?_ (.bool _)
    rw [Sem.run_bind, hgd, Result.andThen_ok, hb, hrun 10000 (by decide), Result.andThen_ok]
  by_cases hs : AE.simple u = true
  · refine fin (guard_simple hs _ _ _ _ _ _) fun w' => ?_
    cases neg
    · exact eql_simple hs t v w'
    · exact neq_simple hs t v w'
  · cases hx with
    | int i a => exact (eqK_no (.inr (.inr (.inl ⟨i, a, rfl, fun j m e => hni i a j m ⟨rfl, e⟩⟩))) h).elim
    | str a => exact (eqK_no (.inr (.inr (.inr (.inl ⟨a, rfl, fun c e => hns a c ⟨rfl, e⟩⟩)))) h).elim
    | junk u => exact (eqK_no (.inl rfl) h).elim
    | one u h' => exact (eqK_one h).elim
    | nili =>
      cases hy with
      | ifc t' hv =>
        refine fin (by cases neg <;> simp [eqGuard]) fun w' => ?_
        cases neg <;> simp [binOp, Op.equal, Op.maxDepth]
      | _ => exact (eqK_no (.inr (.inr (.inr (.inr (.inr ⟨rfl, by intros; simp⟩))))) h).elim
    | agg hxs =>
      cases hy with
      | agg hys =>
        have ht : P.eqGuardType P.depth t = false := by
          unfold eqK at h
          cases hd : P.underlying t with
          | none => simp only [hd] at h
          | some d =>
            cases d with
            | struct fs =>
              simp only [hd] at h
              obtain ⟨ht, _⟩ := cond_t h
              obtain ⟨t', h1, h2⟩ := List.any_eq_true.1 ht
              obtain rfl := beq_t h2
              exact (hg t h1).2.1
            | _ => simp only [hd] at h
        refine fin (run_eqGuard_agg w _ t ox oy _ _ ht) fun w' => ?_
        cases neg
        · exact run_eql_struct w' t _ _
        · exact run_neq_struct w' t _ _
      | _ => exact (eqK_no (.inr (.inr (.inr (.inr (.inl ⟨_, rfl, by intros; simp⟩))))) h).elim
    | mp _ _ _ _ hu => obtain ⟨a, cap, rfl, _⟩ := hu; exact absurd rfl hs
    | _ => exact absurd rfl hs
end
end Go.AE

/- Operators of two operands; conversions; what is made of a length: what the walk says of them is what the model does. No condition. -/
namespace Go.AE
open Go
section
variable {P : Program} {C : Cx} {ρ : Map} {s : St} {w : World} {K : SV → St → Prop}

theorem aBin_eql {eqt : List TypeId} {t : TypeId} {x y : SV} (hni : ∀ i a j b, ¬ (x = .int i a ∧ y = .int j b)) (hns : ∀ a b, ¬ (x = .str a ∧ y = .str b)) : aBin False cond P eqt .eql t x y s K = eqK False cond P eqt 8 t x y fun b => K (.bool b) s := by
  cases x <;> first
    | rfl
    | (cases y <;> first | rfl | exact absurd ⟨rfl, rfl⟩ (hni _ _ _ _) | exact absurd ⟨rfl, rfl⟩ (hns _ _))
theorem aBin_neq {eqt : List TypeId} {t : TypeId} {x y : SV} (hni : ∀ i a j b, ¬ (x = .int i a ∧ y = .int j b)) (hns : ∀ a b, ¬ (x = .str a ∧ y = .str b)) : aBin False cond P eqt .neq t x y s K = eqK False cond P eqt 8 t x y fun b => K (.bool (!b)) s := by
  cases x <;> first
    | rfl
    | (cases y <;> first | rfl | exact absurd ⟨rfl, rfl⟩ (hni _ _ _ _) | exact absurd ⟨rfl, rfl⟩ (hns _ _))

theorem bin_int {op : BinOp} {t : TypeId} {i j : IntKind} {a b : Int} {ox oy : Operand} {eqt : List TypeId} (hR : Rel C ρ s w) (h : aBin False cond P eqt op t (.int i a) (.int j b) s K) :
    RV C ρ s K ((do eqGuard op t ox oy (.int i a) (.int j b); binOp op t (.int i a) (.int j b) : Sem Value).run P w) := by
  have hgd : (eqGuard op t ox oy (.int i a) (.int j b)).run P w = .ok () w := by cases op <;> simp [eqGuard]
  have fin : ∀ {v : SV} {u : Value}, K v s → (binOp op t (.int i a) (.int j b)).run P w = .ok u w → VR ρ v u → RV C ρ s K ((do eqGuard op t ox oy (.int i a) (.int j b); binOp op t (.int i a) (.int j b) : Sem Value).run P w) := by
    intro v u hk hr hv
    exact .same hR hk (by rw [Sem.run_bind, hgd, Result.andThen_ok, hr]) hv
  cases op <;> simp only [aBin] at h
  case shl =>
    obtain ⟨hc, h⟩ := cond_t h
    simp only [decide_eq_true_eq] at hc
    exact fin h (by have hn : ¬ (b < 0) := by omega
                    simp [binOp, Op.shift, hn]) (.int _ _)
  case shr =>
    obtain ⟨hc, h⟩ := cond_t h
    simp only [decide_eq_true_eq] at hc
    exact fin h (by have hn : ¬ (b < 0) := by omega
                    simp [binOp, Op.shift, hn]) (.int _ _)
  all_goals
    obtain ⟨hk, h2⟩ := cond_t h
    clear h
    simp only [decide_eq_true_eq] at hk
    subst hk
  case add => exact fin h2 (by simp [binOp, Op.intArith]) (.int _ _)
  case sub => exact fin h2 (by simp [binOp, Op.intArith]) (.int _ _)
  case mul => exact fin h2 (by simp [binOp, Op.intArith]) (.int _ _)
  case quo =>
    by_cases hb : b = 0
    · simp [hb] at h2
    · simp only [decide_eq_false hb, cond_false] at h2
      exact fin h2 (by simp [binOp, Op.intDiv, hb]) (.int _ _)
  case rem =>
    by_cases hb : b = 0
    · simp [hb] at h2
    · simp only [decide_eq_false hb, cond_false] at h2
      exact fin h2 (by simp [binOp, Op.intDiv, hb]) (.int _ _)
  case and => exact fin h2 (by simp [binOp, intBits_and]) (.int _ _)
  case or => exact fin h2 (by simp [binOp, intBits_or]) (.int _ _)
  case xor => exact fin h2 (by simp [binOp, intBits_xor]) (.int _ _)
  case andNot => exact fin h2 (by simp [binOp, intBits_andNot]) (.int _ _)
  case eql => exact fin h2 (by simp [binOp, Op.intCmp]; rfl) (.bool _)
  case neq => exact fin h2 (by simp [binOp, Op.intCmp]; rfl) (.bool _)
  case lss => exact fin h2 (by simp [binOp, Op.intCmp]) (.bool _)
  case leq => exact fin h2 (by simp [binOp, Op.intCmp]) (.bool _)
  case gtr => exact fin h2 (by simp [binOp, Op.intCmp]) (.bool _)
  case geq => exact fin h2 (by simp [binOp, Op.intCmp]) (.bool _)
theorem bin_str {op : BinOp} {t : TypeId} {a b : ByteArray} {ox oy : Operand} {eqt : List TypeId} (hR : Rel C ρ s w) (h : aBin False cond P eqt op t (.str a) (.str b) s K) :
    RV C ρ s K ((do eqGuard op t ox oy (.string a) (.string b); binOp op t (.string a) (.string b) : Sem Value).run P w) := by
  have hgd : (eqGuard op t ox oy (.string a) (.string b)).run P w = .ok () w := by cases op <;> simp [eqGuard]
  have fin : ∀ {v : SV} {u : Value}, K v s → (binOp op t (.string a) (.string b)).run P w = .ok u w → VR ρ v u → RV C ρ s K ((do eqGuard op t ox oy (.string a) (.string b); binOp op t (.string a) (.string b) : Sem Value).run P w) := by
    intro v u hk hr hv
    exact .same hR hk (by rw [Sem.run_bind, hgd, Result.andThen_ok, hr]) hv
  cases op <;> simp only [aBin] at h
  case add =>
    obtain ⟨hc, h⟩ := cond_t h
    simp only [decide_eq_true_eq] at hc
    unfold maxLen at hc
    have hm : ¬ (IntKind.i64.max < ((a.size + b.size : Nat) : Int)) := by
      have : IntKind.i64.max = 9223372036854775807 := by decide
      rw [this]
      omega
    exact fin h (by simp only [binOp, Op.stringOp]; rw [if_neg (by exact hm)]; rfl) (.str _)
  case eql => exact fin h (by simp [binOp, Op.stringOp, seqB]) (.bool _)
  case neq => exact fin h (by simp [binOp, Op.stringOp, seqB]) (.bool _)
theorem aBin_sound {eqt : List TypeId} (hg : Good P eqt) {op : BinOp} {t : TypeId} {x y : SV} {u v : Value} {ox oy : Operand} (hR : Rel C ρ s w) (hx : VR ρ x u) (hy : VR ρ y v) (h : aBin False cond P eqt op t x y s K) :
    RV C ρ s K ((do eqGuard op t ox oy u v; binOp op t u v : Sem Value).run P w) := by
  by_cases hi : ∃ i a j b, x = .int i a ∧ y = .int j b
  · obtain ⟨i, a, j, b, rfl, rfl⟩ := hi
    cases hx; cases hy
    exact bin_int hR h
  · by_cases hs : ∃ a b, x = .str a ∧ y = .str b
    · obtain ⟨a, b, rfl, rfl⟩ := hs
      cases hx; cases hy
      exact bin_str hR h
    · have hni : ∀ i a j b, ¬ (x = .int i a ∧ y = .int j b) := fun i a j b e => hi ⟨i, a, j, b, e⟩
      have hns : ∀ a b, ¬ (x = .str a ∧ y = .str b) := fun a b e => hs ⟨a, b, e⟩
      have no : op ≠ .eql → op ≠ .neq → False := by
        intro h1 h2
        cases op <;> first
          | exact h1 rfl
          | exact h2 rfl
          | (cases x <;> first | exact h | (cases y <;> first | exact h | exact hni _ _ _ _ ⟨rfl, rfl⟩ | exact hns _ _ ⟨rfl, rfl⟩))
      by_cases h1 : op = .eql
      · subst h1
        rw [aBin_eql hni hns] at h
        exact aEq_sound hg false hR hx hy hni hns h
      · by_cases h2 : op = .neq
        · subst h2
          rw [aBin_neq hni hns] at h
          exact aEq_sound hg true hR hx hy hni hns h
        · exact (no h1 h2).elim
end
end Go.AE

/- Conversions, least and greatest, what is made of a length: what the walk says of them is what the model does. No condition. -/
namespace Go.AE
open Go
section
variable {P : Program} {C : Cx} {ρ : Map} {s : St} {w : World} {K : SV → St → Prop}

theorem foldl_push (f : Int → UInt8) : ∀ (ns : List Int) (s : ByteArray), ns.foldl (fun r n => r.push (f n)) s = ⟨s.data ++ (ns.map f).toArray⟩
  | [], s => by simp
  | n :: ns, s => by
    simp only [List.foldl_cons, foldl_push f ns]
    congr 1
    apply Array.ext'
    simp [ByteArray.push]
theorem bytesK_sound {k : List UInt8 → Prop} : ∀ {l : List SV} {us : List Value}, VRs ρ l us → bytesK False l k → ∃ ns : List Int, us = ns.map (Value.int .u8) ∧ k (ns.map fun n => UInt8.ofNat n.toNat)
  | _, _, .nil, h => ⟨[], rfl, h⟩
  | _, _, .cons hv ht, h => by
    cases hv with
    | int i n =>
      cases i <;> first | exact h.elim | skip
      simp only [bytesK] at h
      obtain ⟨ns, e, hk⟩ := bytesK_sound (k := fun bs => k (UInt8.ofNat n.toNat :: bs)) ht h
      exact ⟨n :: ns, by simp [e], by simpa using hk⟩
    | _ => exact h.elim
theorem conv_bytes {src dst e : TypeId} {oa : Option Addr} {len cap : Nat} {ns : List Int} (hs : P.underlying src = some (.slice e)) (he : P.underlying e = some (.int .u8)) (hd : P.underlying dst = some .string) (hn : ns.length = len)
    (h0 : 0 < len → ∃ a, oa = some a) (h : ∀ a, oa = some a → ∀ (j : Nat) (u : Value), (ns.map (Value.int .u8))[j]? = some u → w.cell? (a.add j) = some u) :
    (convert src dst (.slice oa len cap)).run P w = .ok (.string ⟨(ns.map fun n => UInt8.ofNat n.toNat).toArray⟩) w := by
  cases oa with
  | none =>
    have hl : len = 0 := by
      rcases Nat.eq_zero_or_pos len with h | h
      · exact h
      · obtain ⟨a, e⟩ := h0 h; cases e
    subst hl
    have : ns = [] := List.length_eq_zero_iff.1 hn
    subst this
    simp [convert, run_underlying hs, run_underlying hd, run_underlying he, Conv.bytesToString]
    try rfl
  | some a =>
  have h := h a rfl
  have hl := run_loadCells_list (P := P) w a (ns.map (Value.int .u8)) h
  rw [List.length_map, hn] at hl
  rw [run_convert_bytes_string w src dst e _ _ _ hs he hd, run_bytesToString w a len cap ns hl, foldl_push]
  simp

theorem aConvert_sound {src dst : TypeId} {x : SV} {u : Value} (hR : Rel C ρ s w) (hx : VR ρ x u) (h : aConvert False cond P src dst x s K) : RV C ρ s K ((convert src dst u).run P w) := by
  have h0 := h
  simp only [aConvert] at h
  cases hs : P.underlying src with
  | none => simp only [hs] at h
  | some ds =>
    cases hd : P.underlying dst with
    | none => cases ds <;> simp only [hs, hd] at h
    | some dd =>
      cases dd with
      | int i =>
        cases hx with
        | int j n =>
          simp only [hs, hd] at h
          exact .same hR h (by cases ds <;> simp [convert, run_underlying hs, run_underlying hd, Conv.intToInt]) (.int _ _)
        | _ => cases ds <;> simp only [hs, hd] at h
      | string =>
        cases ds with
        | string =>
          cases hx with
          | str b => simp only [hs, hd] at h; exact .same hR h (by simp [convert, run_underlying hs, run_underlying hd]) (.str _)
          | _ => simp only [hs, hd] at h
        | slice e =>
          cases he : P.underlying e with
          | none => cases hx <;> simp only [hs, hd, he] at h
          | some de =>
            have key : ∀ {b : Nat} {p : Pl} {r len cap : Nat} {x : Bool} {cap' : Nat} {a : Option Addr}, ρ b = some p → p.ph = false → (0 < len → a = some ⟨p.blk, p.base + r * p.w, none⟩) → aConvert False cond P src dst (.sl b r len cap x) s K → RV C ρ s K ((convert src dst (.slice a len cap')).run P w) := by
              intro b p r len cap x cap' ad hp hph had h
              simp only [aConvert, hs, hd, he] at h
              cases de with
              | int k =>
                cases k with
                | u8 =>
                  cases hf : find s.h b with
                  | none => simp only [hf] at h
                  | some y =>
                    obtain ⟨ver, bk⟩ := y
                    obtain ⟨q, hq, hb⟩ := hR.blk b ver bk hf
                    rw [hp] at hq; cases hq
                    have hb := hb.real hph
                    cases bk with
                    | mapk es => exact hb.elim
                    | flat d ro cs =>
                      obtain ⟨hw, a, e', fr, h1, _, _, _, h4⟩ := hb
                      by_cases hd1 : d = 1
                      · subst hd1
                        simp only [hf, listK_eq] at h
                        obtain ⟨hle, h⟩ := cond_t h
                        have hle := ble_t hle
                        obtain ⟨us, hu, hc⟩ := (h4.sub r len).list
                        obtain ⟨ns, e1, hk⟩ := bytesK_sound hu h
                        subst e1
                        have hlen := hu.length
                        simp only [List.length_take, List.length_drop, List.length_map] at hlen
                        refine .same hR hk (conv_bytes hs he hd (by omega) (fun h0 => ⟨_, had h0⟩) fun a ha j v hj => ?_) (.str _)
                        have hjl : j < len := by have := (List.getElem?_eq_some_iff.1 hj).1; simp at this; omega
                        have hae := had (by omega)
                        rw [ha] at hae; cases hae
                        rw [add_eq, cell_of h1, hw, Nat.mul_one]
                        exact hc j v hj
                      · have : ¬ (d = 1) := hd1
                        rw [hf] at h
                        match d, hd1, h with
                        | 0, _, h => exact h.elim
                        | 1, hd1, _ => exact absurd rfl hd1
                        | _ + 2, _, h => exact h.elim
                    | fam d ro n row =>
                      obtain ⟨hw, a, e', fr, h1, _, _, h4⟩ := hb
                      by_cases hd1 : d = 1
                      · subst hd1
                        simp only [hf] at h
                        obtain ⟨hle, h⟩ := cond_t h
                        obtain ⟨hall, hk⟩ := cond_t h
                        have hle : r + len ≤ n := by simpa using hle
                        have hrow : ∀ i, i < len → ∃ m, row (r + i) = [.int .u8 m] := fun i hi => by
                          have := List.all_eq_true.1 hall i (List.mem_range.2 hi)
                          unfold isByte at this
                          split at this
                          · exact ⟨_, by assumption⟩
                          · cases this
                        let g : Nat → Int := fun i => match row (r + i) with | [.int .u8 m] => m | _ => 0
                        have hg : ∀ i, i < len → row (r + i) = [.int .u8 (g i)] := fun i hi => by
                          obtain ⟨m, hm⟩ := hrow i hi
                          simp only [g, hm]
                        have e1 : ((List.range len).map fun i => byteOf (row (r + i))) = ((List.range len).map g).map fun n => UInt8.ofNat n.toNat := by
                          rw [List.map_map]
                          refine List.map_congr_left fun i hi => ?_
                          rw [hg i (List.mem_range.1 hi)]
                          rfl
                        rw [e1] at hk
                        refine .same hR hk (conv_bytes hs he hd (by simp) (fun h0 => ⟨_, had h0⟩) fun a ha j v hj => ?_) (.str _)
                        rw [List.map_map, List.getElem?_map] at hj
                        rcases Nat.lt_or_ge j len with hjl | hjl
                        · rw [List.getElem?_range hjl] at hj
                          simp at hj; subst hj
                          obtain ⟨hr1, _, hr2⟩ := h4 (r + j) (by omega)
                          obtain ⟨u, hu, hv⟩ := hr2 0 (.int .u8 (g j)) (by rw [hg j hjl]; rfl)
                          cases hv
                          have hae := had (by omega)
                          rw [ha] at hae; cases hae
                          rw [add_eq, cell_of h1, hw, Nat.mul_one]
                          rw [Nat.mul_one, Nat.add_zero] at hu
                          rw [Nat.add_assoc]
                          exact hu
                        · rw [List.getElem?_eq_none (by simpa using hjl)] at hj
                          cases hj
                      · rw [hf] at h
                        match d, hd1, h with
                        | 0, _, h => exact h.elim
                        | 1, hd1, _ => exact absurd rfl hd1
                        | _ + 2, _, h => exact h.elim
                | _ => simp only at h
              | _ => simp only at h
            cases hx with
            | nils =>
              simp only [hs, hd, he] at h
              cases de with
              | int k =>
                cases k <;> simp only at h
                exact .same hR h (by simp [convert, run_underlying hs, run_underlying hd, run_underlying he, Conv.bytesToString]) (.str _)
              | _ => simp only at h
            | @sl b p r len cap x cap' hp hl hcp hxx hss hph => exact key hp hph (fun _ => rfl) h0
            | @sl0 b r x a =>
              have h1 := h0
              simp only [aConvert, hs, hd, he] at h1
              cases de with
              | int k =>
                cases k with
                | u8 =>
                  cases hf : find s.h b with
                  | none => simp only [hf] at h1
                  | some y =>
                    obtain ⟨ver, bk⟩ := y
                    obtain ⟨q, hq, hb⟩ := hR.blk b ver bk hf
                    rcases hb with ⟨hph, _⟩ | ⟨hph, hb⟩
                    · exact key hq hph (fun hz => absurd hz (by omega)) h0
                    · cases bk with
                      | fam d ro n row =>
                        obtain ⟨rfl, hw⟩ := hb
                        rw [hf] at h1
                        match d, h1 with
                        | 0, h1 => exact h1.elim
                        | 1, h1 =>
                          simp only at h1
                          obtain ⟨_, h1⟩ := cond_t h1
                          obtain ⟨_, hk⟩ := cond_t h1
                          refine .same hR hk (conv_bytes (ns := []) hs he hd (by simp) (fun hz => absurd hz (by omega)) fun a ha j v hj => ?_) (.str _)
                          simp at hj
                        | _ + 2, h1 => exact h1.elim
                      | _ => exact hb.elim
                | _ => simp only at h1
              | _ => simp only at h1
            | _ => simp only [hs, hd] at h
        | _ => cases hx <;> simp only [hs, hd] at h
      | _ => cases ds <;> cases hx <;> simp only [hs, hd] at h
end
end Go.AE
