/- Named memory and its walk, part 3: values, operations, that they are what the model does. No condition. -/
import Derived.Test.YtkekeomkbcghnaaE2
set_option linter.unusedVariables false
set_option linter.unusedSimpArgs false
/- A region that draws its order: sets of operations that have run. No condition. -/
namespace Go.AE
open Go

def updV (β : Nat → Value) (i : Nat) (u : Value) : Nat → Value := fun k => if k = i then u else β k
def more (L : Nat → Bool) (i : Nat) : Nat → Bool := fun k => k == i || L k
/-- the frame behind the operations of L, with the values v -/
def frameOf (ops : Array Oper) (a : Act) (v : Nat → Value) (L : Nat → Bool) : Nat → Act
  | 0 => a
  | n + 1 => if L n then (frameOf ops a v L n).put (dstAt ops n) (v n) else frameOf ops a v L n
def cnt (L : Nat → Bool) : Nat → Nat
  | 0 => 0
  | n + 1 => cnt L n + if L n then 0 else 1

section
variable {ops : Array Oper} {a : Act} {v v' : Nat → Value} {L L' : Nat → Bool}

theorem cnt_same {L L' : Nat → Bool} : ∀ n, (∀ k, k < n → L k = L' k) → cnt L n = cnt L' n
  | 0, _ => rfl
  | n + 1, h => by simp only [cnt, cnt_same n (fun k hk => h k (by omega)), h n (by omega)]
theorem more_self (L : Nat → Bool) (i : Nat) : more L i i = true := by simp [more]
theorem more_ne {L : Nat → Bool} {i k : Nat} (h : k ≠ i) : more L i k = L k := by simp [more, h]
theorem more_le {L : Nat → Bool} {i k : Nat} (h : L k = true) : more L i k = true := by simp [more, h]
theorem cnt_more : ∀ {n i : Nat}, i < n → L i = false → cnt (more L i) n + 1 = cnt L n
  | 0, _, h, _ => by omega
  | n + 1, i, h, hi => by
    rcases Nat.lt_or_ge i n with h' | h'
    · have := cnt_more h' hi
      simp only [cnt, more_ne (show n ≠ i by omega)]
      omega
    · obtain rfl : i = n := by omega
      have := cnt_same (L := more L i) (L' := L) i (fun k hk => more_ne (by omega))
      simp only [cnt, more_self, this, hi]
      simp
theorem cnt_zero : ∀ {n : Nat}, cnt L n = 0 → ∀ k, k < n → L k = true
  | 0, _, k, h => by omega
  | n + 1, h, k, hk => by
    simp only [cnt] at h
    by_cases hn : L n = true
    · rcases Nat.lt_or_ge k n with h' | h'
      · exact cnt_zero (by simp [hn] at h; exact h) k h'
      · obtain rfl : k = n := by omega
        exact hn
    · simp [hn] at h

theorem frame_same : ∀ n, (∀ k, k < n → L k = L' k ∧ (L k = true → v k = v' k)) → frameOf ops a v L n = frameOf ops a v' L' n
  | 0, _ => rfl
  | n + 1, h => by
    have hn := h n (by omega)
    simp only [frameOf, frame_same n (fun k hk => h k (by omega)), ← hn.1]
    split
    · rename_i hl; rw [hn.2 hl]
    · rfl
theorem frame_upto (i : Nat) : ∀ n, i ≤ n → frameOf ops a v (fun k => decide (k < i)) n = frameOf ops a v (fun _ => true) i
  | 0, h => by obtain rfl : i = 0 := by omega
               rfl
  | n + 1, h => by
    rcases Nat.lt_or_ge n i with h' | h'
    · obtain rfl : i = n + 1 := by omega
      exact frame_same _ (fun k hk => ⟨by simp; exact hk, fun _ => rfl⟩)
    · have := frame_upto i n h'
      simp only [frameOf, this]
      simp [show ¬ n < i by omega]
theorem frame_more (hd : ∀ i j, i ≠ j → ∀ d, dstAt ops i = some d → dstAt ops j ≠ some d) : ∀ {n i : Nat}, i < n → L i = false →
    frameOf ops a v (more L i) n = (frameOf ops a v L n).put (dstAt ops i) (v i)
  | 0, _, h, _ => by omega
  | n + 1, i, h, hi => by
    rcases Nat.lt_or_ge i n with h' | h'
    · have := frame_more hd h' hi
      simp only [frameOf, more_ne (show n ≠ i by omega), this]
      split
      · exact Act.put_comm _ _ _ (fun d hd' => hd i n (by omega) d hd')
      · rfl
    · obtain rfl : i = n := by omega
      have := frame_same (ops := ops) (a := a) (v := v) (v' := v) (L := more L i) (L' := L) i (fun k hk => ⟨more_ne (by omega), fun _ => rfl⟩)
      simp only [frameOf, more_self, this, hi]
      simp
theorem put_get {a : Act} {d : Option Tmp} {x : Value} {t : Tmp} : (a.put d x).tmps[t]? = if d = some t then (a.tmps[t]?).map (fun _ => x) else a.tmps[t]? := by
  cases d with
  | none => simp [Act.put]
  | some d =>
    simp only [Act.put, Option.some.injEq, Array.getElem?_setIfInBounds]
    by_cases h : d = t
    · subst h
      by_cases hs : d < a.tmps.size <;> simp [hs]
    · simp [h]
theorem put_size {a : Act} {d : Option Tmp} {x : Value} : (a.put d x).tmps.size = a.tmps.size := by cases d <;> simp [Act.put]
theorem put_defs {a : Act} {d : Option Tmp} {x : Value} : (a.put d x).defers = a.defers := by cases d <;> rfl
theorem frame_get {t : Tmp} : ∀ n, (∀ k, k < n → dstAt ops k = some t → L k = L' k) → (frameOf ops a v L n).tmps[t]? = (frameOf ops a v L' n).tmps[t]?
  | 0, _ => rfl
  | n + 1, h => by
    have ih := frame_get n (fun k hk => h k (by omega))
    have hn := h n (by omega)
    simp only [frameOf]
    by_cases hd : dstAt ops n = some t
    · rw [← hn hd]
      split
      · simp only [put_get, ih]
      · exact ih
    · split <;> split <;> simp only [put_get, hd, if_false, ih]
theorem frame_size : ∀ n, (frameOf ops a v L n).tmps.size = a.tmps.size
  | 0 => rfl
  | n + 1 => by simp only [frameOf]; split <;> simp only [put_size, frame_size n]
theorem frame_defs : ∀ n, (frameOf ops a v L n).defers = a.defers
  | 0 => rfl
  | n + 1 => by simp only [frameOf]; split <;> simp only [put_defs, frame_defs n]
end


def closed (ops : Array Oper) (L : Nat → Bool) : Prop := ∀ j o, ops[j]? = some o → L j = true → ∀ k, waitsFor o k = true → L k = true

structure Fits (ops : Array Oper) (i : Nat) (o : Oper) : Prop where
  lt : ∀ k, waitsFor o k = true → k < i
  dst : ∀ j, j ≠ i → ∀ d, o.dst = some d → dstAt ops j ≠ some d
  looks : ∀ j t, dstAt ops j = some t → t ∈ o.looksAt ops → waitsFor o j = true ∨ (j = i ∨ (i < j ∧ ∃ oj, ops[j]? = some oj ∧ waitsFor oj i = true))
theorem fits_spec {ops : Array Oper} (hf : fits ops = true) (i : Nat) (o : Oper) (ho : ops[i]? = some o) : Fits ops i o := by
  have hi : i < ops.size := (Array.getElem?_eq_some_iff.1 ho).1
  simp only [fits, Bool.and_eq_true, List.all_eq_true, List.mem_range] at hf
  have h1 := hf.2 i hi
  simp only [ho, Bool.and_eq_true] at h1
  have key : ∀ j, (j ≠ i → ∀ d, o.dst = some d → dstAt ops j ≠ some d) ∧ ∀ t, dstAt ops j = some t → t ∈ o.looksAt ops → waitsFor o j = true ∨ (j = i ∨ (i < j ∧ ∃ oj, ops[j]? = some oj ∧ waitsFor oj i = true)) := by
    intro j
    rcases Nat.lt_or_ge j ops.size with hj | hj
    · have h2 := h1.2
      rw [List.all_eq_true] at h2
      have h3 := h2 j (List.mem_range.2 hj)
      simp only [Bool.and_eq_true] at h3
      refine ⟨fun hne d hd hdj => ?_, fun t ht hm => ?_⟩
      · simp [hne, hd, hdj] at h3
      · have h4 := h3.2
        simp only [ht, Bool.or_eq_true, Bool.not_eq_true'] at h4
        rcases h4 with h4 | h4 | h4 | h4
        · simp at h4; exact absurd hm h4
        · exact .inl h4
        · exact .inr (.inl (by simpa using h4))
        · simp only [Bool.and_eq_true] at h4
          obtain ⟨h5, h6⟩ := h4
          cases hoj : ops[j]? with
          | none => rw [hoj] at h6; cases h6
          | some oj => rw [hoj] at h6; exact .inr (.inr ⟨by simpa [Nat.blt_eq] using h5, oj, rfl, h6⟩)
    · have : dstAt ops j = none := by simp [dstAt, Array.getElem?_eq_none hj]
      exact ⟨fun _ d _ => by simp [this], fun t ht => by simp [this] at ht⟩
  refine ⟨fun k hk => ?_, fun j => (key j).1, fun j => (key j).2⟩
  obtain ⟨e, he, hb⟩ := Array.any_eq_true'.1 hk
  simp only [Bool.and_eq_true, beq_iff_eq] at hb
  have := Array.all_eq_true_iff_forall_mem.1 h1.1 e he
  simp only [hb.1, Bool.not_true, Bool.false_or, decide_eq_true_eq] at this
  omega

/-- operation i, run in frame x: what is known of it -/
def StepAt (P : Program) (ops : Array Oper) (i : Nat) (o : Oper) (x : Act) (w : World) (R : Value → World → Prop) (Q : Exit → Act → World → Prop) : Prop :=
  ∀ K : Act → World → Prop, (∀ u w', R u w' → K (x.put o.dst u) w') → if Region.wanted o (yielded ops x.tmps) = true then o.wp P x w K Q else K (x.put o.dst undef) w

section
variable {P : Program} {ops : Array Oper} {Q : Exit → Act → World → Prop} (I : (Nat → Value) → (Nat → Bool) → World → Prop)
theorem sets_sound (hf : fits ops = true) {a : Act}
    (step : ∀ i o β L w, ops[i]? = some o → L i = false → closed ops L → (∀ k, waitsFor o k = true → L k = true) → I β L w →
      StepAt P ops i o (frameOf ops a β L ops.size) w (fun u w' => I (updV β i u) (more L i) w') Q)
    (hQ : ∀ β L w, (∀ k, k < ops.size → L k = true) → I β L w → Q .normal (frameOf ops a β (fun _ => true) ops.size) w) :
    ∀ (fuel : Nat) (listed : Array Bool) (x : Act) (w : World) (β : Nat → Value) (L : Nat → Bool), listed.size = ops.size → (∀ k, L k = listed.getD k false) →
      closed ops L → cnt L ops.size = fuel → I β L w → x = frameOf ops a β L ops.size → wpAny P .any ops Q fuel listed x w := by
  have hd : ∀ i j, i ≠ j → ∀ d, dstAt ops i = some d → dstAt ops j ≠ some d := by
    intro i j hne d hdi
    cases ho : ops[i]? with
    | none => simp [dstAt, ho] at hdi
    | some o => exact (fits_spec hf i o ho).dst j (Ne.symm hne) d (by simpa [dstAt, ho] using hdi)
  intro fuel
  induction fuel with
  | zero =>
    intro listed x w β L hsz hL hc hn hS hx
    have hall := cnt_zero hn
    refine ⟨?_, ?_⟩
    · cases hr : Region.ready .any ops listed with
      | nil => rfl
      | cons i is =>
        have hi : i ∈ Region.ready .any ops listed := by rw [hr]; exact List.mem_cons_self
        obtain ⟨h0, o, ho, _⟩ := mem_ready.1 hi
        have hlt : i < ops.size := (Array.getElem?_eq_some_iff.1 ho).1
        have h1 := hall i hlt
        rw [hL] at h1
        simp [hsz, hlt] at h0 h1
        rw [h0] at h1
        cases h1
    · rw [hx, frame_same (v' := β) (L' := fun _ => true) ops.size (fun k hk => ⟨hall k hk, fun _ => rfl⟩)]
      exact hQ β L w hall hS
  | succ fuel ih =>
    intro listed x w β L hsz hL hc hn hS hx
    have hready : ∀ i, i < ops.size → L i = false → (∀ o, ops[i]? = some o → ∀ k, waitsFor o k = true → L k = true) → i ∈ Region.ready .any ops listed := by
      intro i hi hli hw
      refine mem_ready.2 ⟨?_, ops[i], Array.getElem?_eq_some_iff.2 ⟨hi, rfl⟩, fun e he hb => ?_⟩
      · rw [hL] at hli; simp [hsz, hi] at hli ⊢; exact hli
      · rw [← hL]
        exact hw ops[i] (Array.getElem?_eq_some_iff.2 ⟨hi, rfl⟩) e.on (Array.any_eq_true'.2 ⟨e, he, by simp [hb]⟩)
    refine ⟨fun hr => ?_, fun i hi => ?_⟩
    · have hall : ∀ k, k < ops.size → L k = true := by
        intro k
        induction k using Nat.strongRecOn with
        | _ k ihk =>
          intro hk
          by_cases hl : L k = true
          · exact hl
          · have := hready k hk (by simpa using hl) (fun o ho k' hk' => ihk k' ((fits_spec hf k o ho).lt k' hk') (by have := (fits_spec hf k o ho).lt k' hk'; omega))
            rw [hr] at this
            cases this
      have : cnt L ops.size = 0 := by
        have e := cnt_same (L := L) (L' := fun _ => true) ops.size (fun k hk => hall k hk)
        have z : ∀ n, cnt (fun _ => true) n = 0 := fun n => by induction n with
          | zero => rfl
          | succ n ih => simp [cnt, ih]
        rw [e, z]
      omega
    · obtain ⟨h0, o, ho, hafter⟩ := mem_ready.1 hi
      have hlt : i < ops.size := (Array.getElem?_eq_some_iff.1 ho).1
      have hli : L i = false := by rw [hL]; simp [hsz, hlt] at h0 ⊢; exact h0
      have hpre : ∀ k, waitsFor o k = true → L k = true := by
        intro k hk
        obtain ⟨e, he, hb⟩ := Array.any_eq_true'.1 hk
        simp only [Bool.and_eq_true, beq_iff_eq] at hb
        rw [hL, ← hb.2]
        exact hafter e he hb.1
      have hstep := step i o β L w ho hli hc hpre hS
      rw [← hx] at hstep
      have hnext : ∀ u w', I (updV β i u) (more L i) w' → wpAny P .any ops Q fuel (listed.setIfInBounds i true) (x.put o.dst u) w' := by
        intro u w' hS'
        refine ih (listed.setIfInBounds i true) _ w' (updV β i u) (more L i) (by simp [hsz]) (fun k => ?_) (fun j oj hj hlj k hk => ?_) ?_ hS' ?_
        · by_cases hki : k = i
          · subst hki; rw [more_self]; simp [hsz, hlt]
          · rw [more_ne hki, hL, getD_set_ne false (Ne.symm hki)]
        · by_cases hji : j = i
          · subst hji; rw [ho] at hj; cases hj; exact more_le (hpre k hk)
          · rw [more_ne hji] at hlj; exact more_le (hc j oj hj hlj k hk)
        · have := cnt_more hlt hli; omega
        · rw [frame_more hd hlt hli, hx]
          have hdi : dstAt ops i = o.dst := by simp [dstAt, ho]
          have hvi : updV β i u i = u := by simp [updV]
          rw [hdi, hvi]
          refine congrArg (fun q : Act => q.put o.dst _) ?_
          refine frame_same ops.size (fun k hk => ⟨rfl, fun hlk => ?_⟩)
          have hki : k ≠ i := fun e => by subst e; rw [hli] at hlk; cases hlk
          simp [updV, hki]
      have hrun := hstep _ hnext
      unfold wpOp
      rw [ho]
      show if Region.wanted o (yielded ops x.tmps) = true then _ else _
      split
      · rename_i hw
        rw [if_pos hw] at hrun
        exact .inl hrun
      · rename_i hw
        rw [if_neg hw] at hrun
        exact hrun

theorem region_sets {id : Nat} {a : Act} {w : World} (hm : P.follows .mixedOrders = true) (hf : fits ops = true)
    (h0 : I (fun _ => undef) (fun _ => false) w.drew)
    (step : ∀ i o β L w, ops[i]? = some o → L i = false → closed ops L → (∀ k, waitsFor o k = true → L k = true) → I β L w →
      StepAt P ops i o (frameOf ops a β L ops.size) w (fun u w' => I (updV β i u) (more L i) w') Q)
    (hQ : ∀ β L w, (∀ k, k < ops.size → L k = true) → I β L w → Q .normal (frameOf ops a β (fun _ => true) ops.size) w) : (Code.region id ops true).wp P Q a w := by
  refine wp_region_any hm ?_
  refine sets_sound I hf step hQ ops.size _ a w.drew (fun _ => undef) (fun _ => false) (by simp) (fun k => ?_) (fun j o _ hf => by cases hf) ?_ h0 ?_
  · rcases Nat.lt_or_ge k ops.size with hk | hk <;> simp [hk]
  · have z : ∀ n, cnt (fun _ => false) n = n := fun n => by induction n with
      | zero => rfl
      | succ n ih => simp [cnt, ih]
    exact z _
  · have z : ∀ n, frameOf ops a (fun _ => undef) (fun _ => false) n = a := fun n => by induction n with
      | zero => rfl
      | succ n ih => simp [frameOf, ih]
    exact (z _).symm
end
end Go.AE

/- What an operation looks at, and what it leaves as it is. No condition. -/
namespace Go.AE
open Go

section
variable {P : Program} {eqt : List TypeId} {hc : FuncId → List SV → St → (SV → St → Prop) → Prop} {hl : Code → List SV → St → (List SV → St → Prop) → (Nat → List SV → St → Prop) → (List SV → St → Prop) → Prop}

theorem aFold_eq (F : Prop) (f : SV → SV → (SV → Prop) → Prop) (K K' : SV → Prop) (h : K = K') : ∀ (l : List SV) (x : SV), aFold f x l K = aFold f x l K' := by subst h; exact fun _ _ => rfl

/-- an operation that makes and changes nothing: it looks at the blocks alone -/
theorem aop_keep {o : Op} (hk : knd o = .pure ∨ knd o = .read) (t : List SV) (s s' : St) (hs : s.h = s'.h) (K : SV → St → Prop) :
    aop ⟨False, cond, eqt, hc, hl⟩ P t o s K = aop ⟨False, cond, eqt, hc, hl⟩ P t o s' (fun v _ => K v s) := by
  obtain ⟨h, nx, ck, st⟩ := s
  obtain ⟨h', nx', ck', st'⟩ := s'
  dsimp only at hs
  subst hs
  cases o <;> try rfl
  case alloc => rcases hk with h | h <;> cases h
  case box => rcases hk with h | h <;> cases h
  case buildSlice => rcases hk with h | h <;> cases h
  case store => rcases hk with h | h <;> cases h
  case makeSlice => rcases hk with h | h <;> cases h
  case call c =>
    obtain ⟨callee, args, argTypes⟩ := c
    cases callee with
    | value f => rcases hk with h | h <;> cases h
    | invoke r m => rcases hk with h | h <;> cases h
    | builtin b =>
      cases b <;> first | (exfalso; rcases hk with h | h <;> cases h; done) | skip
      case len =>
        simp only [aop, evsK_eq]
        generalize args.toList.map (evS t) = vs
        cases vs with
        | nil => rfl
        | cons x r => cases r with
          | cons _ _ => rfl
          | nil =>
            simp only [aBuiltin]
            cases argTypes.toList with
            | nil => rfl
            | cons e _ =>
              simp only [aLen]
      case max =>
        simp only [aop, evsK_eq]
        generalize args.toList.map (evS t) = vs
        cases vs <;> rfl
      case min =>
        simp only [aop, evsK_eq]
        generalize args.toList.map (evS t) = vs
        cases vs <;> rfl
theorem aop_congr (o : Op) (t t' : List SV) (h : ∀ x ∈ o.operands.toList, evS t x = evS t' x) (s : St) (K : SV → St → Prop) :
    aop ⟨False, cond, eqt, hc, hl⟩ P t o s K = aop ⟨False, cond, eqt, hc, hl⟩ P t' o s K := by
  have maps : ∀ xs : List Operand, (∀ x ∈ xs, x ∈ o.operands.toList) → xs.map (evS t) = xs.map (evS t') := fun xs hx => List.map_congr_left fun x hm => h x (hx x hm)
  have maps2 : ∀ xs : List (Nat × Operand), (∀ x ∈ xs.map (·.2), x ∈ o.operands.toList) → (xs.map fun p => (p.1, evS t p.2)) = xs.map fun p => (p.1, evS t' p.2) := fun xs hx =>
    List.map_congr_left fun p hm => by rw [h p.2 (hx _ (List.mem_map.2 ⟨p, hm, rfl⟩))]
  have opts : ∀ x : Option Operand, (∀ y, x = some y → y ∈ o.operands.toList) → x.map (evS t) = x.map (evS t') := fun x hx => by
    cases x with
    | none => rfl
    | some y => simp [h y (hx y rfl)]
  cases o
  case build e ps => simp only [aop, evpK_eq]; rw [maps2 ps.toList fun x hx => by simpa [Op.operands] using hx]
  case buildSlice e n ps => simp only [aop, evpK_eq]; rw [maps2 ps.toList fun x hx => by simpa [Op.operands] using hx]
  case makeFunc f xs ys =>
    simp only [aop, evsK_eq]
    rw [maps xs.toList fun x hx => by simp only [Op.operands, Array.toList_append, List.mem_append]; exact .inl hx, maps ys.toList fun x hx => by simp only [Op.operands, Array.toList_append, List.mem_append]; exact .inr hx]
  case slice e x lo hi mx =>
    simp only [aop, evK_eq, evoK_eq]
    rw [h x (by simp [Op.operands]), opts lo fun y hy => by simp [Op.operands, hy], opts hi fun y hy => by simp [Op.operands, hy], opts mx fun y hy => by simp [Op.operands, hy]]
  case call c =>
    obtain ⟨callee, args, argTypes⟩ := c
    have ha : args.toList.map (evS t) = args.toList.map (evS t') := maps args.toList fun x hx => by
      simp only [Op.operands, Call.operands, Array.toList_append, List.mem_append]; exact .inr hx
    cases callee with
    | builtin b => simp only [aop, evsK_eq]; rw [ha]
    | invoke r m => rfl
    | value f => simp only [aop, evK_eq, evsK_eq]; rw [ha, h f (by simp [Op.operands, Call.operands])]
  all_goals try rfl
  all_goals (simp only [aop, evK_eq]; simp [Op.operands] at h; simp only [h])
end
end Go.AE

/- A part of named memory: what runs on it leaves the rest as it is. No condition. -/
namespace Go.AE
open Go

/-- Real memory w bears the blocks φ. -/
structure RelF (C : Cx) (ρ : Map) (φ : Nat → Nat × Bk → Prop) (w : World) : Prop where
  os : w.os = C.w0.os
  tape : w.tape = C.w0.tape
  output : w.output = C.w0.output
  size : C.w0.heap.size ≤ w.heap.size
  out : ∀ r, r < C.w0.heap.size → ¬ C.S r → w.heap[r]? = C.w0.heap[r]?
  blk : ∀ n x, φ n x → ∃ p, ρ n = some p ∧ BX ρ w p x.2
  sep : ∀ n m x y p q, φ n x → φ m y → n ≠ m → x.2.ro = false → ρ n = some p → ρ m = some q → p.ph = false → q.ph = false → p.blk ≠ q.blk
  own : ∀ n x p, φ n x → x.2.ro = false → ρ n = some p → p.ph = false → C.S p.blk ∨ C.w0.heap.size ≤ p.blk
  inb : ∀ n p, ρ n = some p → p.ph = false → p.blk < w.heap.size
  frz : ∀ n p r o, ρ n = some p → p.fz r = some o → w.heap[r]? = some o ∧ (C.Z r ∨ C.S r ∨ C.w0.heap.size ≤ r) ∧ ∀ m x q, φ m x → x.2.ro = false → ρ m = some q → q.ph = false → q.blk ≠ r
section
variable {C : Cx} {ρ σ : Map} {φ ψ : Nat → Nat × Bk → Prop} {s : St} {w w' : World}
theorem Rel.part (h : Rel C ρ s w) : RelF C ρ (fun n x => find s.h n = some x) w :=
  ⟨h.os, h.tape, h.output, h.size, h.out, fun n x e => h.blk n x.1 x.2 e, fun n m x y p q e f => h.sep n m x.1 x.2 y.1 y.2 p q e f, fun n x p e => h.own n x.1 x.2 p e, h.inb, fun n p r o hn hf => let ⟨a, b, c⟩ := h.frz n p r o hn hf; ⟨a, b, fun m x q e => c m x.1 x.2 q e⟩⟩
theorem RelF.sub (h : RelF C ρ φ w) (hs : ∀ n x, ψ n x → φ n x) : RelF C ρ ψ w :=
  ⟨h.os, h.tape, h.output, h.size, h.out, fun n x e => h.blk n x (hs n x e), fun n m x y p q e f => h.sep n m x y p q (hs n x e) (hs m y f), fun n x p e => h.own n x p (hs n x e), h.inb, fun n p r o hn hf => let ⟨a, b, c⟩ := h.frz n p r o hn hf; ⟨a, b, fun m x q e => c m x q (hs m x e)⟩⟩
theorem RelF.rel (h : RelF C ρ φ w) (hs : ∀ n x, find s.h n = some x → φ n x) (hf : ∀ q, ρ (s.nx + q * s.st) = none) (hp : 0 < s.st) : Rel C ρ s w :=
  ⟨h.os, h.tape, h.output, h.size, h.out, fun n v b e => h.blk n (v, b) (hs n _ e), fun n m vn bn vm bm p q e f => h.sep n m (vn, bn) (vm, bm) p q (hs n _ e) (hs m _ f), fun n v b p e => h.own n (v, b) p (hs n _ e), hf, hp, h.inb, fun n p r o hn hz => let ⟨a, b, c⟩ := h.frz n p r o hn hz; ⟨a, b, fun m v b q e => c m (v, b) q (hs m _ e)⟩⟩
theorem RelF.drew (h : RelF C ρ φ w) : RelF C ρ φ w.drew :=
  ⟨h.os, h.tape, h.output, h.size, h.out, fun n x e => let ⟨p, a, c⟩ := h.blk n x e; ⟨p, a, c.keep fun _ => rfl⟩, h.sep, h.own, h.inb, h.frz⟩

/-- what may change where the blocks g are at hand -/
def part (ρ : Map) (w : World) (g : Hp) : Cx := { w0 := w, S := fun b => ∃ m x p, find g m = some x ∧ x.2.ro = false ∧ ρ m = some p ∧ p.ph = false ∧ p.blk = b, Z := fun r => ∃ n p o, ρ n = some p ∧ p.fz r = some o }
theorem part_rel (h : RelF C ρ φ w) (g : Hp) (hg : ∀ m x, find g m = some x → φ m x) (hs : s.h = g) (hf : ∀ q, ρ (s.nx + q * s.st) = none) (hp : 0 < s.st) : Rel (part ρ w g) ρ s w := by
  subst hs
  exact ⟨rfl, rfl, rfl, Nat.le_refl _, fun _ _ _ => rfl, fun n v b e => h.blk n (v, b) (hg n _ e), fun n m vn bn vm bm p q e f => h.sep n m (vn, bn) (vm, bm) p q (hg n _ e) (hg m _ f),
    fun n v b p e hr hp' hx => .inl ⟨n, (v, b), p, e, hr, hp', hx, rfl⟩, hf, hp, h.inb, fun n p r o hn hz => let ⟨a, b, c⟩ := h.frz n p r o hn hz; ⟨a, .inl ⟨n, p, o, hn, hz⟩, fun m v b q e => c m (v, b) q (hg m _ e)⟩⟩
/-- the rest stays -/
theorem part_back (h : RelF C ρ φ w) {g : Hp} (hg : ∀ m x, find g m = some x → φ m x) (hR : Rel (part ρ w g) σ s w') (hl : Le ρ σ)
    (hn : ∀ m x, find s.h m = some x → (∃ y, find g m = some y) ∨ (x.2.ro = false ∧ ρ m = none))
    (hψ : ∀ m x, ψ m x → find s.h m = some x ∨ (φ m x ∧ find g m = none)) : RelF C σ ψ w' := by
  have stay : ∀ m x p, φ m x → find g m = none → ρ m = some p → p.ph = false → w'.heap[p.blk]? = w.heap[p.blk]? := by
    intro m x p hm hgm hp hx
    refine hR.out _ (h.inb m p hp hx) ?_
    rintro ⟨m0, x0, p0, h0, hr0, hp0, hx0, e⟩
    have : m0 ≠ m := by intro e'; subst e'; rw [hgm] at h0; cases h0
    exact h.sep m0 m x0 x p0 p (hg m0 x0 h0) hm this hr0 hp0 hp hx0 hx e
  have old : ∀ m x p, φ m x → σ m = some p → ρ m = some p := by
    intro m x p hm hp
    obtain ⟨q, hq, _⟩ := h.blk m x hm
    have := hl m q hq
    rw [hp] at this
    cases this
    exact hq
  -- a block that may be written, among those at hand, is none of the rest
  have apart : ∀ m x p m' x' p', find s.h m = some x → x.2.ro = false → σ m = some p → φ m' x' → find g m' = none → ρ m' = some p' → p.ph = false → p'.ph = false → p.blk ≠ p'.blk := by
    intro m x p m' x' p' e hr hp hm' hgm' hp' x1 x2 he
    rcases hR.own m x.1 x.2 p e hr hp x1 with ⟨m0, x0, p0, h0, hr0, hp0, hx0, e0⟩ | hge
    · have : m0 ≠ m' := by intro e'; subst e'; rw [hgm'] at h0; cases h0
      exact h.sep m0 m' x0 x' p0 p' (hg m0 x0 h0) hm' this hr0 hp0 hp' hx0 x2 (e0.trans he)
    · have := h.inb m' p' hp' x2
      have hge : w.heap.size ≤ p.blk := hge
      omega
  refine ⟨hR.os.trans h.os, hR.tape.trans h.tape, hR.output.trans h.output, Nat.le_trans h.size hR.size, fun r hr hS => ?_, fun m x hm => ?_, fun n m x y p q en em hne hr hp hq x1 x2 => ?_, fun n x p en hr hp x1 => ?_, hR.inb, fun n p r o hn hz => ?_⟩
  · rw [← h.out r hr hS]
    refine hR.out r (Nat.lt_of_lt_of_le hr h.size) ?_
    rintro ⟨m0, x0, p0, h0, hr0, hp0, hx0, e0⟩
    rcases h.own m0 x0 p0 (hg m0 x0 h0) hr0 hp0 hx0 with hh | hh
    · exact hS (e0 ▸ hh)
    · omega
  · rcases hψ m x hm with e | ⟨e, hgm⟩
    · exact hR.blk m x.1 x.2 e
    · obtain ⟨p, hp, hb⟩ := h.blk m x e
      exact ⟨p, hl _ _ hp, (hb.mono hl).keep (stay m x p e hgm hp)⟩
  · rcases hψ n x en with en | ⟨en, hgn⟩ <;> rcases hψ m y em with em | ⟨em, hgm⟩
    · exact hR.sep n m x.1 x.2 y.1 y.2 p q en em hne hr hp hq x1 x2
    · exact apart n x p m y q en hr hp em hgm (old m y q em hq) x1 x2
    · have hpn := old n x p en hp
      rcases hn m y em with ⟨y', hy'⟩ | ⟨hro, hnone⟩
      · have hqm := old m y' q (hg m y' hy') hq
        exact h.sep n m x y' p q en (hg m y' hy') hne hr hpn hqm x1 x2
      · exact (apart m y q n x p em hro hq en hgn hpn x2 x1).symm
    · exact h.sep n m x y p q en em hne hr (old n x p en hp) (old m y q em hq) x1 x2
  · rcases hψ n x en with en | ⟨en, hgn⟩
    · rcases hR.own n x.1 x.2 p en hr hp x1 with ⟨m0, x0, p0, h0, hr0, hp0, hx0, e0⟩ | hge
      · rw [← e0]; exact h.own m0 x0 p0 (hg m0 x0 h0) hr0 hp0 hx0
      · exact .inr (Nat.le_trans h.size hge)
    · exact h.own n x p en hr (old n x p en hp) x1
  · obtain ⟨f1, f2, f3⟩ := hR.frz n p r o hn hz
    refine ⟨f1, ?_, fun m x q em hr hq x1 => ?_⟩
    · rcases f2 with ⟨n', p', o', hn', hz'⟩ | ⟨m0, x0, p0, h0, hr0, hp0, hx0, e0⟩ | hge
      · exact (h.frz n' p' r o' hn' hz').2.1
      · rw [← e0]; exact .inr (h.own m0 x0 p0 (hg m0 x0 h0) hr0 hp0 hx0)
      · exact .inr (.inr (Nat.le_trans h.size hge))
    · rcases hψ m x em with em | ⟨em, hgm⟩
      · exact f3 m x.1 x.2 q em hr hq x1
      · have hq' := old m x q em hq
        rcases f2 with ⟨n', p', o', hn', hz'⟩ | ⟨m0, x0, p0, h0, hr0, hp0, hx0, e0⟩ | hge
        · exact (h.frz n' p' r o' hn' hz').2.2 m x q em hr hq' x1
        · have : m0 ≠ m := by intro e'; subst e'; rw [hgm] at h0; cases h0
          intro e
          exact h.sep m0 m x0 x p0 q (hg m0 x0 h0) em this hr0 hp0 hq' hx0 x1 (e0.trans e.symm)
        · have := h.inb m q hq' x1
          have hge : w.heap.size ≤ r := hge
          omega
end
end Go.AE

/- A region that draws its order, walked in the row of its text: what the walk has found. No condition. -/
namespace Go.AE
open Go

section
variable {R : Type}
theorem dopK_eq {H : Hd R} {P : Program} {o : Oper} {a b : Nat} {x : Dx} {m : Nat} {k : SV → Dx → R} : dopK H P o a b x m k = dopS H P o a b x m k := by
  obtain ⟨i, am, t, ⟨h0, nx, ck, st⟩, fl, hi, pe, N⟩ := x
  unfold dopK dopS
  cases knd o.op <;> rfl
theorem ropsD_eq {H : Hd R} {P : Program} {all : List Oper} {nx st n : Nat} {k : List SV → St → R} : ∀ (r : List Oper) (x : Dx), ropsD H P all nx st n r x k = ropsS H P all nx st n r x k
  | [], ⟨_, _, t, ⟨h0, _, ck, _⟩, fl, _, _, N⟩ => rfl
  | o :: r, ⟨i, am, t, s, fl, hi, pe, N⟩ => by
    simp only [ropsD, ropsS, forceN_eq, dopK_eq, ropsD_eq r]
theorem nthN_eq : ∀ (l : List Nat) (i : Nat) (k : Nat → R), nthN l i k = k (l.getD i 0)
  | [], i, k => by cases i <;> rfl
  | _ :: _, 0, _ => rfl
  | _ :: t, i + 1, k => by rw [nthN, nthN_eq t i k]; simp
def ancV (i : Nat) (am : List Nat) : List Edge → Nat → Nat
  | [], m => m
  | e :: es, m => cond (Region.binds .any e) (ancV i am es (Nat.lor (Nat.lor m (Nat.shiftLeft 1 e.on)) (am.getD (i - 1 - e.on) 0))) (ancV i am es m)
theorem ancK_eq (i : Nat) (am : List Nat) : ∀ (es : List Edge) (m : Nat) (k : Nat → R), ancK i am es m k = k (ancV i am es m)
  | [], m, k => forceN_eq m k
  | e :: es, m, k => by
    simp only [ancK, ancV, nthN_eq, ancK_eq i am es]
    cases Region.binds .any e <;> rfl
theorem appK_eq : ∀ (g h : Hp) (k : Hp → R), appK g h k = k (g ++ h)
  | [], _, _ => rfl
  | x :: g, h, k => by simp only [appK, appK_eq g h, List.cons_append]
def selF (m : Nat) : List (Nat × Hp) → Hp → Hp
  | [], h => h
  | (j, g) :: r, h => cond (bit m j) (g ++ selF m r h) (selF m r h)
theorem selK_eq (m : Nat) : ∀ (l : List (Nat × Hp)) (h : Hp) (k : Hp → R), selK m l h k = k (selF m l h)
  | [], _, _ => rfl
  | (j, g) :: r, h, k => by
    simp only [selK, selF, selK_eq m r h, appK_eq]
    cases bit m j <;> rfl
def restF (m : Nat) : List (Nat × Hp) → List (Nat × Hp)
  | [] => []
  | (j, g) :: r => cond (bit m j) (restF m r) ((j, g) :: restF m r)
theorem restK_eq (m : Nat) : ∀ (l : List (Nat × Hp)) (k : List (Nat × Hp) → R), restK m l k = k (restF m l)
  | [], _ => rfl
  | (j, g) :: r, k => by
    simp only [restK, restF, restK_eq m r]
    cases bit m j <;> rfl
def allF : List (Nat × Hp) → Hp → Hp
  | [], h => h
  | (_, g) :: r, h => g ++ allF r h
theorem allFK_eq : ∀ (l : List (Nat × Hp)) (h : Hp) (k : Hp → R), allFK l h k = k (allF l h)
  | [], _, _ => rfl
  | (j, g) :: r, h, k => by simp only [allFK, allF, allFK_eq r h, appK_eq]
end
theorem find_app : ∀ (g h : Hp) (n : Nat) {x : Nat × Bk}, find (g ++ h) n = some x → find g n = some x ∨ find h n = some x
  | [], h, n, x, e => .inr e
  | (m, y) :: g, h, n, x, e => by
    simp only [List.cons_append, find] at e ⊢
    cases hb : Nat.beq m n with
    | true => rw [hb] at e; exact .inl e
    | false => rw [hb] at e; exact find_app g h n e
theorem selF_find {m : Nat} : ∀ {l : List (Nat × Hp)} {h : Hp} {n : Nat} {x : Nat × Bk}, find (selF m l h) n = some x → find h n = some x ∨ ∃ f g, (f, g) ∈ l ∧ bit m f = true ∧ find g n = some x
  | [], h, n, x, e => .inl e
  | (j, g) :: r, h, n, x, e => by
    simp only [selF] at e
    cases hb : bit m j with
    | false =>
      rw [hb] at e
      rcases selF_find e with e | ⟨f, g', hm, r⟩
      · exact .inl e
      · exact .inr ⟨f, g', List.mem_cons_of_mem _ hm, r⟩
    | true =>
      rw [hb, cond_true] at e
      rcases find_app _ _ _ e with e | e
      · exact .inr ⟨j, g, List.mem_cons_self, hb, e⟩
      · rcases selF_find e with e | ⟨f, g', hm, r⟩
        · exact .inl e
        · exact .inr ⟨f, g', List.mem_cons_of_mem _ hm, r⟩
theorem restF_mem {m : Nat} : ∀ {l : List (Nat × Hp)} {p : Nat × Hp}, p ∈ restF m l → p ∈ l ∧ bit m p.1 = false
  | (j, g) :: r, p, e => by
    simp only [restF] at e
    cases hb : bit m j with
    | true => rw [hb] at e; have := restF_mem e; exact ⟨List.mem_cons_of_mem _ this.1, this.2⟩
    | false =>
      rw [hb, cond_false] at e
      rcases List.mem_cons.1 e with rfl | e
      · exact ⟨List.mem_cons_self, hb⟩
      · have := restF_mem e; exact ⟨List.mem_cons_of_mem _ this.1, this.2⟩
theorem allF_find : ∀ {l : List (Nat × Hp)} {h : Hp} {n : Nat} {x : Nat × Bk}, find (allF l h) n = some x → find h n = some x ∨ ∃ f g, (f, g) ∈ l ∧ find g n = some x
  | [], h, n, x, e => .inl e
  | (j, g) :: r, h, n, x, e => by
    rcases find_app _ _ _ e with e | e
    · exact .inr ⟨j, g, List.mem_cons_self, e⟩
    · rcases allF_find e with e | ⟨f, g', hm, r⟩
      · exact .inl e
      · exact .inr ⟨f, g', List.mem_cons_of_mem _ hm, r⟩
theorem bit_eq (m j : Nat) : bit m j = m.testBit j := by
  unfold bit
  have h1 : Nat.land 1 (Nat.shiftRight m j) = m / 2 ^ j % 2 := by
    show 1 &&& (m >>> j) = _
    rw [Nat.one_and_eq_mod_two, Nat.shiftRight_eq_div_pow]
  rw [h1, Nat.testBit_eq_decide_div_mod_eq]
  by_cases h : m / 2 ^ j % 2 = 1
  · simp [h]
  · simp only [h, decide_false]
    cases hb : Nat.beq (m / 2 ^ j % 2) 1 with
    | false => rfl
    | true => exact absurd (Nat.eq_of_beq_eq_true hb) h
theorem bit_zero (j : Nat) : bit 0 j = false := by rw [bit_eq]; simp
theorem bit_lor (m e a k : Nat) : bit (Nat.lor (Nat.lor m (Nat.shiftLeft 1 e)) a) k = true ↔ bit m k = true ∨ k = e ∨ bit a k = true := by
  simp only [bit_eq]
  show ((m ||| (1 <<< e)) ||| a).testBit k = true ↔ _
  rw [Nat.testBit_or, Nat.testBit_or, Nat.one_shiftLeft, Nat.testBit_two_pow]
  simp only [Bool.or_eq_true, decide_eq_true_eq]
  constructor
  · rintro ((h | h) | h)
    · exact .inl h
    · exact .inr (.inl h.symm)
    · exact .inr (.inr h)
  · rintro (h | h | h)
    · exact .inl (.inl h)
    · exact .inl (.inr h.symm)
    · exact .inr h
theorem ancV_bit (i : Nat) (am : List Nat) (k : Nat) : ∀ (es : List Edge) (m : Nat), bit (ancV i am es m) k = true ↔ bit m k = true ∨ ∃ e ∈ es, Region.binds .any e = true ∧ (k = e.on ∨ bit (am.getD (i - 1 - e.on) 0) k = true)
  | [], m => by simp [ancV]
  | e :: es, m => by
    simp only [ancV]
    cases hb : Region.binds .any e with
    | false =>
      rw [cond_false, ancV_bit i am k es m]
      constructor
      · rintro (h | ⟨e', he, h⟩)
        · exact .inl h
        · exact .inr ⟨e', List.mem_cons_of_mem _ he, h⟩
      · rintro (h | ⟨e', he, h⟩)
        · exact .inl h
        · rcases List.mem_cons.1 he with rfl | he
          · rw [hb] at h; cases h.1
          · exact .inr ⟨e', he, h⟩
    | true =>
      rw [cond_true, ancV_bit i am k es, bit_lor]
      constructor
      · rintro ((h | h) | ⟨e', he, h⟩)
        · exact .inl h
        · exact .inr ⟨e, List.mem_cons_self, hb, h⟩
        · exact .inr ⟨e', List.mem_cons_of_mem _ he, h⟩
      · rintro (h | ⟨e', he, h⟩)
        · exact .inl (.inl h)
        · rcases List.mem_cons.1 he with rfl | he
          · exact .inl (.inr h.2)
          · exact .inr ⟨e', he, h⟩
theorem namesB_spec {g : Hp} {a b : Nat} : ∀ {h : Hp}, namesB g a b h = true → ∀ m x, find h m = some x → (∃ y, find g m = some y) ∨ (x.2.ro = false ∧ ∃ q, m = a + q * b)
  | [], _, m, x, e => by cases e
  | (m', v, bk) :: r, hn, m, x, e => by
    simp only [namesB, Bool.and_eq_true, Bool.or_eq_true, Bool.not_eq_true'] at hn
    simp only [find] at e
    cases hb : Nat.beq m' m with
    | false => rw [hb] at e; exact namesB_spec hn.2 m x e
    | true =>
      rw [hb] at e
      cases e
      have := beq_t hb
      subst this
      rcases hn.1 with h | ⟨h, h1, h2⟩
      · unfold oldB at h
        cases hf : find g m' with
        | none => rw [hf] at h; cases h
        | some y => exact .inl ⟨y, rfl⟩
      · have h1 := ble_t h1
        have h2 : (m' - a) % b = 0 := beq_t h2
        refine .inr ⟨h, (m' - a) / b, ?_⟩
        have := Nat.div_add_mod (m' - a) b
        rw [h2, Nat.add_zero, Nat.mul_comm] at this
        omega
theorem sveqL_eq {p : SV → SV → Bool} (hp : ∀ x y, p x y = true → x = y) : ∀ {xs ys : List SV}, sveqL p xs ys = true → xs = ys
  | [], [], _ => rfl
  | x :: xs, y :: ys, h => by
    simp only [sveqL, Bool.and_eq_true] at h
    rw [hp _ _ h.1, sveqL_eq hp h.2]
  | [], _ :: _, h => by cases h
  | _ :: _, [], h => by cases h
theorem sveq_eq : ∀ (f : Nat) (x y : SV), sveq f x y = true → x = y
  | 0, _, _, h => by cases h
  | f + 1, x, y, h => by
    have ih : ∀ {xs ys : List SV}, sveqL (sveq f) xs ys = true → xs = ys := fun h => sveqL_eq (sveq_eq f) h
    unfold sveq at h
    split at h
    · rename_i e; cases e
    · simp only [Bool.and_eq_true, decide_eq_true_eq] at h; rw [h.1, h.2]
    · simp only [decide_eq_true_eq] at h; rw [h]
    · simp only [decide_eq_true_eq] at h; rw [h]
    · rfl
    · simp only [Bool.and_eq_true, decide_eq_true_eq] at h; rw [beq_t h.1.1, h.1.2, h.2]
    · rfl
    · rfl
    · rfl
    · simp only [Bool.and_eq_true, decide_eq_true_eq] at h; rw [beq_t h.1.1.1.1, h.1.1.1.2, h.1.1.2, h.1.2, h.2]
    · rfl
    · rfl
    · rfl
    · rename_i e; cases e
      simp only [Bool.and_eq_true] at h; rw [beq_t h.1.1, ih h.1.2, ih h.2]
    · rename_i e; cases e; rw [ih h]
    · rename_i e; cases e; rw [ih h]
    · rename_i e; cases e
      simp only [Bool.and_eq_true] at h; rw [beq_t h.1, sveq_eq f _ _ h.2]
    · cases h
end Go.AE

/- A region that draws its order: the row of what its walk has found. No condition. -/
namespace Go.AE
open Go

def putT (d : Option Tmp) (v : SV) (t : List SV) : List SV := match d with
  | some d => t.set d v
  | none => t
theorem putD_T {R : Type} (d : Option Tmp) (v : SV) (t : List SV) (k : List SV → R) : putD d v t k = k (putT d v t) := by rw [putD_eq]; rfl

inductive Cls where
  | off | pure | read | new | eff
  deriving DecidableEq

section
variable (P : Program) (eqt : List TypeId) (hc : FuncId → List SV → St → (SV → St → Prop) → Prop) (hl : Code → List SV → St → (List SV → St → Prop) → (Nat → List SV → St → Prop) → (List SV → St → Prop) → Prop)
  (ops : Array Oper) (nx st : Nat)

def On (t : List SV) (o : Oper) : Prop := o.guard = none ∨ ∃ g b d, o.guard = some (g, b) ∧ (ops[g]?).bind (·.dst) = some d ∧ nth t d = .bool b
def Off (t : List SV) (o : Oper) : Prop := ∃ g b d, o.guard = some (g, b) ∧ (ops[g]?).bind (·.dst) = some d ∧ (nth t d = .bool (!b) ∨ nth t d = .tup [])
def Chk (m : Nat) (t : List SV) (o : Op) (v : SV) (s : St) (fl : List (Nat × Hp)) : Prop :=
  aop ⟨False, cond, eqt, hc, hl⟩ P t o { h := selF m fl s.h, nx := s.nx, ck := s.ck, st := s.st } fun v' _ => v' = v
def ReadsOk (m : Nat) (t : List SV) (o : Op) (v : SV) : List Hist → Prop
  | [] => True
  | e :: r => bit m e.i = true ∨ (Chk P eqt hc hl m t o v e.s e.fl ∧ ReadsOk m t o v r)
def PendOk (m : Nat) (fl : List (Nat × Hp)) (s : St) (pe : List Pend) : Prop := ∀ p ∈ pe, bit m p.i = true ∨ Chk P eqt hc hl p.m p.t p.o p.v s fl
def lane (i : Nat) : Nat := nx + i * st
def lstep : Nat := ops.toList.length * st

/-- what operation i has come to -/
def Did (o : Oper) (x : Dx) (m : Nat) (v : SV) (y : Dx) (g : St) : Cls → Prop
  | .off => Off ops x.t o ∧ v = .tup [] ∧ y = x
  | .pure => On ops x.t o ∧ knd o.op = .pure ∧ (aop ⟨False, cond, eqt, hc, hl⟩ P x.t o.op { h := [], nx := 0, ck := 0, st := 0 } fun v' _ => v' = v) ∧ y = x
  | .read => On ops x.t o ∧ knd o.op = .read ∧ Chk P eqt hc hl m x.t o.op v x.s x.fl ∧ ReadsOk P eqt hc hl m x.t o.op v x.hi ∧ y = { x with pe := { i := x.i, m := m, t := x.t, o := o.op, v := v } :: x.pe }
  | .new => On ops x.t o ∧ (aop ⟨False, cond, eqt, hc, hl⟩ P x.t o.op { h := [], nx := lane nx st x.i, ck := x.s.ck, st := lstep ops st } fun v' s' => v' = v ∧ s' = g) ∧ namesB [] (lane nx st x.i) (lstep ops st) g.h = true ∧
      ∃ N, x.N ≤ N ∧ g.nx ≤ N ∧ y = { x with fl := (x.i, g.h) :: x.fl, N := N }
  | .eff => On ops x.t o ∧ lastB m x.hi = true ∧ (aop ⟨False, cond, eqt, hc, hl⟩ P x.t o.op { h := selF m x.fl x.s.h, nx := lane nx st x.i, ck := x.s.ck, st := lstep ops st } fun v' s' => v' = v ∧ s' = g) ∧
      namesB (selF m x.fl x.s.h) (lane nx st x.i) (lstep ops st) g.h = true ∧ PendOk P eqt hc hl m (restF m x.fl) g x.pe ∧
      ∃ N, x.N ≤ N ∧ g.nx ≤ N ∧ y = { x with s := g, fl := restF m x.fl, hi := { i := x.i, s := x.s, fl := x.fl } :: x.hi, N := N }
def Step (x x' : Dx) (v : SV) (g : St) (c : Cls) : Prop := ∃ o y, ops[x.i]? = some o ∧ Did P eqt hc hl ops nx st o x (ancV x.i x.am o.after.toList 0) v y g c ∧
  x' = { y with t := putT o.dst v x.t, i := x.i + 1, am := ancV x.i x.am o.after.toList 0 :: x.am }
end

section
variable {P : Program} {eqt : List TypeId} {hc : FuncId → List SV → St → (SV → St → Prop) → Prop} {hl : Code → List SV → St → (List SV → St → Prop) → (Nat → List SV → St → Prop) → (List SV → St → Prop) → Prop}
  {ops : Array Oper} {nx st : Nat}

theorem aop_v (hrep : ∀ f xs s, Rep2 (hc f xs s)) {t : List SV} {o : Op} {s : St} {K : SV → St → Prop} (h : aop ⟨False, cond, eqt, hc, hl⟩ P t o s K) : ∃ v s', K v s' ∧ aop ⟨False, cond, eqt, hc, hl⟩ P t o s (fun v' s'' => v' = v ∧ s'' = s') :=
  Rep2.one (rep_aop hrep t o s) h
theorem aop_mono (hrep : ∀ f xs s, Rep2 (hc f xs s)) {t : List SV} {o : Op} {s : St} {K L : SV → St → Prop} (h : aop ⟨False, cond, eqt, hc, hl⟩ P t o s K) (hk : ∀ v s, K v s → L v s) : aop ⟨False, cond, eqt, hc, hl⟩ P t o s L := by
  have := Rep.mono (rep_aop (P := P) (eqt := eqt) (hl := hl) hrep t o s) (K := fun p => K p.1 p.2) (L := fun p => L p.1 p.2) h (fun x => hk x.1 x.2)
  exact this

theorem reads_ok (hrep : ∀ f xs s, Rep2 (hc f xs s)) {m : Nat} {t : List SV} {o : Op} {v : SV} : ∀ {hi : List Hist} {k : Prop}, readsK ⟨False, cond, eqt, hc, hl⟩ P m t o v hi k → k ∧ ReadsOk P eqt hc hl m t o v hi
  | [], k, h => ⟨h, trivial⟩
  | e :: r, k, h => by
    simp only [readsK, selK_eq] at h
    cases hb : bit m e.i with
    | true => rw [hb] at h; exact ⟨h, .inl hb⟩
    | false =>
      rw [hb, cond_false] at h
      obtain ⟨v', s', hk0, hv⟩ := aop_v hrep h
      obtain ⟨he, hk⟩ := cond_t hk0
      clear hk0
      have := sveq_eq 9 v v' he
      subst this
      have ih := reads_ok hrep hk
      exact ⟨ih.1, .inr ⟨aop_mono hrep hv (fun _ _ e => e.1), ih.2⟩⟩
theorem pend_ok (hrep : ∀ f xs s, Rep2 (hc f xs s)) {m : Nat} {fl : List (Nat × Hp)} {s : St} : ∀ {pe : List Pend} {k : Prop}, pendK ⟨False, cond, eqt, hc, hl⟩ P m fl s pe k → k ∧ PendOk P eqt hc hl m fl s pe
  | [], k, h => ⟨h, fun _ hp => by cases hp⟩
  | p :: r, k, h => by
    simp only [pendK, selK_eq] at h
    cases hb : bit m p.i with
    | true =>
      rw [hb, cond_true] at h
      have ih := pend_ok hrep h
      exact ⟨ih.1, fun q hq => by
        rcases List.mem_cons.1 hq with rfl | hq
        · exact .inl hb
        · exact ih.2 q hq⟩
    | false =>
      rw [hb, cond_false] at h
      obtain ⟨v', s', hk0, hv⟩ := aop_v hrep h
      obtain ⟨he, hk⟩ := cond_t hk0
      clear hk0
      have := sveq_eq 9 p.v v' he
      subst this
      have ih := pend_ok hrep hk
      exact ⟨ih.1, fun q hq => by
        rcases List.mem_cons.1 hq with rfl | hq
        · exact .inr (aop_mono hrep hv (fun _ _ e => e.1))
        · exact ih.2 q hq⟩
theorem set_nth {t : List SV} {d : Nat} {c : Bool} (h : nth t d = .bool c) : t.set d (.bool c) = t := by
  rw [nth_eq] at h
  cases hd : t[d]? with
  | none => rw [hd] at h; cases h
  | some v =>
    rw [hd] at h
    simp at h
    subst h
    obtain ⟨hlt, e⟩ := List.getElem?_eq_some_iff.1 hd
    rw [← e]; simp
theorem guard_ok {o : Oper} {t : List SV} {on off : List SV → Prop} (h : guardK ⟨False, cond, eqt, hc, hl⟩ ops.toList o t on off) : (On ops t o ∧ on t) ∨ (Off ops t o ∧ off t) := by
  unfold guardK at h
  cases hg : o.guard with
  | none => rw [hg] at h; exact .inl ⟨.inl hg, h⟩
  | some gb =>
    obtain ⟨g, b⟩ := gb
    simp only [hg, dstOf_eq] at h
    cases hd : (ops.toList[g]?).bind (·.dst) with
    | none => simp only [hd] at h
    | some d =>
      simp only [hd, nthK_eq, setK_eq] at h
      have hd' : (ops[g]?).bind (·.dst) = some d := by simpa using hd
      cases hn : nth t d with
      | bool c =>
        simp only [hn] at h
        have key := set_nth hn
        cases b <;> cases c <;> simp only [cond_true, cond_false, key] at h
        · exact .inl ⟨.inr ⟨g, _, d, hg, hd', hn⟩, h⟩
        · exact .inr ⟨⟨g, _, d, hg, hd', .inl hn⟩, h⟩
        · exact .inr ⟨⟨g, _, d, hg, hd', .inl hn⟩, h⟩
        · exact .inl ⟨.inr ⟨g, _, d, hg, hd', hn⟩, h⟩
      | tup l =>
        cases l with
        | nil => simp only [hn] at h; exact .inr ⟨⟨g, b, d, hg, hd', .inr hn⟩, h⟩
        | cons _ _ => simp only [hn] at h
      | _ => simp only [hn] at h
theorem maxN_ok (a b : Nat) : a ≤ cond (Nat.ble a b) b a ∧ b ≤ cond (Nat.ble a b) b a := by
  cases h : Nat.ble a b with
  | true => exact ⟨ble_t h, Nat.le_refl _⟩
  | false =>
    refine ⟨Nat.le_refl _, ?_⟩
    rcases Nat.lt_or_ge b a with h' | h'
    · exact Nat.le_of_lt h'
    · rw [Nat.ble_eq_true_of_le h'] at h; cases h
theorem dop_ok (hrep : ∀ f xs s, Rep2 (hc f xs s)) {o : Oper} {x : Dx} {m : Nat} {k : SV → Dx → Prop} (hon : On ops x.t o)
    (h : dopS ⟨False, cond, eqt, hc, hl⟩ P o (nx + x.i * st) (ops.toList.length * st) x m k) : ∃ v y g c, Did P eqt hc hl ops nx st o x m v y g c ∧ y.t = x.t ∧ y.i = x.i ∧ y.am = x.am ∧ k v y := by
  unfold dopS at h
  cases hk : knd o.op with
  | pure =>
    simp only [hk] at h
    obtain ⟨v, s', hK, hv⟩ := aop_v hrep h
    exact ⟨v, x, x.s, .pure, ⟨hon, hk, aop_mono hrep hv (fun _ _ e => e.1), rfl⟩, rfl, rfl, rfl, hK⟩
  | read =>
    simp only [hk, selK_eq] at h
    obtain ⟨v, s', hK, hv⟩ := aop_v hrep h
    obtain ⟨hK, hr⟩ := reads_ok hrep hK
    exact ⟨v, _, x.s, .read, ⟨hon, hk, aop_mono hrep hv (fun _ _ e => e.1), hr, rfl⟩, rfl, rfl, rfl, hK⟩
  | new =>
    simp only [hk, forceN_eq] at h
    obtain ⟨v, s', hK, hv⟩ := aop_v hrep h
    obtain ⟨hn, hK⟩ := cond_t hK
    exact ⟨v, _, s', .new, ⟨hon, hv, hn, _, (maxN_ok _ _).1, (maxN_ok _ _).2, rfl⟩, rfl, rfl, rfl, hK⟩
  | eff =>
    simp only [hk, selK_eq, restK_eq, forceN_eq] at h
    obtain ⟨hlb, h⟩ := cond_t h
    obtain ⟨v, s', hK, hv⟩ := aop_v hrep h
    obtain ⟨hn, hK⟩ := cond_t hK
    obtain ⟨hK, hp⟩ := pend_ok hrep hK
    exact ⟨v, _, s', .eff, ⟨hon, hlb, hv, hn, hp, _, (maxN_ok _ _).1, (maxN_ok _ _).2, rfl⟩, rfl, rfl, rfl, hK⟩

/-- the row of the region's states -/
theorem trace (hrep : ∀ f xs s, Rep2 (hc f xs s)) {k : List SV → St → Prop} : ∀ (r : List Oper) (x : Dx), r = ops.toList.drop x.i → ropsS ⟨False, cond, eqt, hc, hl⟩ P ops.toList nx st ops.toList.length r x k →
    ∃ (X : Nat → Dx) (V : Nat → SV) (G : Nat → St) (C : Nat → Cls), X x.i = x ∧ (∀ j, x.i ≤ j → j < x.i + r.length → (X j).i = j ∧ Step P eqt hc hl ops nx st (X j) (X (j + 1)) (V j) (G j) (C j)) ∧
      (X (x.i + r.length)).i = x.i + r.length ∧
      k (X (x.i + r.length)).t { h := allF (X (x.i + r.length)).fl (X (x.i + r.length)).s.h, nx := nx + st * ((X (x.i + r.length)).N - nx), ck := (X (x.i + r.length)).s.ck, st := st }
  | [], x, hr, h => by
    simp only [ropsS, allFK_eq, forceN_eq] at h
    exact ⟨fun _ => x, fun _ => .junk, fun _ => x.s, fun _ => .off, rfl, fun j h1 h2 => by simp at h2; omega, rfl, h⟩
  | o :: r, x, hr, h => by
    have hoi : ops[x.i]? = some o := by
      have : (ops.toList.drop x.i)[0]? = some o := by rw [← hr]; rfl
      simpa [List.getElem?_drop] using this
    have hr' : r = ops.toList.drop (x.i + 1) := by
      have : (ops.toList.drop x.i).tail = r := by rw [← hr]; rfl
      rw [← this, List.tail_drop]
    have fin : ∀ x' v g c, x'.i = x.i + 1 → Step P eqt hc hl ops nx st x x' v g c → ropsS ⟨False, cond, eqt, hc, hl⟩ P ops.toList nx st ops.toList.length r x' k →
        ∃ (X : Nat → Dx) (V : Nat → SV) (G : Nat → St) (C : Nat → Cls), X x.i = x ∧ (∀ j, x.i ≤ j → j < x.i + (o :: r).length → (X j).i = j ∧ Step P eqt hc hl ops nx st (X j) (X (j + 1)) (V j) (G j) (C j)) ∧
          (X (x.i + (o :: r).length)).i = x.i + (o :: r).length ∧
          k (X (x.i + (o :: r).length)).t { h := allF (X (x.i + (o :: r).length)).fl (X (x.i + (o :: r).length)).s.h, nx := nx + st * ((X (x.i + (o :: r).length)).N - nx), ck := (X (x.i + (o :: r).length)).s.ck, st := st } := by
      intro x' v g c hi hs hk
      obtain ⟨X, V, G, C, h0, hst, hi2, hf⟩ := trace hrep r x' (by rw [hi]; exact hr') hk
      rw [hi] at h0 hst hi2 hf
      have hlen : x.i + (o :: r).length = x.i + 1 + r.length := by simp; omega
      rw [hlen]
      have hX : ∀ j, j ≠ x.i → (fun j => if j = x.i then x else X j) j = X j := fun j hj => if_neg hj
      refine ⟨fun j => if j = x.i then x else X j, fun j => if j = x.i then v else V j, fun j => if j = x.i then g else G j, fun j => if j = x.i then c else C j, if_pos rfl, fun j h1 h2 => ?_, ?_, ?_⟩
      · by_cases hj : j = x.i
        · subst hj
          simp only [if_pos, if_neg (show x.i + 1 ≠ x.i by omega), h0]
          exact ⟨trivial, hs⟩
        · simp only [if_neg hj, if_neg (show j + 1 ≠ x.i by omega)]
          exact hst j (by omega) (by omega)
      · simp only [if_neg (show x.i + 1 + r.length ≠ x.i by omega)]; exact hi2
      · simp only [if_neg (show x.i + 1 + r.length ≠ x.i by omega)]; exact hf
    simp only [ropsS, ancK_eq, forceN_eq] at h
    rcases guard_ok h with ⟨hon, h⟩ | ⟨hoff, h⟩
    · obtain ⟨v, y, g, c, hd, e1, e2, e3, hk⟩ := dop_ok hrep hon h
      rw [putD_T] at hk
      refine fin _ v g c (by simp [e2]) ⟨o, y, hoi, hd, ?_⟩ hk
      simp [e1, e2, e3]
    · rw [putD_T] at h
      exact fin _ (.tup []) x.s .off rfl ⟨o, x, hoi, ⟨hoff, rfl, rfl⟩, rfl⟩ h
end
end Go.AE

/- A region that draws its order: what holds along the row. No condition. -/
namespace Go.AE
open Go

structure Tr (P : Program) (eqt : List TypeId) (hc : FuncId → List SV → St → (SV → St → Prop) → Prop) (hl : Code → List SV → St → (List SV → St → Prop) → (Nat → List SV → St → Prop) → (List SV → St → Prop) → Prop)
    (ops : Array Oper) (nx st : Nat) (t0 : List SV) (s0 : St) (X : Nat → Dx) (V : Nat → SV) (G : Nat → St) (C : Nat → Cls) : Prop where
  fit : fits ops = true
  h0 : X 0 = { i := 0, am := [], t := t0, s := s0, fl := [], hi := [], pe := [], N := nx }
  step : ∀ j, j < ops.size → (X j).i = j ∧ Step P eqt hc hl ops nx st (X j) (X (j + 1)) (V j) (G j) (C j)

section
variable {P : Program} {eqt : List TypeId} {hc : FuncId → List SV → St → (SV → St → Prop) → Prop} {hl : Code → List SV → St → (List SV → St → Prop) → (Nat → List SV → St → Prop) → (List SV → St → Prop) → Prop}
  {ops : Array Oper} {nx st : Nat} {t0 : List SV} {s0 : St} {X : Nat → Dx} {V : Nat → SV} {G : Nat → St} {C : Nat → Cls}

/-- what operation j waits for -/
def M (X : Nat → Dx) (j : Nat) : Nat := (X (j + 1)).am.getD 0 0
theorem Tr.inv (T : Tr P eqt hc hl ops nx st t0 s0 X V G C) {j : Nat} (hj : j < ops.size) : ∃ o y, ops[j]? = some o ∧ M X j = ancV j (X j).am o.after.toList 0 ∧ Did P eqt hc hl ops nx st o (X j) (M X j) (V j) y (G j) (C j) ∧
    X (j + 1) = { y with t := putT o.dst (V j) (X j).t, i := j + 1, am := M X j :: (X j).am } := by
  obtain ⟨hi, o, y, ho, hd, he⟩ := T.step j hj
  rw [hi] at ho hd he
  have hm : M X j = ancV j (X j).am o.after.toList 0 := by unfold M; rw [he]; rfl
  exact ⟨o, y, ho, hm, by rw [hm]; exact hd, by rw [hm]; exact he⟩
theorem Tr.idx (T : Tr P eqt hc hl ops nx st t0 s0 X V G C) {j : Nat} (hj : j < ops.size) : (X j).i = j := (T.step j hj).1
theorem Tr.t_next (T : Tr P eqt hc hl ops nx st t0 s0 X V G C) {j : Nat} (hj : j < ops.size) : (X (j + 1)).t = putT (dstAt ops j) (V j) (X j).t := by
  obtain ⟨o, y, ho, hm, hd, he⟩ := T.inv hj
  rw [he]
  simp [dstAt, ho]
theorem Tr.am_next (T : Tr P eqt hc hl ops nx st t0 s0 X V G C) {j : Nat} (hj : j < ops.size) : (X (j + 1)).am = M X j :: (X j).am := by
  obtain ⟨o, y, ho, hm, hd, he⟩ := T.inv hj
  rw [he]
theorem Tr.s_eff (T : Tr P eqt hc hl ops nx st t0 s0 X V G C) {j : Nat} (hj : j < ops.size) (hC : C j = .eff) : (X (j + 1)).s = G j := by
  obtain ⟨o, y, ho, hm, hd, he⟩ := T.inv hj
  rw [hC] at hd
  obtain ⟨_, _, _, _, _, N, _, _, rfl⟩ := hd
  rw [he]
theorem Tr.s_not (T : Tr P eqt hc hl ops nx st t0 s0 X V G C) {j : Nat} (hj : j < ops.size) (hC : C j ≠ .eff) : (X (j + 1)).s = (X j).s := by
  obtain ⟨o, y, ho, hm, hd, he⟩ := T.inv hj
  rw [he]
  cases hc' : C j with
  | off => rw [hc'] at hd; obtain ⟨_, _, rfl⟩ := hd; rfl
  | pure => rw [hc'] at hd; obtain ⟨_, _, _, rfl⟩ := hd; rfl
  | read => rw [hc'] at hd; obtain ⟨_, _, _, _, rfl⟩ := hd; rfl
  | new => rw [hc'] at hd; obtain ⟨_, _, _, N, _, _, rfl⟩ := hd; rfl
  | eff => exact absurd hc' hC
theorem Tr.fl_next (T : Tr P eqt hc hl ops nx st t0 s0 X V G C) {j : Nat} (hj : j < ops.size) {p : Nat × Hp} (hp : p ∈ (X (j + 1)).fl) :
    (p ∈ (X j).fl ∧ (C j = .eff → bit (M X j) p.1 = false)) ∨ (C j = .new ∧ p = (j, (G j).h)) := by
  obtain ⟨o, y, ho, hm, hd, he⟩ := T.inv hj
  rw [he] at hp
  cases hc' : C j with
  | off => rw [hc'] at hd; obtain ⟨_, _, rfl⟩ := hd; exact .inl ⟨hp, fun h => by cases h⟩
  | pure => rw [hc'] at hd; obtain ⟨_, _, _, rfl⟩ := hd; exact .inl ⟨hp, fun h => by cases h⟩
  | read => rw [hc'] at hd; obtain ⟨_, _, _, _, rfl⟩ := hd; exact .inl ⟨hp, fun h => by cases h⟩
  | new =>
    rw [hc'] at hd; obtain ⟨_, _, _, N, _, _, rfl⟩ := hd
    rcases List.mem_cons.1 hp with rfl | hp
    · exact .inr ⟨rfl, by rw [T.idx hj]⟩
    · exact .inl ⟨hp, fun h => by cases h⟩
  | eff =>
    rw [hc'] at hd; obtain ⟨_, _, _, _, _, N, _, _, rfl⟩ := hd
    have := restF_mem hp
    exact .inl ⟨this.1, fun _ => this.2⟩
theorem Tr.hi_eff (T : Tr P eqt hc hl ops nx st t0 s0 X V G C) {j : Nat} (hj : j < ops.size) (hC : C j = .eff) : (X (j + 1)).hi = { i := j, s := (X j).s, fl := (X j).fl } :: (X j).hi := by
  obtain ⟨o, y, ho, hm, hd, he⟩ := T.inv hj
  rw [hC] at hd
  obtain ⟨_, _, _, _, _, N, _, _, rfl⟩ := hd
  rw [he]
  simp [T.idx hj]
theorem Tr.hi_not (T : Tr P eqt hc hl ops nx st t0 s0 X V G C) {j : Nat} (hj : j < ops.size) (hC : C j ≠ .eff) : (X (j + 1)).hi = (X j).hi := by
  obtain ⟨o, y, ho, hm, hd, he⟩ := T.inv hj
  rw [he]
  cases hc' : C j with
  | off => rw [hc'] at hd; obtain ⟨_, _, rfl⟩ := hd; rfl
  | pure => rw [hc'] at hd; obtain ⟨_, _, _, rfl⟩ := hd; rfl
  | read => rw [hc'] at hd; obtain ⟨_, _, _, _, rfl⟩ := hd; rfl
  | new => rw [hc'] at hd; obtain ⟨_, _, _, N, _, _, rfl⟩ := hd; rfl
  | eff => exact absurd hc' hC
theorem Tr.pe_old (T : Tr P eqt hc hl ops nx st t0 s0 X V G C) {j : Nat} (hj : j < ops.size) {p : Pend} (hp : p ∈ (X j).pe) : p ∈ (X (j + 1)).pe := by
  obtain ⟨o, y, ho, hm, hd, he⟩ := T.inv hj
  rw [he]
  cases hc' : C j with
  | off => rw [hc'] at hd; obtain ⟨_, _, rfl⟩ := hd; exact hp
  | pure => rw [hc'] at hd; obtain ⟨_, _, _, rfl⟩ := hd; exact hp
  | read => rw [hc'] at hd; obtain ⟨_, _, _, _, rfl⟩ := hd; exact List.mem_cons_of_mem _ hp
  | new => rw [hc'] at hd; obtain ⟨_, _, _, N, _, _, rfl⟩ := hd; exact hp
  | eff => rw [hc'] at hd; obtain ⟨_, _, _, _, _, N, _, _, rfl⟩ := hd; exact hp
theorem Tr.pe_new (T : Tr P eqt hc hl ops nx st t0 s0 X V G C) {j : Nat} (hj : j < ops.size) (hC : C j = .read) {o : Oper} (ho : ops[j]? = some o) : { i := j, m := M X j, t := (X j).t, o := o.op, v := V j } ∈ (X (j + 1)).pe := by
  obtain ⟨o', y, ho', hm, hd, he⟩ := T.inv hj
  rw [ho] at ho'; cases ho'
  rw [he]
  rw [hC] at hd
  obtain ⟨_, _, _, _, rfl⟩ := hd
  simp [T.idx hj]
theorem Tr.N_next (T : Tr P eqt hc hl ops nx st t0 s0 X V G C) {j : Nat} (hj : j < ops.size) : (X j).N ≤ (X (j + 1)).N ∧ (C j = .new ∨ C j = .eff → (G j).nx ≤ (X (j + 1)).N) := by
  obtain ⟨o, y, ho, hm, hd, he⟩ := T.inv hj
  rw [he]
  cases hc' : C j with
  | off => rw [hc'] at hd; obtain ⟨_, _, rfl⟩ := hd; exact ⟨Nat.le_refl _, fun h => by rcases h with h | h <;> cases h⟩
  | pure => rw [hc'] at hd; obtain ⟨_, _, _, rfl⟩ := hd; exact ⟨Nat.le_refl _, fun h => by rcases h with h | h <;> cases h⟩
  | read => rw [hc'] at hd; obtain ⟨_, _, _, _, rfl⟩ := hd; exact ⟨Nat.le_refl _, fun h => by rcases h with h | h <;> cases h⟩
  | new => rw [hc'] at hd; obtain ⟨_, _, _, N, h1, h2, rfl⟩ := hd; exact ⟨h1, fun _ => h2⟩
  | eff => rw [hc'] at hd; obtain ⟨_, _, _, _, _, N, h1, h2, rfl⟩ := hd; exact ⟨h1, fun _ => h2⟩
theorem Tr.N_mono (T : Tr P eqt hc hl ops nx st t0 s0 X V G C) {i : Nat} : ∀ {j : Nat}, i ≤ j → j ≤ ops.size → (X i).N ≤ (X j).N
  | 0, h, _ => by have : i = 0 := by omega
                  subst this; exact Nat.le_refl _
  | j + 1, h, hj => by
    rcases Nat.lt_or_ge i (j + 1) with h' | h'
    · exact Nat.le_trans (T.N_mono (by omega) (by omega)) (T.N_next (by omega)).1
    · have : i = j + 1 := by omega
      subst this; exact Nat.le_refl _
theorem Tr.N_all (T : Tr P eqt hc hl ops nx st t0 s0 X V G C) {i : Nat} (hi : i < ops.size) (hC : C i = .new ∨ C i = .eff) : (G i).nx ≤ (X ops.size).N :=
  Nat.le_trans ((T.N_next hi).2 hC) (T.N_mono (by omega) (Nat.le_refl _))
theorem Tr.N_start (T : Tr P eqt hc hl ops nx st t0 s0 X V G C) : nx ≤ (X ops.size).N := by
  have := T.N_mono (i := 0) (j := ops.size) (by omega) (Nat.le_refl _)
  rw [T.h0] at this
  exact this

/-! ### What waits for what -/
theorem Tr.am_get (T : Tr P eqt hc hl ops nx st t0 s0 X V G C) : ∀ {i : Nat}, i ≤ ops.size → ∀ j, j < i → (X i).am.getD (i - 1 - j) 0 = M X j
  | 0, _, j, h => by omega
  | i + 1, hi, j, hj => by
    rw [T.am_next (by omega)]
    rcases Nat.lt_or_ge j i with h | h
    · have := T.am_get (i := i) (by omega) j h
      rw [show i + 1 - 1 - j = (i - 1 - j) + 1 by omega]
      simpa using this
    · have : j = i := by omega
      subst this
      simp
theorem Tr.bitM (T : Tr P eqt hc hl ops nx st t0 s0 X V G C) {i : Nat} (hi : i < ops.size) {o : Oper} (ho : ops[i]? = some o) (k : Nat) : bit (M X i) k = true ↔ ∃ j, waitsFor o j = true ∧ j < i ∧ (k = j ∨ bit (M X j) k = true) := by
  obtain ⟨o', y, ho', hm, hd, he⟩ := T.inv hi
  rw [ho] at ho'; cases ho'
  have hF := fits_spec T.fit i o ho
  rw [hm, ancV_bit, bit_zero]
  constructor
  · rintro (h | ⟨e, he, hb, h⟩)
    · cases h
    · have hw : waitsFor o e.on = true := Array.any_eq_true'.2 ⟨e, by simpa using he, by simp [hb]⟩
      have hlt := hF.lt _ hw
      refine ⟨e.on, hw, hlt, ?_⟩
      rwa [T.am_get (by omega) e.on hlt] at h
  · rintro ⟨j, hw, hlt, h⟩
    obtain ⟨e, he, hb⟩ := Array.any_eq_true'.1 hw
    simp only [Bool.and_eq_true, beq_iff_eq] at hb
    refine .inr ⟨e, by simpa using he, hb.1, ?_⟩
    rw [hb.2, T.am_get (by omega) j hlt]
    exact h
theorem Tr.bit_lt (T : Tr P eqt hc hl ops nx st t0 s0 X V G C) : ∀ (i : Nat), i < ops.size → ∀ k, bit (M X i) k = true → k < i := by
  intro i
  induction i using Nat.strongRecOn with
  | _ i ih =>
    intro hi k h
    obtain ⟨o, ho⟩ : ∃ o, ops[i]? = some o := ⟨_, Array.getElem?_eq_getElem hi⟩
    obtain ⟨j, hw, hlt, rfl | h⟩ := (T.bitM hi ho k).1 h
    · exact hlt
    · have := ih j hlt (by omega) k h
      omega
theorem Tr.bit_trans (T : Tr P eqt hc hl ops nx st t0 s0 X V G C) : ∀ (i : Nat), i < ops.size → ∀ j k, bit (M X i) j = true → bit (M X j) k = true → bit (M X i) k = true := by
  intro i
  induction i using Nat.strongRecOn with
  | _ i ih =>
    intro hi j k h1 h2
    obtain ⟨o, ho⟩ : ∃ o, ops[i]? = some o := ⟨_, Array.getElem?_eq_getElem hi⟩
    obtain ⟨j', hw, hlt, rfl | h⟩ := (T.bitM hi ho j).1 h1
    · exact (T.bitM hi ho k).2 ⟨_, hw, hlt, .inr h2⟩
    · exact (T.bitM hi ho k).2 ⟨j', hw, hlt, .inr (ih j' hlt (by omega) j k h h2)⟩
theorem Tr.bit_in (T : Tr P eqt hc hl ops nx st t0 s0 X V G C) {L : Nat → Bool} (hL : closed ops L) : ∀ (i : Nat) (o : Oper), ops[i]? = some o → (∀ k, waitsFor o k = true → L k = true) → ∀ k, bit (M X i) k = true → L k = true := by
  intro i
  induction i using Nat.strongRecOn with
  | _ i ih =>
    intro o ho hw k h
    have hi : i < ops.size := (Array.getElem?_eq_some_iff.1 ho).1
    obtain ⟨j, hwj, hlt, rfl | h⟩ := (T.bitM hi ho k).1 h
    · exact hw _ hwj
    · obtain ⟨oj, hoj⟩ : ∃ o, ops[j]? = some o := ⟨_, Array.getElem?_eq_getElem (show j < ops.size by omega)⟩
      exact ih j hlt oj hoj (fun k' hk' => hL j oj hoj (hw j hwj) k' hk') k h
theorem Tr.bit_mem (T : Tr P eqt hc hl ops nx st t0 s0 X V G C) {L : Nat → Bool} (hL : closed ops L) {i : Nat} (hi : i < ops.size) (h : L i = true) {k : Nat} (hk : bit (M X i) k = true) : L k = true :=
  T.bit_in hL i _ (Array.getElem?_eq_getElem hi) (fun k' hk' => hL i _ (Array.getElem?_eq_getElem hi) h k' hk') k hk

/-! ### Effects are in a row -/
theorem Tr.chain (T : Tr P eqt hc hl ops nx st t0 s0 X V G C) : ∀ (i : Nat), i < ops.size → C i = .eff → ∀ e, e < i → C e = .eff → bit (M X i) e = true := by
  intro i
  induction i using Nat.strongRecOn with
  | _ i ih =>
    intro hi hC
    have hlast : lastB (M X i) (X i).hi = true := by
      obtain ⟨o, y, ho, hm, hd, he⟩ := T.inv hi
      rw [hC] at hd
      exact hd.2.1
    have key : ∀ r, r ≤ i → lastB (M X i) (X r).hi = true → ∀ e, e < r → C e = .eff → bit (M X i) e = true := by
      intro r
      induction r with
      | zero => intro _ _ e he; omega
      | succ r ihr =>
        intro hr hl e he hCe
        by_cases hCr : C r = .eff
        · rw [T.hi_eff (by omega) hCr] at hl
          have hbr : bit (M X i) r = true := hl
          rcases Nat.lt_or_ge e r with h | h
          · exact T.bit_trans i hi r e hbr (ih r (by omega) (by omega) hCr e h hCe)
          · have : e = r := by omega
            subst this; exact hbr
        · rw [T.hi_not (by omega) hCr] at hl
          rcases Nat.lt_or_ge e r with h | h
          · exact ihr (by omega) hl e h hCe
          · have : e = r := by omega
            subst this; exact absurd hCe hCr
    exact key i (Nat.le_refl _) hlast
theorem Tr.s_same (T : Tr P eqt hc hl ops nx st t0 s0 X V G C) {p : Nat} : ∀ {q : Nat}, p ≤ q → q ≤ ops.size → (∀ e, p ≤ e → e < q → C e ≠ .eff) → (X q).s = (X p).s
  | 0, h, _, _ => by have : p = 0 := by omega
                     subst this; rfl
  | q + 1, h, hq, he => by
    rcases Nat.lt_or_ge p (q + 1) with h' | h'
    · rw [T.s_not (by omega) (he q (by omega) (by omega))]
      exact T.s_same (by omega) (by omega) fun e h1 h2 => he e h1 (by omega)
    · have : p = q + 1 := by omega
      subst this; rfl
/-- blocks that were made and not yet taken over by an effect -/
theorem Tr.fl_spec (T : Tr P eqt hc hl ops nx st t0 s0 X V G C) : ∀ {q : Nat}, q ≤ ops.size → ∀ {f : Nat} {g : Hp}, (f, g) ∈ (X q).fl → f < q ∧ C f = .new ∧ g = (G f).h ∧ ∀ e, e < q → C e = .eff → bit (M X e) f = false
  | 0, _, f, g, h => by rw [T.h0] at h; cases h
  | q + 1, hq, f, g, h => by
    rcases T.fl_next (by omega) h with ⟨h, hb⟩ | ⟨hC, e⟩
    · obtain ⟨h1, h2, h3, h4⟩ := T.fl_spec (by omega) h
      refine ⟨by omega, h2, h3, fun e he hCe => ?_⟩
      rcases Nat.lt_or_ge e q with h' | h'
      · exact h4 e h' hCe
      · have : e = q := by omega
        subst this; exact hb hCe
    · cases e
      refine ⟨by omega, hC, rfl, fun e he hCe => ?_⟩
      cases hb : bit (M X e) q with
      | false => rfl
      | true =>
        have := T.bit_lt e (by omega) q hb
        omega
theorem Tr.pe_all (T : Tr P eqt hc hl ops nx st t0 s0 X V G C) {r : Nat} (hC : C r = .read) {o : Oper} (ho : ops[r]? = some o) : ∀ {q : Nat}, r < q → q ≤ ops.size → { i := r, m := M X r, t := (X r).t, o := o.op, v := V r } ∈ (X q).pe
  | 0, h, _ => by omega
  | q + 1, h, hq => by
    rcases Nat.lt_or_ge r q with h' | h'
    · exact T.pe_old (by omega) (T.pe_all hC ho h' (by omega))
    · have : r = q := by omega
      subst this
      exact T.pe_new (by omega) hC ho
/-- a read: wherever it may run, it gives the same -/
theorem Tr.read_ok (T : Tr P eqt hc hl ops nx st t0 s0 X V G C) {r p : Nat} {o : Oper} (ho : ops[r]? = some o) (hC : C r = .read) (hp : p ≤ ops.size) (hpe : p = ops.size ∨ C p = .eff)
    (h1 : ∀ e, e < ops.size → C e = .eff → bit (M X r) e = true → e < p) (h2 : ∀ e, e < p → C e = .eff → bit (M X e) r = false) :
    ∃ q, q ≤ p ∧ (∀ e, q ≤ e → e < p → C e ≠ .eff) ∧ Chk P eqt hc hl (M X r) (X r).t o.op (V r) (X q).s (X q).fl := by
  have hr : r < ops.size := (Array.getElem?_eq_some_iff.1 ho).1
  obtain ⟨o', y, ho', hm, hd, he⟩ := T.inv hr
  rw [ho] at ho'; cases ho'
  rw [hC] at hd
  obtain ⟨hon, hk, hchk, hreads, -⟩ := hd
  by_cases hany : ∃ e, e < p ∧ r ≤ e ∧ C e = .eff
  · -- behind an effect that runs ahead of it
    have hmax : ∃ e, e < p ∧ r ≤ e ∧ C e = .eff ∧ ∀ e', e < e' → e' < p → C e' ≠ .eff := by
      clear hpe h1 h2
      induction p with
      | zero => obtain ⟨e, h, _⟩ := hany; omega
      | succ p ih =>
        by_cases hCp : C p = .eff ∧ r ≤ p
        · exact ⟨p, by omega, hCp.2, hCp.1, fun e' h h' => by omega⟩
        · obtain ⟨e, he1, he2, he3⟩ := hany
          have hep : e < p := by
            rcases Nat.lt_or_ge e p with h | h
            · exact h
            · have : e = p := by omega
              subst this; exact absurd ⟨he3, he2⟩ hCp
          obtain ⟨e, g1, g2, g3, g4⟩ := ih (by omega) ⟨e, hep, he2, he3⟩
          refine ⟨e, by omega, g2, g3, fun e' h h' => ?_⟩
          rcases Nat.lt_or_ge e' p with h'' | h''
          · exact g4 e' h h''
          · have : e' = p := by omega
            subst this
            intro hh; exact hCp ⟨hh, by omega⟩
    obtain ⟨e, g1, g2, g3, g4⟩ := hmax
    have hre : r < e := by
      rcases Nat.lt_or_ge r e with h | h
      · exact h
      · have : e = r := by omega
        subst this; rw [hC] at g3; cases g3
    refine ⟨e + 1, by omega, fun e' h h' => g4 e' (by omega) h', ?_⟩
    obtain ⟨oe, ye, hoe, hme, hde, hee⟩ := T.inv (show e < ops.size by omega)
    rw [g3] at hde
    obtain ⟨_, _, _, _, hpend, N, _, _, rfl⟩ := hde
    have := hpend _ (T.pe_all hC ho hre (by omega))
    rcases this with h | h
    · rw [h2 e g1 g3] at h; cases h
    · rw [hee]; exact h
  · -- no effect between
    rcases Nat.lt_or_ge p r with hlt | hge
    · -- ahead of effects that stand ahead of it
      have hpC : C p = .eff := by
        rcases hpe with rfl | h
        · omega
        · exact h
      have hno : ∀ e, p ≤ e → e < r → C e = .eff → bit (M X r) e = false := by
        intro e h h' hCe
        cases hb : bit (M X r) e with
        | false => rfl
        | true => have := h1 e (by omega) hCe hb; omega
      have key : ∀ r', p < r' → r' ≤ r → ReadsOk P eqt hc hl (M X r) (X r).t o.op (V r) (X r').hi → Chk P eqt hc hl (M X r) (X r).t o.op (V r) (X p).s (X p).fl := by
        intro r'
        induction r' with
        | zero => intro h; omega
        | succ r' ih =>
          intro h h' hok
          by_cases hCr : C r' = .eff
          · rw [T.hi_eff (by omega) hCr] at hok
            rcases hok with hb | ⟨hck, hok⟩
            · have := hno r' (by omega) (by omega) hCr
              rw [this] at hb; cases hb
            · rcases Nat.lt_or_ge p r' with h'' | h''
              · exact ih h'' (by omega) hok
              · have : p = r' := by omega
                subst this; exact hck
          · rw [T.hi_not (by omega) hCr] at hok
            rcases Nat.lt_or_ge p r' with h'' | h''
            · exact ih h'' (by omega) hok
            · have : p = r' := by omega
              subst this; exact absurd hpC hCr
      exact ⟨p, Nat.le_refl _, fun e h h' => by omega, key r hlt (Nat.le_refl _) hreads⟩
    · exact ⟨r, hge, fun e h h' hCe => hany ⟨e, h', h, hCe⟩, hchk⟩
end
end Go.AE

/- A region that draws its order: in whatever order it runs, it comes to what its walk says. No condition. -/
namespace Go.AE
open Go

/-! ### Slots -/
def TF (ops : Array Oper) (t0 : List SV) (u : Nat → SV) : Nat → List SV
  | 0 => t0
  | k + 1 => putT (dstAt ops k) (u k) (TF ops t0 u k)
theorem putT_get (d : Option Tmp) (v : SV) (t : List SV) (e : Nat) : (putT d v t)[e]? = if d = some e then (t[e]?).map (fun _ => v) else t[e]? := by
  cases d with
  | none => simp [putT]
  | some d =>
    simp only [putT, List.getElem?_set, Option.some.injEq]
    by_cases h : d = e
    · subst h
      by_cases hs : d < t.length <;> simp [hs]
    · simp [h]
theorem TF_none {ops : Array Oper} {t0 : List SV} {u : Nat → SV} {d : Nat} : ∀ k, (∀ j, j < k → dstAt ops j ≠ some d) → (TF ops t0 u k)[d]? = t0[d]?
  | 0, _ => rfl
  | k + 1, h => by rw [TF, putT_get, if_neg (h k (by omega))]; exact TF_none k fun j hj => h j (by omega)
theorem TF_some {ops : Array Oper} {t0 : List SV} {u : Nat → SV} {d j : Nat} (hd : ∀ i j, i ≠ j → ∀ d, dstAt ops i = some d → dstAt ops j ≠ some d) (hj : dstAt ops j = some d) : ∀ k, j < k → (TF ops t0 u k)[d]? = (t0[d]?).map fun _ => u j
  | 0, h => by omega
  | k + 1, h => by
    rw [TF, putT_get]
    rcases Nat.lt_or_ge j k with h' | h'
    · rw [if_neg (hd j k (by omega) d hj)]
      exact TF_some hd hj k h'
    · have : j = k := by omega
      subst this
      rw [if_pos hj, TF_none j fun i hi hh => hd i j (by omega) d hh hj]
theorem dst_apart {ops : Array Oper} (hf : fits ops = true) : ∀ i j, i ≠ j → ∀ d, dstAt ops i = some d → dstAt ops j ≠ some d := by
  intro i j hne d hdi
  cases ho : ops[i]? with
  | none => simp [dstAt, ho] at hdi
  | some o => exact (fits_spec hf i o ho).dst j (Ne.symm hne) d (by simpa [dstAt, ho] using hdi)
/-- what an operation's slot held at first -/
def oldT (ops : Array Oper) (t0 : List SV) (j : Nat) : SV := match dstAt ops j with
  | some d => nth t0 d
  | none => .junk
theorem frame_none {ops : Array Oper} {a : Act} {β : Nat → Value} {L : Nat → Bool} {d : Nat} : ∀ k, (∀ j, j < k → dstAt ops j ≠ some d) → (frameOf ops a β L k).tmps[d]? = a.tmps[d]?
  | 0, _ => rfl
  | k + 1, h => by
    have ih := frame_none (ops := ops) (a := a) (β := β) (L := L) k fun j hj => h j (by omega)
    simp only [frameOf]
    split
    · cases hd : dstAt ops k with
      | none => simpa [Act.put] using ih
      | some e =>
        have hne : e ≠ d := fun he => h k (by omega) (by rw [hd, he])
        simp only [Act.put]
        rw [Array.getElem?_setIfInBounds, if_neg hne]
        exact ih
    · exact ih
theorem TF_rel {ops : Array Oper} {t0 : List SV} {V : Nat → SV} {L : Nat → Bool} {ρ : Map} {a : Act} {β : Nat → Value} (h0 : VRs ρ t0 a.tmps.toList) :
    ∀ k, (∀ j, j < k → L j = false → ∀ d, dstAt ops j = some d → (frameOf ops a β L j).tmps[d]? = a.tmps[d]?) → (∀ j, j < k → L j = true → VR ρ (V j) (β j)) → VRs ρ (TF ops t0 (fun j => cond (L j) (V j) (oldT ops t0 j)) k) (frameOf ops a β L k).tmps.toList
  | 0, _, _ => h0
  | k + 1, hun, h => by
    have ih := TF_rel (ops := ops) h0 k (fun j hj => hun j (by omega)) fun j hj => h j (by omega)
    simp only [TF, frameOf]
    cases hL : L k with
    | true =>
      simp only [cond_true, if_true]
      exact put_rel ih _ (h k (by omega) hL)
    | false =>
      simp only [cond_false]
      have hsz : (frameOf ops a β L k).tmps.size = a.tmps.size := frame_size k
      cases hd : dstAt ops k with
      | none => exact ih
      | some d =>
        refine set_rel ih fun u hu => ?_
        have hold : oldT ops t0 k = nth t0 d := by simp [oldT, hd]
        rw [hold]
        have hun := hun k (by omega) hL d hd
        rw [Array.getElem?_toList, hun, ← Array.getElem?_toList] at hu
        obtain ⟨v, hv, hr⟩ : ∃ v, t0[d]? = some v ∧ VR ρ v u := by
          have hlt : d < t0.length := by rw [h0.length]; exact (List.getElem?_eq_some_iff.1 hu).1
          obtain ⟨u', hu', hr⟩ := h0.get (List.getElem?_eq_getElem hlt)
          rw [hu] at hu'; cases hu'
          exact ⟨_, List.getElem?_eq_getElem hlt, hr⟩
        rw [nth_eq, hv]; exact hr

section
variable {P : Program} {eqt : List TypeId} {hc : FuncId → List SV → St → (SV → St → Prop) → Prop} {hl : Code → List SV → St → (List SV → St → Prop) → (Nat → List SV → St → Prop) → (List SV → St → Prop) → Prop}
  {ops : Array Oper} {nx st : Nat} {t0 : List SV} {s0 : St} {X : Nat → Dx} {V : Nat → SV} {G : Nat → St} {C : Nat → Cls} {Γ : Cx} {ρ0 ρ : Map} {w : World} {L : Nat → Bool} {a : Act}

theorem Tr.t_all (T : Tr P eqt hc hl ops nx st t0 s0 X V G C) : ∀ {i : Nat}, i ≤ ops.size → (X i).t = TF ops t0 V i
  | 0, _ => by rw [T.h0]; rfl
  | i + 1, hi => by rw [T.t_next (by omega), T.t_all (by omega)]; rfl
theorem Tr.t_like (T : Tr P eqt hc hl ops nx st t0 s0 X V G C) {i : Nat} {o : Oper} (ho : ops[i]? = some o) (hLi : L i = false) (hcl : closed ops L) (hw : ∀ k, waitsFor o k = true → L k = true) {d : Nat} (hd : d ∈ o.looksAt ops) :
    nth (X i).t d = nth (TF ops t0 (fun j => cond (L j) (V j) (oldT ops t0 j)) ops.size) d := by
  have hi : i < ops.size := (Array.getElem?_eq_some_iff.1 ho).1
  have hF := fits_spec T.fit i o ho
  have hap := dst_apart T.fit
  rw [nth_eq, nth_eq, T.t_all (by omega)]
  by_cases h : ∃ j, j < ops.size ∧ dstAt ops j = some d
  · obtain ⟨j, hj, hdj⟩ := h
    rcases hF.looks j d hdj hd with hwj | hlate
    · have hlt := hF.lt j hwj
      rw [TF_some hap hdj i hlt, TF_some hap hdj ops.size hj]
      simp only [hw j hwj, cond_true]
    · have hij : i ≤ j := by rcases hlate with rfl | ⟨h1, _⟩ <;> omega
      have hLj : L j = false := by
        rcases hlate with rfl | ⟨_, oj, hoj, hwj⟩
        · exact hLi
        · cases hh : L j with
          | false => rfl
          | true => have := hcl j oj hoj hh i hwj; rw [hLi] at this; cases this
      rw [TF_none i fun k hk hh => hap k j (by omega) d hh hdj, TF_some hap hdj ops.size hj]
      simp only [hLj, cond_false, oldT, hdj, nth_eq]
      cases t0[d]? <;> rfl
  · have hno : ∀ j, j < ops.size → dstAt ops j ≠ some d := fun j hj hh => h ⟨j, hj, hh⟩
    rw [TF_none i fun j hj => hno j (by omega), TF_none ops.size hno]
theorem Tr.ev_like (T : Tr P eqt hc hl ops nx st t0 s0 X V G C) {i : Nat} {o : Oper} (ho : ops[i]? = some o) (hLi : L i = false) (hcl : closed ops L) (hw : ∀ k, waitsFor o k = true → L k = true) :
    ∀ x ∈ o.op.operands.toList, evS (X i).t x = evS (TF ops t0 (fun j => cond (L j) (V j) (oldT ops t0 j)) ops.size) x := by
  intro x hx
  cases x with
  | tmp d => exact T.t_like ho hLi hcl hw (List.mem_append_left _ (List.mem_filterMap.2 ⟨.tmp d, by simpa using hx, rfl⟩))
  | const v => rfl
  | func f => rfl
  | global g => rfl

/-! ### Names -/
def nm (nx st n j m : Nat) : Prop := ∃ q, m = nx + j * st + q * (n * st)
theorem nm_apart {nx st n j j' m : Nat} (hst : 0 < st) (hj : j < n) (hj' : j' < n) (h : nm nx st n j m) (h' : nm nx st n j' m) : j = j' := by
  obtain ⟨q, e⟩ := h
  obtain ⟨q', e'⟩ := h'
  have h1 : (j + q * n) * st = (j' + q' * n) * st := by
    rw [Nat.add_mul, Nat.add_mul, Nat.mul_assoc, Nat.mul_assoc]; omega
  have h2 := Nat.eq_of_mul_eq_mul_right hst h1
  have h3 : (j + q * n) % n = (j' + q' * n) % n := by rw [h2]
  rwa [Nat.add_mul_mod_self_right, Nat.add_mul_mod_self_right, Nat.mod_eq_of_lt hj, Nat.mod_eq_of_lt hj'] at h3
theorem nm_row {nx st n j m : Nat} (h : nm nx st n j m) : ∃ q, m = nx + q * st := by
  obtain ⟨q, e⟩ := h
  exact ⟨j + q * n, by rw [e, Nat.add_mul, Nat.mul_assoc]; omega⟩

/-- what is in memory when the operations L have run; p: the first effect that has not -/
def HL (ops : Array Oper) (X : Nat → Dx) (G : Nat → St) (C : Nat → Cls) (L : Nat → Bool) (p : Nat) (m : Nat) (x : Nat × Bk) : Prop :=
  find (X p).s.h m = some x ∨ ∃ f, f < ops.size ∧ L f = true ∧ C f = .new ∧ (∀ e, e < p → C e = .eff → bit (M X e) f = false) ∧ find (G f).h m = some x

theorem Tr.new_names (T : Tr P eqt hc hl ops nx st t0 s0 X V G C) {f : Nat} (hf : f < ops.size) (hC : C f = .new) {m : Nat} {x : Nat × Bk} (h : find (G f).h m = some x) : x.2.ro = false ∧ nm nx st ops.size f m := by
  obtain ⟨o, y, ho, hm, hd, he⟩ := T.inv hf
  rw [hC] at hd
  obtain ⟨_, _, hn, _⟩ := hd
  rcases namesB_spec hn m x h with ⟨y, hy⟩ | ⟨h1, q, h2⟩
  · cases hy
  · refine ⟨h1, q, ?_⟩
    rw [T.idx hf] at h2
    simpa [lane, lstep] using h2
theorem Tr.chain_names (T : Tr P eqt hc hl ops nx st t0 s0 X V G C) : ∀ {i : Nat}, i ≤ ops.size → ∀ {m : Nat} {x : Nat × Bk}, find (X i).s.h m = some x →
    (∃ y, find s0.h m = some y) ∨ ∃ j, j < ops.size ∧ nm nx st ops.size j m ∧ ∃ e, e < i ∧ C e = .eff ∧ (j = e ∨ bit (M X e) j = true)
  | 0, _, m, x, h => by rw [T.h0] at h; exact .inl ⟨x, h⟩
  | i + 1, hi, m, x, h => by
    have ih : ∀ {m x}, find (X i).s.h m = some x → _ := fun {m x} h => T.chain_names (i := i) (by omega) (m := m) (x := x) h
    have up : ∀ {m : Nat}, ((∃ y, find s0.h m = some y) ∨ ∃ j, j < ops.size ∧ nm nx st ops.size j m ∧ ∃ e, e < i ∧ C e = .eff ∧ (j = e ∨ bit (M X e) j = true)) →
        (∃ y, find s0.h m = some y) ∨ ∃ j, j < ops.size ∧ nm nx st ops.size j m ∧ ∃ e, e < i + 1 ∧ C e = .eff ∧ (j = e ∨ bit (M X e) j = true) := by
      rintro m (h | ⟨j, h1, h2, e, h3, h4⟩)
      · exact .inl h
      · exact .inr ⟨j, h1, h2, e, by omega, h4⟩
    by_cases hC : C i = .eff
    · rw [T.s_eff (by omega) hC] at h
      obtain ⟨o, y, ho, hm, hd, he⟩ := T.inv (show i < ops.size by omega)
      rw [hC] at hd
      obtain ⟨_, _, _, hn, _⟩ := hd
      rcases namesB_spec hn m x h with ⟨y, hy⟩ | ⟨h1, q, h2⟩
      · rcases selF_find hy with hy | ⟨f, g, hfl, hb, hg⟩
        · exact up (ih hy)
        · obtain ⟨g1, g2, rfl, g4⟩ := T.fl_spec (by omega) hfl
          exact .inr ⟨f, by omega, (T.new_names (by omega) g2 hg).2, i, by omega, hC, .inr hb⟩
      · rw [T.idx (by omega)] at h2
        exact .inr ⟨i, by omega, ⟨q, by simpa [lane, lstep] using h2⟩, i, by omega, hC, .inl rfl⟩
    · rw [T.s_not (by omega) hC] at h
      exact up (ih h)
/-- a block that was made and not yet taken over stands in no other place -/
theorem Tr.made_apart (T : Tr P eqt hc hl ops nx st t0 s0 X V G C) (hst : 0 < st) (hs0 : ∀ q, find s0.h (nx + q * st) = none) {p f : Nat} (hp : p ≤ ops.size) (hf : f < ops.size) (hC : C f = .new)
    (hb : ∀ e, e < p → C e = .eff → bit (M X e) f = false) {m : Nat} {x : Nat × Bk} (h : find (G f).h m = some x) : find (X p).s.h m = none := by
  cases hx : find (X p).s.h m with
  | none => rfl
  | some y =>
    have hn := (T.new_names hf hC h).2
    rcases T.chain_names hp hx with ⟨y', hy'⟩ | ⟨j, hj, hnj, e, he, hCe, hje⟩
    · obtain ⟨q, rfl⟩ := nm_row hn
      rw [hs0 q] at hy'; cases hy'
    · have := nm_apart hst hj hf hnj hn
      subst this
      rcases hje with rfl | hje
      · rw [hC] at hCe; cases hCe
      · rw [hb e he hCe] at hje; cases hje
theorem Tr.hl_fun (T : Tr P eqt hc hl ops nx st t0 s0 X V G C) (hst : 0 < st) (hs0 : ∀ q, find s0.h (nx + q * st) = none) {p : Nat} (hp : p ≤ ops.size) {m : Nat} {x y : Nat × Bk} (hx : HL ops X G C L p m x) (hy : HL ops X G C L p m y) : x = y := by
  rcases hx with hx | ⟨f, f1, f2, f3, f4, hx⟩ <;> rcases hy with hy | ⟨g, g1, g2, g3, g4, hy⟩
  · rw [hx] at hy; cases hy; rfl
  · rw [T.made_apart hst hs0 hp g1 g3 g4 hy] at hx; cases hx
  · rw [T.made_apart hst hs0 hp f1 f3 f4 hx] at hy; cases hy
  · have := nm_apart hst f1 g1 (T.new_names f1 f3 hx).2 (T.new_names g1 g3 hy).2
    subst this
    rw [hx] at hy; cases hy; rfl
/-- the blocks that an operation is shown are there -/
theorem Tr.shown (T : Tr P eqt hc hl ops nx st t0 s0 X V G C) {p q i : Nat} (hq : q ≤ p) (hp : p ≤ ops.size) (hno : ∀ e, q ≤ e → e < p → C e ≠ .eff) (hL : ∀ k, bit (M X i) k = true → L k = true) {m : Nat} {x : Nat × Bk}
    (h : find (selF (M X i) (X q).fl (X q).s.h) m = some x) : HL ops X G C L p m x := by
  rcases selF_find h with h | ⟨f, g, hfl, hb, hg⟩
  · left; rw [T.s_same hq hp hno]; exact h
  · obtain ⟨g1, g2, rfl, g4⟩ := T.fl_spec (by omega) hfl
    refine .inr ⟨f, by omega, hL f hb, g2, fun e he hCe => ?_, hg⟩
    rcases Nat.lt_or_ge e q with h' | h'
    · exact g4 e h' hCe
    · exact absurd hCe (hno e h' he)

/-- what holds when the operations L have run -/
def Inv (ops : Array Oper) (nx st : Nat) (X : Nat → Dx) (V : Nat → SV) (G : Nat → St) (C : Nat → Cls) (Γ : Cx) (ρ0 : Map) (β : Nat → Value) (L : Nat → Bool) (w : World) : Prop :=
  ∃ ρ p, p ≤ ops.size ∧ (p = ops.size ∨ (C p = .eff ∧ L p = false)) ∧ (∀ e, e < p → C e = .eff → L e = true) ∧ RelF Γ ρ (HL ops X G C L p) w ∧ Le ρ0 ρ ∧
    (∀ j, j < ops.size → L j = true → VR ρ (V j) (β j)) ∧ ∀ m, ρ m = ρ0 m ∨ ∃ j, j < ops.size ∧ L j = true ∧ (C j = .new ∨ C j = .eff) ∧ nm nx st ops.size j m ∧ m < (G j).nx

theorem next_eff (C : Nat → Cls) (n : Nat) : ∀ k i, i + k = n → ∃ p, i ≤ p ∧ p ≤ n ∧ (p = n ∨ C p = .eff) ∧ ∀ e, i ≤ e → e < p → C e ≠ .eff
  | 0, i, h => ⟨i, Nat.le_refl _, by omega, .inl (by omega), fun e h1 h2 => by omega⟩
  | k + 1, i, h => by
    by_cases hC : C i = .eff
    · exact ⟨i, Nat.le_refl _, by omega, .inr hC, fun e h1 h2 => by omega⟩
    · obtain ⟨p, h1, h2, h3, h4⟩ := next_eff C n k (i + 1) (by omega)
      refine ⟨p, by omega, h2, h3, fun e he he' => ?_⟩
      rcases Nat.lt_or_ge i e with h' | h'
      · exact h4 e h' he'
      · have : e = i := by omega
        subst this; exact hC
end
end Go.AE
