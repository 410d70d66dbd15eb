/- A region whose order of evaluation is drawn, walked once in the row in which it is written: what each operation gives is shown in every world of which a condition is known; the condition may speak of what has come up and of the blocks that were made. No condition. -/
import Derived.Test.YtjhaoimfgepkgaaKit
namespace Go.Proofs.Ytjhaoimfgepkgaa
set_option linter.unusedVariables false
set_option linter.unusedSimpArgs false
open Go.RowKit

def upd (β : Nat → Nat) (i b : Nat) : Nat → Nat := fun k => if k = i then b else β k
def more (L : Nat → Bool) (i : Nat) : Nat → Bool := fun k => k == i || L k
def waitsFor (o : Oper) (k : Nat) : Bool := o.after.any fun e => Region.binds .any e && e.on == k
def dstAt (ops : Array Oper) (i : Nat) : Option Tmp := (ops[i]?).bind (·.dst)
/-- the frame behind the operations of L, with the values v -/
def frameOf (ops : Array Oper) (a : Act) (v : Nat → Value) (L : Nat → Bool) : Nat → Act
  | 0 => a
  | n + 1 => if L n then (frameOf ops a v L n).put (dstAt ops n) (v n) else frameOf ops a v L n
def before (ops : Array Oper) : Nat → Nat → Nat → Bool
  | 0, _, _ => false
  | f + 1, i, k => match ops[i]? with
    | some o => o.after.any fun e => Region.binds .any e && (e.on == k || before ops f e.on k)
    | none => false
/-- each operation waits for smaller ones alone, for those among them whose slots it reads; no two write one slot -/
def fits (ops : Array Oper) : Bool :=
  Region.noSelect ops && (List.range ops.size).all fun i => match ops[i]? with
    | none => false
    | some o => (o.after.all fun e => !Region.binds .any e || decide (e.on < i)) &&
      (List.range ops.size).all fun j => (j == i || o.dst == none || o.dst != dstAt ops j) &&
        match dstAt ops j with
        | some t => !(o.looksAt ops).contains t || waitsFor o j
        | none => true
def cnt (L : Nat → Bool) : Nat → Nat
  | 0 => 0
  | n + 1 => cnt L n + if L n then 0 else 1

section
variable {ops : Array Oper} {a : Act} {v v' : Nat → Value} {L L' : Nat → Bool}

theorem cnt_same {L L' : Nat → Bool} : ∀ n, (∀ k, k < n → L k = L' k) → cnt L n = cnt L' n
  | 0, _ => rfl
  | n + 1, h => by simp only [cnt, cnt_same n (fun k hk => h k (by omega)), h n (by omega)]
theorem more_self (L : Nat → Bool) (i : Nat) : more L i i = true := by simp [more]
theorem more_ne {L : Nat → Bool} {i k : Nat} (h : k ≠ i) : more L i k = L k := by simp [more, h]
theorem more_le {L : Nat → Bool} {i k : Nat} (h : L k = true) : more L i k = true := by simp [more, h]
theorem cnt_more : ∀ {n i : Nat}, i < n → L i = false → cnt (more L i) n + 1 = cnt L n
  | 0, _, h, _ => by omega
  | n + 1, i, h, hi => by
    rcases Nat.lt_or_ge i n with h' | h'
    · have := cnt_more h' hi
      simp only [cnt, more_ne (show n ≠ i by omega)]
      omega
    · obtain rfl : i = n := by omega
      have := cnt_same (L := more L i) (L' := L) i (fun k hk => more_ne (by omega))
      simp only [cnt, more_self, this, hi]
      simp
theorem cnt_zero : ∀ {n : Nat}, cnt L n = 0 → ∀ k, k < n → L k = true
  | 0, _, k, h => by omega
  | n + 1, h, k, hk => by
    simp only [cnt] at h
    by_cases hn : L n = true
    · rcases Nat.lt_or_ge k n with h' | h'
      · exact cnt_zero (by simp [hn] at h; exact h) k h'
      · obtain rfl : k = n := by omega
        exact hn
    · simp [hn] at h

theorem frame_same : ∀ n, (∀ k, k < n → L k = L' k ∧ (L k = true → v k = v' k)) → frameOf ops a v L n = frameOf ops a v' L' n
  | 0, _ => rfl
  | n + 1, h => by
    have hn := h n (by omega)
    simp only [frameOf, frame_same n (fun k hk => h k (by omega)), ← hn.1]
    split
    · rename_i hl; rw [hn.2 hl]
    · rfl
theorem frame_upto (i : Nat) : ∀ n, i ≤ n → frameOf ops a v (fun k => decide (k < i)) n = frameOf ops a v (fun _ => true) i
  | 0, h => by obtain rfl : i = 0 := by omega
               rfl
  | n + 1, h => by
    rcases Nat.lt_or_ge n i with h' | h'
    · obtain rfl : i = n + 1 := by omega
      exact frame_same _ (fun k hk => ⟨by simp; exact hk, fun _ => rfl⟩)
    · have := frame_upto i n h'
      simp only [frameOf, this]
      simp [show ¬ n < i by omega]
theorem frame_more (hd : ∀ i j, i ≠ j → ∀ d, dstAt ops i = some d → dstAt ops j ≠ some d) : ∀ {n i : Nat}, i < n → L i = false →
    frameOf ops a v (more L i) n = (frameOf ops a v L n).put (dstAt ops i) (v i)
  | 0, _, h, _ => by omega
  | n + 1, i, h, hi => by
    rcases Nat.lt_or_ge i n with h' | h'
    · have := frame_more hd h' hi
      simp only [frameOf, more_ne (show n ≠ i by omega), this]
      split
      · exact Act.put_comm _ _ _ (fun d hd' => hd i n (by omega) d hd')
      · rfl
    · obtain rfl : i = n := by omega
      have := frame_same (ops := ops) (a := a) (v := v) (v' := v) (L := more L i) (L' := L) i (fun k hk => ⟨more_ne (by omega), fun _ => rfl⟩)
      simp only [frameOf, more_self, this, hi]
      simp
theorem put_get {a : Act} {d : Option Tmp} {x : Value} {t : Tmp} : (a.put d x).tmps[t]? = if d = some t then (a.tmps[t]?).map (fun _ => x) else a.tmps[t]? := by
  cases d with
  | none => simp [Act.put]
  | some d =>
    simp only [Act.put, Option.some.injEq, Array.getElem?_setIfInBounds]
    by_cases h : d = t
    · subst h
      by_cases hs : d < a.tmps.size <;> simp [hs]
    · simp [h]
theorem put_size {a : Act} {d : Option Tmp} {x : Value} : (a.put d x).tmps.size = a.tmps.size := by cases d <;> simp [Act.put]
theorem put_defs {a : Act} {d : Option Tmp} {x : Value} : (a.put d x).defers = a.defers := by cases d <;> rfl
theorem frame_get {t : Tmp} : ∀ n, (∀ k, k < n → dstAt ops k = some t → L k = L' k) → (frameOf ops a v L n).tmps[t]? = (frameOf ops a v L' n).tmps[t]?
  | 0, _ => rfl
  | n + 1, h => by
    have ih := frame_get n (fun k hk => h k (by omega))
    have hn := h n (by omega)
    simp only [frameOf]
    by_cases hd : dstAt ops n = some t
    · rw [← hn hd]
      split
      · simp only [put_get, ih]
      · exact ih
    · split <;> split <;> simp only [put_get, hd, if_false, ih]
theorem frame_size : ∀ n, (frameOf ops a v L n).tmps.size = a.tmps.size
  | 0 => rfl
  | n + 1 => by simp only [frameOf]; split <;> simp only [put_size, frame_size n]
theorem frame_defs : ∀ n, (frameOf ops a v L n).defers = a.defers
  | 0 => rfl
  | n + 1 => by simp only [frameOf]; split <;> simp only [put_defs, frame_defs n]
end

theorem put_eq {a a' : Act} {d : Option Tmp} {x y : Value} (hs : a.tmps.size = a'.tmps.size) (h : a.put d x = a.put d y) : a'.put d x = a'.put d y := by
  cases d with
  | none => rfl
  | some d =>
    by_cases hd : d < a.tmps.size
    · have := congrArg (fun q : Act => q.tmps[d]?) h
      simp [Act.put, hd] at this
      rw [this]
    · have hle : a'.tmps.size ≤ d := by rw [← hs]; exact Nat.le_of_not_lt hd
      simp only [Act.put, Array.setIfInBounds_eq_of_size_le hle]

theorem get_eval {a a' : Act} {x : Operand} (h : ∀ t, x = .tmp t → a.tmps[t]? = a'.tmps[t]?) : a.eval x = a'.eval x := by
  cases x with
  | tmp t => simp only [Act.eval, Array.getD_eq_getD_getElem?, h t rfl]
  | _ => rfl

/-- What runs in one frame runs in another that looks alike to it. -/
theorem wp_like {P : Program} {o : Oper} {a a' : Act} {w : World} {R : Value → World → Prop} {K' : Act → World → Prop} {Q : Exit → Act → World → Prop}
    (he : execOp a.eval o = execOp a'.eval o) (hs : a.tmps.size = a'.tmps.size)
    (h : o.wp P a w (fun x w' => ∃ u, x = a.put o.dst u ∧ R u w') (fun _ _ _ => False)) (hK : ∀ u w', R u w' → K' (a'.put o.dst u) w') : o.wp P a' w K' Q := by
  unfold Oper.wp at *
  rw [← he]
  generalize (execOp a.eval o).run P w = r at *
  have go : ∀ u w', (∃ u', a.put o.dst u = a.put o.dst u' ∧ R u' w') → K' (a'.put o.dst u) w' := fun u w' ⟨u', e, hr⟩ => put_eq hs e ▸ hK u' w' hr
  cases r with
  | ok n w' =>
    cases n <;> simp only [Oper.upon] at h ⊢
    case value u => exact go u w' h
    case skip => exact go _ w' h
    case defer d =>
      obtain ⟨u, e, _⟩ := h
      have := congrArg (fun q : Act => q.defers.length) e
      simp [put_defs] at this
    case enter f args =>
      refine Calls.mono h fun e w'' he => ?_
      cases e with
      | returned u => exact go u w'' he
      | panicked c => exact he.elim
      | outgrown => obtain ⟨_, _, hx⟩ := he; exact hx.elim
    case row row args => exact Rows.mono h fun u w'' he => go u w'' he
  | halt x w' =>
    cases x <;> simp only [Oper.upon] at h ⊢

section
variable (P : Program) (ops : Array Oper) (Q : Exit → Act → World → Prop) (S : (Nat → Nat) → (Nat → Bool) → World → Prop)

def StepG (i : Nat) (o : Oper) (F : (Nat → Nat) → Act) (v : (Nat → Nat) → Value) : Prop :=
  ∀ β L w, L i = false → (∀ k, waitsFor o k = true → L k = true) → S β L w → ∀ K : Act → World → Prop,
    (∀ b w', S (upd β i b) (more L i) w' → K ((F β).put o.dst (v (upd β i b))) w') →
    if Region.wanted o (yielded ops (F β).tmps) = true then o.wp P (F β) w K (fun _ _ _ => False) else K ((F β).put o.dst undef) w

def Walks : Nat → Nat → ((Nat → Nat) → Act) → Prop
  | 0, i, F => ∀ β L w, (∀ k, k < i → L k = true) → S β L w → Q .normal (F β) w
  | m + 1, i, F => ∃ o v, ops[i]? = some o ∧ (∀ β k b, k ≠ i → before ops ops.size i k = false → v (upd β k b) = v β) ∧ StepG P ops S i o F v ∧
      Walks m (i + 1) (fun β => (F β).put o.dst (v β))
end

section
variable {P : Program} {ops : Array Oper} {Q : Exit → Act → World → Prop} {S : (Nat → Nat) → (Nat → Bool) → World → Prop}

/-- all obligations, flat -/
def Flat (P : Program) (ops : Array Oper) (S : (Nat → Nat) → (Nat → Bool) → World → Prop) (a : Act) (v : Nat → (Nat → Nat) → Value) (n : Nat) : Prop :=
  ∀ i o, i < n → ops[i]? = some o → (∀ β k b, k ≠ i → before ops ops.size i k = false → v i (upd β k b) = v i β) ∧
    StepG P ops S i o (fun β => frameOf ops a (fun j => v j β) (fun _ => true) i) (v i)

theorem Walks.flat {a : Act} : ∀ (m i : Nat) (v : Nat → (Nat → Nat) → Value), i + m = ops.size → Flat P ops S a v i →
    Walks P ops Q S m i (fun β => frameOf ops a (fun j => v j β) (fun _ => true) i) →
    ∃ v, Flat P ops S a v ops.size ∧ ∀ β L w, (∀ k, k < ops.size → L k = true) → S β L w → Q .normal (frameOf ops a (fun j => v j β) (fun _ => true) ops.size) w
  | 0, i, v, hi, hf, h => by
    obtain rfl : i = ops.size := by omega
    exact ⟨v, hf, h⟩
  | m + 1, i, v, hi, hf, ⟨o, vi, ho, hl, hs, hr⟩ => by
    let v' : Nat → (Nat → Nat) → Value := fun j => if j = i then vi else v j
    have hv : ∀ j, j < i → v' j = v j := fun j hj => if_neg (by omega)
    have hvi : v' i = vi := if_pos rfl
    have hF : ∀ k, k ≤ i → (fun β => frameOf ops a (fun j => v' j β) (fun _ => true) k) = (fun β => frameOf ops a (fun j => v j β) (fun _ => true) k) := fun k hk =>
      funext fun β => frame_same k (fun j hj => ⟨rfl, fun _ => by rw [hv j (by omega)]⟩)
    refine Walks.flat m (i + 1) v' (by omega) ?_ ?_
    · intro j oj hj hoj
      rcases Nat.lt_or_ge j i with h' | h'
      · rw [hF j (by omega), hv j h']
        exact hf j oj h' hoj
      · obtain rfl : j = i := by omega
        rw [ho] at hoj
        cases hoj
        rw [hF j (Nat.le_refl _), hvi]
        exact ⟨hl, hs⟩
    · have e : (fun β => frameOf ops a (fun j => v' j β) (fun _ => true) (i + 1)) = (fun β => (frameOf ops a (fun j => v j β) (fun _ => true) i).put o.dst (vi β)) := by
        funext β
        have := congrFun (hF i (Nat.le_refl _)) β
        simp only at this
        simp only [frameOf, this, hvi, dstAt, ho]
        rfl
      rw [e]
      exact hr

theorem before_in {L : Nat → Bool} (hc : ∀ j o, ops[j]? = some o → L j = true → ∀ k, waitsFor o k = true → L k = true) :
    ∀ f i k, L i = true → before ops f i k = true → L k = true
  | 0, i, k, _, h => by simp [before] at h
  | f + 1, i, k, hi, h => by
    simp only [before] at h
    split at h
    · rename_i o ho
      obtain ⟨e, he, hb⟩ := Array.any_eq_true'.1 h
      simp only [Bool.and_eq_true, Bool.or_eq_true, beq_iff_eq] at hb
      have hw : L e.on = true := hc i o ho hi e.on (Array.any_eq_true'.2 ⟨e, he, by simp [hb.1]⟩)
      rcases hb.2 with rfl | hb2
      · exact hw
      · exact before_in hc f e.on k hw hb2
    · cases h

theorem walks_sound (hf : fits ops = true) {a : Act} {v : Nat → (Nat → Nat) → Value} (hv : Flat P ops S a v ops.size)
    (hQ : ∀ β L w, (∀ k, k < ops.size → L k = true) → S β L w → Q .normal (frameOf ops a (fun j => v j β) (fun _ => true) ops.size) w) :
    ∀ (fuel : Nat) (listed : Array Bool) (x : Act) (w : World) (β : Nat → Nat) (L : Nat → Bool), listed.size = ops.size → (∀ k, L k = listed.getD k false) →
      (∀ j o, ops[j]? = some o → L j = true → ∀ k, waitsFor o k = true → L k = true) → cnt L ops.size = fuel → S β L w →
      x = frameOf ops a (fun j => v j β) L ops.size → wpAny P .any ops Q fuel listed x w := by
  have hfs : Region.noSelect ops = true := by simp only [fits, Bool.and_eq_true] at hf; exact hf.1
  have hfi : ∀ i o, ops[i]? = some o → (∀ k, waitsFor o k = true → k < i) ∧ ∀ j, (j ≠ i → ∀ d, o.dst = some d → dstAt ops j ≠ some d) ∧
      ∀ t, dstAt ops j = some t → t ∈ o.looksAt ops → waitsFor o j = true := by
    intro i o ho
    have hi : i < ops.size := (Array.getElem?_eq_some_iff.1 ho).1
    simp only [fits, Bool.and_eq_true, List.all_eq_true, List.mem_range] at hf
    have h1 := hf.2 i hi
    simp only [ho, Bool.and_eq_true] at h1
    refine ⟨fun k hk => ?_, fun j => ?_⟩
    · obtain ⟨e, he, hb⟩ := Array.any_eq_true'.1 hk
      simp only [Bool.and_eq_true, beq_iff_eq] at hb
      have := Array.all_eq_true_iff_forall_mem.1 h1.1 e he
      simp only [hb.1, Bool.not_true, Bool.false_or, decide_eq_true_eq] at this
      omega
    · rcases Nat.lt_or_ge j ops.size with hj | hj
      · have h2 := h1.2
        rw [List.all_eq_true] at h2
        have h3 := h2 j (List.mem_range.2 hj)
        simp only [Bool.and_eq_true] at h3
        refine ⟨fun hne d hd hdj => ?_, fun t ht hm => ?_⟩
        · simp [hne, hd, hdj] at h3
        · have h4 := h3.2
          simp only [ht, Bool.or_eq_true, Bool.not_eq_true'] at h4
          rcases h4 with h4 | h4
          · simp at h4; exact absurd hm h4
          · exact h4
      · have : dstAt ops j = none := by simp [dstAt, Array.getElem?_eq_none hj]
        exact ⟨fun _ d _ => by simp [this], fun t ht => by simp [this] at ht⟩
  have hd : ∀ i j, i ≠ j → ∀ d, dstAt ops i = some d → dstAt ops j ≠ some d := by
    intro i j hne d hdi
    cases ho : ops[i]? with
    | none => simp [dstAt, ho] at hdi
    | some o => exact ((hfi i o ho).2 j).1 (Ne.symm hne) d (by simpa [dstAt, ho] using hdi)
  intro fuel
  induction fuel with
  | zero =>
    intro listed x w β L hsz hL hc hn hS hx
    have hall := cnt_zero hn
    refine ⟨?_, ?_⟩
    · cases hr : Region.ready .any ops listed with
      | nil => rfl
      | cons i is =>
        have hi : i ∈ Region.ready .any ops listed := by rw [hr]; exact List.mem_cons_self
        obtain ⟨h0, o, ho, _⟩ := mem_ready.1 hi
        have hlt : i < ops.size := (Array.getElem?_eq_some_iff.1 ho).1
        have h1 := hall i hlt
        rw [hL] at h1
        simp [hsz, hlt] at h0 h1
        rw [h0] at h1
        cases h1
    · rw [hx, frame_same (v' := fun j => v j β) (L' := fun _ => true) ops.size (fun k hk => ⟨hall k hk, fun _ => rfl⟩)]
      exact hQ β L w hall hS
  | succ fuel ih =>
    intro listed x w β L hsz hL hc hn hS hx
    have hready : ∀ i, i < ops.size → L i = false → (∀ o, ops[i]? = some o → ∀ k, waitsFor o k = true → L k = true) → i ∈ Region.ready .any ops listed := by
      intro i hi hli hw
      refine mem_ready.2 ⟨?_, ops[i], Array.getElem?_eq_some_iff.2 ⟨hi, rfl⟩, fun e he hb => ?_⟩
      · rw [hL] at hli; simp [hsz, hi] at hli ⊢; exact hli
      · rw [← hL]
        exact hw ops[i] (Array.getElem?_eq_some_iff.2 ⟨hi, rfl⟩) e.on (Array.any_eq_true'.2 ⟨e, he, by simp [hb]⟩)
    refine ⟨fun hr => ?_, fun i hi => ?_⟩
    · have hall : ∀ k, k < ops.size → L k = true := by
        intro k
        induction k using Nat.strongRecOn with
        | _ k ihk =>
          intro hk
          by_cases hl : L k = true
          · exact hl
          · have := hready k hk (by simpa using hl) (fun o ho k' hk' => ihk k' ((hfi k o ho).1 k' hk') (by have := (hfi k o ho).1 k' hk'; omega))
            rw [hr] at this
            cases this
      have : cnt L ops.size = 0 := by
        have e := cnt_same (L := L) (L' := fun _ => true) ops.size (fun k hk => hall k hk)
        have z : ∀ n, cnt (fun _ => true) n = 0 := fun n => by induction n with
          | zero => rfl
          | succ n ih => simp [cnt, ih]
        rw [e, z]
      omega
    · obtain ⟨h0, o, ho, hafter⟩ := mem_ready.1 hi
      have hlt : i < ops.size := (Array.getElem?_eq_some_iff.1 ho).1
      have hli : L i = false := by rw [hL]; simp [hsz, hlt] at h0 ⊢; exact h0
      have hpre : ∀ k, waitsFor o k = true → L k = true := by
        intro k hk
        obtain ⟨e, he, hb⟩ := Array.any_eq_true'.1 hk
        simp only [Bool.and_eq_true, beq_iff_eq] at hb
        rw [hL, ← hb.2]
        exact hafter e he hb.1
      obtain ⟨hloc, hstep⟩ := hv i o hlt ho
      have hstep := hstep β L w hli hpre hS
      -- the two frames look alike to the operation
      have hlook : ∀ t, t ∈ o.looksAt ops → (frameOf ops a (fun j => v j β) (fun _ => true) i).tmps[t]? = x.tmps[t]? := by
        intro t ht
        rw [hx, ← frame_upto i ops.size (by omega)]
        refine frame_get ops.size (fun k hk hdk => ?_)
        have hw := ((hfi i o ho).2 k).2 t hdk ht
        rw [hpre k hw]
        simp [(hfi i o ho).1 k hw]
      have hexec : execOp (frameOf ops a (fun j => v j β) (fun _ => true) i).eval o = execOp x.eval o :=
        execOp_congr o (fun cs b => Region.noSelect_spec hfs i o cs b ho) fun y hy => get_eval fun t hyt => hlook t (by
          subst hyt
          exact List.mem_append_left _ (List.mem_filterMap.2 ⟨.tmp t, by simpa using hy, rfl⟩))
      have hwant : Region.wanted o (yielded ops (frameOf ops a (fun j => v j β) (fun _ => true) i).tmps) = Region.wanted o (yielded ops x.tmps) := by
        unfold Region.wanted
        cases hg : o.guard with
        | none => rfl
        | some gw =>
          obtain ⟨g, want⟩ := gw
          have : yielded ops (frameOf ops a (fun j => v j β) (fun _ => true) i).tmps g = yielded ops x.tmps g := by
            unfold yielded
            cases ht : (ops[g]?).bind (·.dst) with
            | none => rfl
            | some t =>
              have := hlook t (by simp [Oper.looksAt, hg, ht])
              simp only [Option.bind_some, this]
          simp only [this]
      have hsize : (frameOf ops a (fun j => v j β) (fun _ => true) i).tmps.size = x.tmps.size := by rw [hx, frame_size, frame_size]
      let R : Value → World → Prop := fun u w' => ∃ b, u = v i (upd β i b) ∧ S (upd β i b) (more L i) w'
      have hnext : ∀ u w', R u w' → wpAny P .any ops Q fuel (listed.setIfInBounds i true) (x.put o.dst u) w' := by
        rintro u w' ⟨b, rfl, hS'⟩
        refine ih (listed.setIfInBounds i true) _ w' (upd β i b) (more L i) (by simp [hsz]) (fun k => ?_) (fun j oj hj hlj k hk => ?_) ?_ hS' ?_
        · by_cases hki : k = i
          · subst hki; rw [more_self]; simp [hsz, hlt]
          · rw [more_ne hki, hL, getD_set_ne false (Ne.symm hki)]
        · by_cases hji : j = i
          · subst hji; rw [ho] at hj; cases hj; exact more_le (hpre k hk)
          · rw [more_ne hji] at hlj; exact more_le (hc j oj hj hlj k hk)
        · have := cnt_more hlt hli; omega
        · rw [frame_more hd hlt hli, hx]
          have hdi : dstAt ops i = o.dst := by simp [dstAt, ho]
          rw [hdi]
          refine congrArg (fun q : Act => q.put o.dst _) ?_
          refine frame_same ops.size (fun k hk => ⟨rfl, fun hlk => ?_⟩)
          have hki : i ≠ k := fun e => by subst e; rw [hli] at hlk; cases hlk
          cases hok : ops[k]? with
          | none => exact absurd hk (by have := Array.getElem?_eq_none_iff.1 hok; omega)
          | some ok =>
            refine ((hv k ok hk hok).1 β i b hki ?_).symm
            cases hb : before ops ops.size k i with
            | false => rfl
            | true => have := before_in hc ops.size k i hlk hb; rw [hli] at this; cases this
      have hrun := hstep (fun x' w' => ∃ u, x' = (frameOf ops a (fun j => v j β) (fun _ => true) i).put o.dst u ∧ R u w') (fun b w' h' => ⟨_, rfl, b, rfl, h'⟩)
      unfold wpOp
      rw [ho]
      show if Region.wanted o (yielded ops x.tmps) = true then _ else _
      rw [hwant] at hrun
      split
      · rename_i hw
        rw [if_pos hw] at hrun
        exact .inl (wp_like hexec hsize hrun hnext)
      · rename_i hw
        rw [if_neg hw] at hrun
        obtain ⟨u, e, hr⟩ := hrun
        rw [put_eq hsize e]
        exact hnext u w hr

/-- A region that draws its order: walked once. -/
theorem wp_region_sets {id : Nat} {a : Act} {w : World} (β : Nat → Nat) (hm : P.follows .mixedOrders = true) (hf : fits ops = true)
    (h0 : S β (fun _ => false) w.drew) (h : Walks P ops Q S ops.size 0 (fun _ => a)) : (Code.region id ops true).wp P Q a w := by
  obtain ⟨v, hv, hQ⟩ := Walks.flat (a := a) ops.size 0 (fun _ _ => undef) (by omega) (fun i o hi => by omega) h
  refine wp_region_any hm ?_
  refine walks_sound hf hv hQ ops.size _ a w.drew β (fun _ => false) (by simp) (fun k => ?_) (fun j o _ hf => by cases hf) ?_ h0 ?_
  · rcases Nat.lt_or_ge k ops.size with hk | hk <;> simp [hk]
  · have z : ∀ n, cnt (fun _ => false) n = n := fun n => by induction n with
      | zero => rfl
      | succ n ih => simp [cnt, ih]
    exact z _
  · have z : ∀ n, frameOf ops a (fun j => v j β) (fun _ => false) n = a := fun n => by induction n with
      | zero => rfl
      | succ n ih => simp [frameOf, ih]
    exact (z _).symm

theorem upd_self (β : Nat → Nat) (i : Nat) : upd β i (β i) = β := by
  funext k
  by_cases h : k = i <;> simp [upd, h]

end

/-- What a run of an operation gives. -/
def Gives (P : Program) (R : Value → World → Prop) : Result Next → Prop
  | .ok (.value u) w => R u w
  | .ok .skip w => R undef w
  | .ok (.enter f xs) w => Calls P f xs w fun e w' => ∃ u, e = .returned u ∧ R u w'
  | .ok (.row row xs) w => Rows P row xs w R
  | _ => False
section
variable {P : Program} {R : Value → World → Prop}
theorem Gives.value {u : Value} {w : World} (h : R u w) : Gives P R (.ok (.value u) w) := h
theorem Gives.skip {w : World} (h : R undef w) : Gives P R (.ok .skip w) := h
theorem Gives.enter {f : FuncId} {xs : Array Value} {w : World} (h : Calls P f xs w fun e w' => ∃ u, e = .returned u ∧ R u w') : Gives P R (.ok (.enter f xs) w) := h
theorem Gives.if2 {p q : Prop} [Decidable p] [Decidable q] {w : World} {b : Bool} (h : R (.bool b) w) (hb : (decide p && decide q) = b) :
    Gives P R (if p then if q then .ok (.value (.bool true)) w else .ok (.value (.bool false)) w else .ok (.value (.bool false)) w) := by
  subst hb
  by_cases hp : p <;> by_cases hq : q <;> simp only [hp, hq, if_true, if_false] <;> simp only [hp, hq, decide_true, decide_false, Bool.and_true, Bool.and_false, Bool.true_and, Bool.false_and] at h <;> exact h
theorem Gives.wp {o : Oper} {a : Act} {w : World} {K : Act → World → Prop} {Q : Exit → Act → World → Prop} (h : Gives P R ((execOp a.eval o).run P w))
    (hK : ∀ u w', R u w' → K (a.put o.dst u) w') : o.wp P a w K Q := by
  unfold Oper.wp
  generalize (execOp a.eval o).run P w = r at *
  cases r with
  | ok n w' =>
    cases n <;> simp only [Oper.upon] <;> first
      | exact hK _ _ h
      | exact Calls.mono h (fun e w'' ⟨u, he, hr⟩ => by subst he; exact hK _ _ hr)
      | exact Rows.mono h (fun u w'' hr => hK _ _ hr)
      | exact h.elim
  | halt x w' => exact h.elim
end

section
variable (P : Program) (ops : Array Oper) (Q : Exit → Act → World → Prop) (S : (Nat → Nat) → (Nat → Bool) → World → Prop)
/-- 'Walks' along the list of the operations. -/
def WalksL : List Oper → Nat → ((Nat → Nat) → Act) → Prop
  | [], i, F => ∀ β L w, (∀ k, k < i → L k = true) → S β L w → Q .normal (F β) w
  | o :: r, i, F => ∃ v, (∀ β k b, k ≠ i → before ops ops.size i k = false → v (upd β k b) = v β) ∧ StepG P ops S i o F v ∧
      WalksL r (i + 1) (fun β => (F β).put o.dst (v β))
end
section
variable {P : Program} {ops : Array Oper} {Q : Exit → Act → World → Prop} {S : (Nat → Nat) → (Nat → Bool) → World → Prop}
theorem WalksL.walks : ∀ {r : List Oper} {i : Nat} {F : (Nat → Nat) → Act}, (∀ k, r[k]? = ops[i + k]?) → WalksL P ops Q S r i F → Walks P ops Q S r.length i F
  | [], _, _, _, h => h
  | o :: r, i, _, hr, ⟨v, hl, hs, h⟩ => ⟨o, v, by simpa using (hr 0).symm, hl, hs, h.walks (fun k => by simpa [Nat.add_assoc, Nat.add_comm 1] using hr (k + 1))⟩

/-- A region that draws its order. -/
theorem wp_region_row {id : Nat} {os : List Oper} {a : Act} {w : World} (β : Nat → Nat) (hm : P.follows .mixedOrders = true) (hf : fits os.toArray = true)
    (h0 : S β (fun _ => false) w.drew) (h : WalksL P os.toArray Q S os 0 (fun _ => a)) : (Code.region id os.toArray true).wp P Q a w :=
  wp_region_sets β hm hf h0 (by simpa using h.walks (fun k => by simp))

theorem wanted_none {o : Oper} {y : Nat → Option Bool} (h : o.guard = none) : Region.wanted o y = true := by simp [Region.wanted, h]
theorem wanted_some {o : Oper} {y : Nat → Option Bool} {g : Nat} {b c : Bool} (h : o.guard = some (g, b)) (hy : y g = some c) : Region.wanted o y = (c == b) := by simp [Region.wanted, h, hy]
theorem yields_bool {tmps : Array Value} {g : Nat} {t : Tmp} {c : Bool} (hd : dstAt ops g = some t) (ht : tmps[t]? = some (.bool c)) : yielded ops tmps g = some c := by
  unfold dstAt at hd
  simp [yielded, hd, ht]

variable {r : List Oper} {i : Nat} {F : (Nat → Nat) → Act} {o : Oper}
theorem stepG_fixed (v : (Nat → Nat) → Value) (hw : ∀ β, Region.wanted o (yielded ops (F β).tmps) = true)
    (hs : ∀ β L w, L i = false → (∀ k, waitsFor o k = true → L k = true) → S β L w → Gives P (fun u w' => u = v β ∧ S β (more L i) w') ((execOp (F β).eval o).run P w)) : StepG P ops S i o F v := by
  intro β L w hi hp hS K hK
  rw [if_pos (hw β)]
  refine Gives.wp (hs β L w hi hp hS) ?_
  rintro u w' ⟨rfl, h'⟩
  have := hK (β i) w' (by rw [upd_self]; exact h')
  rw [upd_self] at this
  exact this
theorem stepG_make (v : Nat → Value) (hw : ∀ β, Region.wanted o (yielded ops (F β).tmps) = true)
    (hs : ∀ β L w, L i = false → (∀ k, waitsFor o k = true → L k = true) → S β L w → Gives P (fun u w' => ∃ b, u = v b ∧ S (upd β i b) (more L i) w') ((execOp (F β).eval o).run P w)) :
    StepG P ops S i o F (fun β => v (β i)) := by
  intro β L w hi hp hS K hK
  rw [if_pos (hw β)]
  refine Gives.wp (hs β L w hi hp hS) ?_
  rintro u w' ⟨b, rfl, h'⟩
  have := hK b w' h'
  simpa [upd] using this
/-- An operation that gives the same in every such world. -/
theorem WalksL.op {v : (Nat → Nat) → Value} (hg : o.guard = none)
    (hs : ∀ β L w, L i = false → (∀ k, waitsFor o k = true → L k = true) → S β L w → Gives P (fun u w' => u = v β ∧ S β (more L i) w') ((execOp (F β).eval o).run P w))
    (hl : ∀ β k b, k ≠ i → before ops ops.size i k = false → v (upd β k b) = v β)
    (hr : WalksL P ops Q S r (i + 1) (fun β => (F β).put o.dst (v β))) : WalksL P ops Q S (o :: r) i F :=
  ⟨v, hl, stepG_fixed v (fun _ => wanted_none hg) hs, hr⟩
/-- One behind a guard that lets it. -/
theorem WalksL.opT {v : (Nat → Nat) → Value} {g : Nat} {b : Bool} {t : Tmp} (hg : o.guard = some (g, b)) (hd : dstAt ops g = some t) (ht : ∀ β, (F β).tmps[t]? = some (.bool b))
    (hs : ∀ β L w, L i = false → (∀ k, waitsFor o k = true → L k = true) → S β L w → Gives P (fun u w' => u = v β ∧ S β (more L i) w') ((execOp (F β).eval o).run P w))
    (hl : ∀ β k b, k ≠ i → before ops ops.size i k = false → v (upd β k b) = v β)
    (hr : WalksL P ops Q S r (i + 1) (fun β => (F β).put o.dst (v β))) : WalksL P ops Q S (o :: r) i F :=
  ⟨v, hl, stepG_fixed v (fun β => by rw [wanted_some hg (yields_bool hd (ht β))]; simp) hs, hr⟩
/-- One behind a guard that does not. -/
theorem WalksL.opU {g : Nat} {b : Bool} {t : Tmp} (hg : o.guard = some (g, b)) (hd : dstAt ops g = some t) (ht : ∀ β, (F β).tmps[t]? = some (.bool !b))
    (hS : ∀ β L w, L i = false → S β L w → S β (more L i) w)
    (hr : WalksL P ops Q S r (i + 1) (fun β => (F β).put o.dst undef)) : WalksL P ops Q S (o :: r) i F :=
  ⟨fun _ => undef, fun _ _ _ _ _ => rfl, fun β L w hi hp h K hK => by
    have hw : Region.wanted o (yielded ops (F β).tmps) = false := by rw [wanted_some hg (yields_bool hd (ht β))]; cases b <;> rfl
    rw [hw]
    have := hK (β i) w (by rw [upd_self]; exact hS β L w hi h)
    simpa using this, hr⟩
/-- An operation that makes a block. -/
theorem WalksL.make (v : Nat → Value) (hg : o.guard = none)
    (hs : ∀ β L w, L i = false → (∀ k, waitsFor o k = true → L k = true) → S β L w → Gives P (fun u w' => ∃ b, u = v b ∧ S (upd β i b) (more L i) w') ((execOp (F β).eval o).run P w))
    (hr : WalksL P ops Q S r (i + 1) (fun β => (F β).put o.dst (v (β i)))) : WalksL P ops Q S (o :: r) i F :=
  ⟨fun β => v (β i), fun β k b hk _ => by simp [upd, Ne.symm hk], stepG_make v (fun _ => wanted_none hg) hs, hr⟩
end

/-! ### No block that is made is spoken of -/
section
variable (P : Program) (ops : Array Oper) (Q : Exit → Act → World → Prop) (S : World → Prop)
def WalkO : List Oper → Nat → Act → Prop
  | [], _, a => ∀ w, S w → Q .normal a w
  | o :: r, i, a => ∃ v, (∀ w, S w → ∀ K : Act → World → Prop, (∀ w', S w' → K (a.put o.dst v) w') →
      if Region.wanted o (yielded ops a.tmps) = true then o.wp P a w K (fun _ _ _ => False) else K (a.put o.dst undef) w) ∧ WalkO r (i + 1) (a.put o.dst v)
end
section
variable {P : Program} {ops : Array Oper} {Q : Exit → Act → World → Prop} {S : World → Prop}
theorem WalkO.walks : ∀ {r : List Oper} {i : Nat} {a : Act}, WalkO P ops Q S r i a → WalksL P ops Q (fun _ _ w => S w) r i (fun _ => a)
  | [], _, _, h => fun _ _ w _ hS => h w hS
  | _ :: _, _, _, ⟨v, hs, hr⟩ => ⟨fun _ => v, fun _ _ _ _ _ => rfl, fun β _ w _ _ hS K hK => hs w hS K (fun w' h' => hK (β 0) w' h'), hr.walks⟩
/-- A region that draws its order and makes no block that it speaks of again. -/
theorem wp_region_once {id : Nat} {os : List Oper} {a : Act} {w : World} (hm : P.follows .mixedOrders = true) (hf : fits os.toArray = true)
    (h0 : S w.drew) (h : WalkO P os.toArray Q S os 0 a) : (Code.region id os.toArray true).wp P Q a w :=
  wp_region_row (S := fun _ _ w => S w) (fun _ => 0) hm hf h0 h.walks
variable {r : List Oper} {i : Nat} {a : Act} {o : Oper}
theorem WalkO.stop (h : ∀ w, S w → Q .normal a w) : WalkO P ops Q S [] i a := h
theorem WalkO.op {v : Value} (hg : o.guard = none)
    (hs : ∀ w, S w → Gives P (fun u w' => u = v ∧ S w') ((execOp a.eval o).run P w))
    (hr : WalkO P ops Q S r (i + 1) (a.put o.dst v)) : WalkO P ops Q S (o :: r) i a :=
  ⟨v, fun w hS K hK => by rw [if_pos (wanted_none hg)]; exact Gives.wp (hs w hS) (by rintro u w' ⟨rfl, h'⟩; exact hK w' h'), hr⟩
theorem WalkO.opT {v : Value} {g : Nat} {b : Bool} {t : Tmp} (hg : o.guard = some (g, b)) (hd : dstAt ops g = some t) (ht : a.tmps[t]? = some (.bool b))
    (hs : ∀ w, S w → Gives P (fun u w' => u = v ∧ S w') ((execOp a.eval o).run P w))
    (hr : WalkO P ops Q S r (i + 1) (a.put o.dst v)) : WalkO P ops Q S (o :: r) i a :=
  ⟨v, fun w hS K hK => by
    have hw : Region.wanted o (yielded ops a.tmps) = true := by rw [wanted_some hg (yields_bool hd ht)]; simp
    rw [if_pos hw]; exact Gives.wp (hs w hS) (by rintro u w' ⟨rfl, h'⟩; exact hK w' h'), hr⟩
theorem WalkO.opU {g : Nat} {b : Bool} {t : Tmp} (hg : o.guard = some (g, b)) (hd : dstAt ops g = some t) (ht : a.tmps[t]? = some (.bool !b))
    (hr : WalkO P ops Q S r (i + 1) (a.put o.dst undef)) : WalkO P ops Q S (o :: r) i a :=
  ⟨undef, fun w hS K hK => by
    have hw : Region.wanted o (yielded ops a.tmps) = false := by rw [wanted_some hg (yields_bool hd ht)]; cases b <;> rfl
    rw [hw]; simpa using hK w hS, hr⟩
end
/-! ### One block that the region makes (operation A) and stores into (operation T) -/
/-- Block b is younger than W; it holds cs. -/
def Fresh (W w : World) (b : Nat) (cs : List Value) : Prop :=
  W.heap.size ≤ b ∧ b < w.heap.size ∧ ∀ j u, cs[j]? = some u → w.cell? ⟨b, j, none⟩ = some u ∧ w.frozen? ⟨b, j, none⟩ = false
theorem Fresh.keep {W w w' : World} {b : Nat} {cs : List Value} (h : Fresh W w b cs) (hb : Below w.heap.size w w') : Fresh W w' b cs :=
  ⟨h.1, Nat.lt_of_lt_of_le h.2.1 hb.size, fun j u hj => ⟨(hb.cell (p := ⟨b, j, none⟩) h.2.1).trans (h.2.2 j u hj).1, (hb.frozen (p := ⟨b, j, none⟩) h.2.1).trans (h.2.2 j u hj).2⟩⟩
theorem Fresh.at {W w : World} {b : Nat} {cs : List Value} (h : Fresh W w b cs) (j : Nat) {u : Value} (hj : cs[j]? = some u) : w.cell? ⟨b, j, none⟩ = some u := (h.2.2 j u hj).1
/-- Block β A is made by operation A with the cells Z; operation T stores V. -/
def Made (A T : Nat) (W : World) (Z V : List Value) (β : Nat → Nat) (L : Nat → Bool) (w : World) : Prop :=
  (L T = true → L A = true) ∧ (L A = true → Fresh W w (β A) (if L T = true then V else Z))
section
variable {A T : Nat} {W w w' : World} {Z V : List Value} {β : Nat → Nat} {L : Nat → Bool}
theorem Made.start : Made A T W Z V β (fun _ => false) w := ⟨fun h => (by cases h), fun h => (by cases h)⟩
theorem Made.other {i : Nat} (h : Made A T W Z V β L w) (hA : A ≠ i) (hT : T ≠ i) (hb : Below w.heap.size w w') : Made A T W Z V β (more L i) w' := by
  unfold Made
  rw [more_ne hA, more_ne hT]
  exact ⟨h.1, fun hl => (h.2 hl).keep hb⟩
theorem Made.same {i : Nat} (h : Made A T W Z V β L w) (hA : A ≠ i) (hT : T ≠ i) : Made A T W Z V β (more L i) w := h.other hA hT (Below.refl _ _)
theorem Made.make {b : Nat} (h : Made A T W Z V β L w) (hi : L A = false) (hAT : T ≠ A) (hf : Fresh W w' b Z) : Made A T W Z V (upd β A b) (more L A) w' := by
  unfold Made
  have hT : L T = false := by cases hl : L T with
    | false => rfl
    | true => have := h.1 hl; rw [hi] at this; cases this
  rw [more_self, more_ne hAT, hT]
  refine ⟨fun h => (by cases h), fun _ => ?_⟩
  simp only [upd]
  exact hf
theorem Made.now (h : Made A T W Z V β L w) (hA : L A = true) (hT : L T = false) : Fresh W w (β A) Z := by have := h.2 hA; rw [hT] at this; exact this
theorem Made.store (h : Made A T W Z V β L w) (hA : L A = true) (hf : Fresh W w' (β A) V) : Made A T W Z V β (more L T) w' :=
  ⟨fun _ => more_le hA, fun _ => by rw [more_self]; exact hf⟩
theorem Made.end (h : Made A T W Z V β L w) (hA : L A = true) (hT : L T = true) : Fresh W w (β A) V := by have := h.2 hA; rw [hT] at this; exact this
end
end Go.Proofs.Ytjhaoimfgepkgaa
