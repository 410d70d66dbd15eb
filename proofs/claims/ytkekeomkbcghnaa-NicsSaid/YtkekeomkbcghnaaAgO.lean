/- Contracts at any memory whose blocks say no less than the contract's. No condition. -/
import Derived.Test.YtkekeomkbcghnaaE4
namespace Go.AE
open Go
set_option linter.unusedVariables false
set_option linter.unusedSimpArgs false
section
theorem CL.reads' {P : Program} {f : FuncId} {xs : List SV} {h0 : Hp} {k1 ck : Nat} {v0 : SV} (hcon : CL P f xs { h := h0, nx := k1, ck := ck, st := 1 } fun v _ => v = v0)
    (hro : ∀ i x, find h0 i = some x → i < k1 ∧ x.2.ro = true ∧ lowB k1 x.2) (hx : lowL k1 xs = true) (hv0 : low k1 v0 = true) {s : St} (π : Nat → Nat)
    (hs : ∀ i x, find h0 i = some x → ∃ ver bk, find s.h (π i) = some (ver, bk) ∧ ∀ (ρ : Map) (w : World) (p : Pl), BX ρ w p (asRo bk) → BX ρ w p (renB π x.2)) : CL P f (renL π xs) s fun v s' => v = ren π v0 ∧ s' = s := by
  intro C ρ w us hR hv
  let τ : Map := fun i => if i < k1 then ρ (π i) else none
  have h1 : ∀ i, i < k1 → ∀ p, ρ (π i) = some p → τ i = some p := fun i hi p hp => by show (if i < k1 then ρ (π i) else none) = some p; rw [if_pos hi]; exact hp
  have h2 : ∀ i, k1 ≤ i → τ i = none := fun i hi => if_neg (by omega)
  have h3 : ∀ i p, τ i = some p → ρ (π i) = some p := fun i p hp => by
    have hp : (if i < k1 then ρ (π i) else none) = some p := hp
    split at hp
    · exact hp
    · cases hp
  have hRs : Rel { w0 := w, S := fun _ => False, Z := fun r => ∃ n p o, ρ n = some p ∧ p.fz r = some o } τ { h := h0, nx := k1, ck := ck, st := 1 } w := by
    refine ⟨rfl, rfl, rfl, Nat.le_refl _, fun _ _ _ => rfl, fun i v b e => ?_, fun i j vi bi vj bj p q ei ej hne hr => ?_, fun i v b p e hr => ?_, fun q => h2 _ (by simp), Nat.zero_lt_one, fun i p hp hx => hR.inb _ p (h3 i p hp) hx, fun i p r o hp hf => ⟨(hR.frz _ p r o (h3 i p hp) hf).1, .inl ⟨_, p, o, h3 i p hp, hf⟩, fun m v b q e hr => ?_⟩⟩
    · obtain ⟨hi, _, hlow⟩ := hro i _ e
      obtain ⟨ver, bk, hf, hbk⟩ := hs i _ e
      obtain ⟨p, hp, hb⟩ := hR.blk _ _ _ hf
      refine ⟨p, h1 i hi p hp, BX.small h1 hlow ?_⟩
      exact hbk _ _ _ hb.asRo
    · rw [(hro i _ ei).2.1] at hr; cases hr
    · rw [(hro i _ e).2.1] at hr; cases hr
    · rw [(hro m _ e).2.1] at hr; cases hr
  refine Calls.mono (hcon _ τ w us hRs (VRs.small h1 xs hx hv)) ?_
  rintro e w' ⟨v, s', σ, u, hvv, he, hE, hu, hR'⟩
  have hvv : v = v0 := hvv
  subst hvv
  have hh : ∀ r, r < w.heap.size → w'.heap[r]? = w.heap[r]? := fun r hr => hR'.out r hr fun h => h
  have hσ : ∀ i, i < k1 → σ i = τ i := fun i hi => by
    rcases hE.2.1 i with h | ⟨q, h, _⟩
    · exact h
    · dsimp only at h; omega
  refine ⟨ren π v, s, ρ, u, ⟨rfl, rfl⟩, he, Ext.refl _ _, VR.big (n := k1) (τ := σ) (fun i hi p hp => h3 i p (by rw [← hσ i hi]; exact hp)) v hv0 hu, ?_⟩
  refine ⟨hR'.os.trans hR.os, hR'.tape.trans hR.tape, hR'.output.trans hR.output, Nat.le_trans hR.size hR'.size, fun r hr hS => (hh r (Nat.lt_of_lt_of_le hr hR.size)).trans (hR.out r hr hS), fun i v b e => ?_, hR.sep, hR.own, hR.fresh, hR.stp, fun i p hp hx => Nat.lt_of_lt_of_le (hR.inb i p hp hx) hR'.size, fun n p r o hn hf => let ⟨a, b, c⟩ := hR.frz n p r o hn hf; ⟨(hh r (Array.getElem?_eq_some_iff.1 a).1).trans a, b, c⟩⟩
  obtain ⟨p, hp, hb⟩ := hR.blk i v b e
  exact ⟨p, hp, hb.keep fun hx => hh _ (hR.inb i p hp hx)⟩
theorem CL.frame' {P : Program} {f : FuncId} {xs : List SV} {h0 : Hp} {bs : List Nat} {wr m ck ck' : Nat} {v0 : SV} {hF h1 : Hp}
    (hcon : CL P f xs { h := h0, nx := bs.length, ck := ck, st := 1 } fun v s' => v = v0 ∧ s' = { h := hF, nx := bs.length + m, ck := ck', st := 1 })
    (hlow : ∀ i x, find h0 i = some x → i < bs.length ∧ lowB bs.length x.2 ∧ (x.2.ro = false → i < wr)) (hwr : wr ≤ bs.length) (hx : lowL bs.length xs = true) (hv0 : low (bs.length + m) v0 = true)
    (h1s : ∀ i x, find h1 i = some x → find hF i = some x ∧ x.2.ro = false ∧ i < bs.length + m ∧ lowB (bs.length + m) x.2)
    (hinj : ∀ i j (hi : i < bs.length) (hj : j < bs.length), bs[i] = bs[j] → i = j) {s : St}
    (hs : ∀ i x, find h0 i = some x → ∃ ver bk, find s.h (nmF bs s.nx s.st i) = some (ver, bk) ∧ (bk = renB (nmF bs s.nx s.st) x.2 ∨ (x.2.ro = true ∧ ∀ (ρ : Map) (w : World) (p : Pl), BX ρ w p (asRo bk) → BX ρ w p (renB (nmF bs s.nx s.st) x.2)))) :
    CL P f (renL (nmF bs s.nx s.st) xs) s fun v s' => v = ren (nmF bs s.nx s.st) v0 ∧ s' = frS s bs wr m h1 := by
  intro C ρ w us hR hv
  let k := bs.length
  let nm := nmF bs s.nx s.st
  have hst := hR.stp
  have nmlt : ∀ {i : Nat} (hi : i < k), nm i = bs[i]'hi := fun hi => nmF_lt hi
  have nmnew : ∀ q, nm (k + q) = s.nx + q * s.st := fun q => nmF_new bs s.nx s.st q
  let τ : Map := fun i => if i < k then ρ (nm i) else none
  have t1 : ∀ i, i < k → ∀ p, ρ (nm i) = some p → τ i = some p := fun i hi p hp => by show (if i < k then ρ (nm i) else none) = some p; rw [if_pos hi]; exact hp
  have t2 : ∀ i, k ≤ i → τ i = none := fun i hi => if_neg (by omega)
  have t3 : ∀ {i p}, τ i = some p → i < k ∧ ρ (nm i) = some p := fun {i p} hp => by
    have hp : (if i < k then ρ (nm i) else none) = some p := hp
    split at hp
    · rename_i h; exact ⟨h, hp⟩
    · cases hp
  -- a block of the small memory that may be written is one that may be written
  have hro : ∀ {i x}, find h0 i = some x → x.2.ro = false → ∃ ver bk, find s.h (nm i) = some (ver, bk) ∧ bk.ro = false := fun {i x} e hr => by
    obtain ⟨ver, bk, hf, hb⟩ := hs i x e
    refine ⟨ver, bk, hf, ?_⟩
    rcases hb with hb | ⟨hb, _⟩
    · rw [hb, ro_renB]; exact hr
    · rw [hr] at hb; cases hb
  let C' : Cx := { w0 := w, S := fun r => ∃ i x p, find h0 i = some x ∧ x.2.ro = false ∧ τ i = some p ∧ p.ph = false ∧ p.blk = r, Z := fun r => ∃ n p o, ρ n = some p ∧ p.fz r = some o }
  have hRs : Rel C' τ { h := h0, nx := k, ck := ck, st := 1 } w := by
    refine ⟨rfl, rfl, rfl, Nat.le_refl _, fun _ _ _ => rfl, fun i v b e => ?_, fun i j vi bi vj bj p q ei ej hne hr hp hq x1 x2 => ?_, fun i v b p e hr hp x1 => .inl ⟨i, (v, b), p, e, hr, hp, x1, rfl⟩, fun q => t2 _ (by show k ≤ k + q * 1; omega), Nat.zero_lt_one, fun i p hp x1 => hR.inb _ p (t3 hp).2 x1, fun i p r o hp hz => ⟨(hR.frz _ p r o (t3 hp).2 hz).1, .inl ⟨_, p, o, (t3 hp).2, hz⟩, fun m v b q e hr hq x1 => by
      obtain ⟨ver, bk, hf, hb⟩ := hro e hr
      exact (hR.frz _ p r o (t3 hp).2 hz).2.2 _ _ _ q hf hb (t3 hq).2 x1⟩⟩
    · obtain ⟨hi, hl, _⟩ := hlow i _ e
      obtain ⟨ver, bk, hf, hb⟩ := hs i _ e
      obtain ⟨p, hp, hbx⟩ := hR.blk _ _ _ hf
      refine ⟨p, t1 i hi p hp, BX.small t1 hl ?_⟩
      rcases hb with hb | ⟨_, hb⟩
      · rw [← hb]; exact hbx
      · exact hb _ _ _ hbx.asRo
    · obtain ⟨hi, hp'⟩ := t3 hp
      obtain ⟨hj, hq'⟩ := t3 hq
      obtain ⟨ver, bk, hf, hb⟩ := hro ei hr
      obtain ⟨ver', bk', hf', _⟩ := hs j _ ej
      refine hR.sep _ _ _ _ _ _ p q hf hf' (fun e => hne (hinj i j hi hj ?_)) hb hp' hq' x1 x2
      rw [← nmlt hi, ← nmlt hj]; exact e
  refine Calls.mono (hcon C' τ w us hRs (VRs.small t1 xs hx hv)) ?_
  rintro e w' ⟨v, s', σ, u, ⟨rfl, rfl⟩, he, hE, hu, hR'⟩
  have sold : ∀ i, i < k → σ i = τ i := fun i hi => by
    rcases hE.2.1 i with h | ⟨q, h, _⟩
    · exact h
    · dsimp only at h; omega
  have snew : ∀ {i p}, σ i = some p → i < k + m := fun {i p} hp => by
    rcases hE.2.1 i with h | ⟨q, _, h⟩
    · rw [h] at hp; have := (t3 hp).1; omega
    · exact h
  -- the great map behind the call
  let ρ' : Map := fun n => if s.nx ≤ n ∧ n = s.nx + (n - s.nx) / s.st * s.st ∧ (n - s.nx) / s.st < m then σ (k + (n - s.nx) / s.st) else ρ n
  have qd : ∀ q, (s.nx + q * s.st - s.nx) / s.st = q := fun q => by rw [Nat.add_sub_cancel_left]; exact Nat.mul_div_cancel _ hst
  have rnew : ∀ q, q < m → ρ' (s.nx + q * s.st) = σ (k + q) := fun q hq => by
    show (if _ then _ else _) = _
    rw [qd q, if_pos ⟨by omega, rfl, hq⟩]
  have rold : ∀ {n p}, ρ n = some p → ρ' n = some p := fun {n p} hp => by
    show (if _ then _ else _) = _
    rw [if_neg]
    · exact hp
    · rintro ⟨_, h2, _⟩
      rw [h2, hR.fresh] at hp; cases hp
  have rinv : ∀ {n p}, ρ' n = some p → (∃ q, q < m ∧ n = s.nx + q * s.st ∧ σ (k + q) = some p) ∨ ρ n = some p := fun {n p} hp => by
    have hp : (if s.nx ≤ n ∧ n = s.nx + (n - s.nx) / s.st * s.st ∧ (n - s.nx) / s.st < m then σ (k + (n - s.nx) / s.st) else ρ n) = some p := hp
    split at hp
    · rename_i h; exact .inl ⟨_, h.2.2, h.2.1, hp⟩
    · exact .inr hp
  have big : ∀ i, i < k + m → ∀ p, σ i = some p → ρ' (nm i) = some p := fun i hi p hp => by
    by_cases hik : i < k
    · rw [sold i hik] at hp
      exact rold (t3 hp).2
    · obtain ⟨q, rfl⟩ : ∃ q, i = k + q := ⟨i - k, by omega⟩
      rw [nmnew q, rnew q (by omega)]; exact hp
  -- what lies beside the small memory stays
  have notS : ∀ {n y p}, find s.h n = some y → n ∉ bs.take wr → ρ n = some p → p.ph = false → ¬ C'.S p.blk := fun {n y p} e hn hp hx => by
    rintro ⟨i, x, p0, h1, h2, h3, h4, h5⟩
    obtain ⟨hi, hp0⟩ := t3 h3
    obtain ⟨ver, bk, hf, hb⟩ := hro h1 h2
    have hiw := (hlow i x h1).2.2 h2
    have hmem : nm i ∈ bs.take wr := by
      rw [nmlt hi]
      exact List.mem_take_iff_getElem.2 ⟨i, by have : i < bs.length := hi; omega, rfl⟩
    exact hR.sep _ n _ _ _ _ p0 p hf e (fun e' => hn (e' ▸ hmem)) hb hp0 hp h4 hx h5
  have rest : ∀ {n y}, find (delL s.h (bs.take wr)) n = some y → n ∉ bs.take wr ∧ find s.h n = some y := fun e => find_delL e
  have split : ∀ {n y}, find (frS s bs wr m h1).h n = some y → (∃ i x, find h1 i = some x ∧ nm i = n ∧ y = (s.ck, renB nm x.2)) ∨ (n ∉ bs.take wr ∧ find s.h n = some y) := fun {n y} e => by
    have e : find (appH (renHp nm s.ck h1) (delL s.h (bs.take wr))) n = some y := e
    rw [find_appH] at e
    cases hf : find (renHp nm s.ck h1) n with
    | some x => rw [hf] at e; cases e; exact .inl (find_renHp hf)
    | none => rw [hf] at e; exact .inr (rest e)
  have own' : ∀ {i x p}, find h1 i = some x → σ i = some p → p.ph = false → (∃ i0 x0 p0, find h0 i0 = some x0 ∧ x0.2.ro = false ∧ ρ (nm i0) = some p0 ∧ p0.ph = false ∧ p0.blk = p.blk ∧ i0 < wr ∧ i0 < k) ∨ w.heap.size ≤ p.blk := fun {i x p} e hp hx => by
    obtain ⟨g1, g2, _, _⟩ := h1s i x e
    rcases hR'.own i x.1 x.2 p g1 g2 hp hx with ⟨i0, x0, p0, a1, a2, a3, a4, a5⟩ | h
    · obtain ⟨b1, b2⟩ := t3 a3
      exact .inl ⟨i0, x0, p0, a1, a2, b2, a4, a5, (hlow i0 x0 a1).2.2 a2, b1⟩
    · exact .inr h
  -- the place of a name
  have plN : ∀ {i p}, i < k + m → ρ' (nm i) = some p → (∃ x, find hF i = some x) → σ i = some p := fun {i p} hi hp hf => by
    obtain ⟨x, hf⟩ := hf
    obtain ⟨p', hp', _⟩ := hR'.blk i x.1 x.2 hf
    have := big i hi p' hp'
    rw [hp] at this; cases this
    exact hp'
  have plO : ∀ {n y p}, find s.h n = some y → ρ' n = some p → ρ n = some p := fun {n y p} hf hp => by
    obtain ⟨p', hp', _⟩ := hR.blk n y.1 y.2 hf
    have := rold hp'
    rw [hp] at this; cases this
    exact hp'
  have sepNO : ∀ {i x p n y q}, find h1 i = some x → σ i = some p → p.ph = false → n ∉ bs.take wr → find s.h n = some y → ρ n = some q → q.ph = false → p.blk ≠ q.blk := fun {i x p n y q} e hp hx hn hf hq hy h => by
    rcases own' e hp hx with ⟨i0, x0, p0, a1, a2, a3, a4, a5, a6, a7⟩ | hge
    · exact notS hf hn hq hy ⟨i0, x0, p0, a1, a2, t1 i0 a7 p0 a3, a4, a5.trans h⟩
    · have := hR.inb n q hq hy
      omega
  refine ⟨_, _, ρ', u, ⟨rfl, rfl⟩, he, ⟨fun n p hp => rold hp, fun n => ?_, rfl, m, rfl⟩, VR.big big v hv0 hu, ?_⟩
  · by_cases h : s.nx ≤ n ∧ n = s.nx + (n - s.nx) / s.st * s.st ∧ (n - s.nx) / s.st < m
    · right
      refine ⟨_, h.2.1, ?_⟩
      rw [h.2.1]
      show s.nx + (n - s.nx) / s.st * s.st < s.nx + m * s.st
      have := Nat.mul_lt_mul_of_pos_right h.2.2 hst
      omega
    · left; exact if_neg h
  · refine ⟨hR'.os.trans hR.os, hR'.tape.trans hR.tape, hR'.output.trans hR.output, Nat.le_trans hR.size hR'.size, fun r hr hS => ?_, fun n v' b' e => ?_, fun n1 n2 v1 b1 v2 b2 p q e1 e2 hne hr hp hq x1 x2 => ?_, fun n v' b' p e hr hp x1 => ?_, fun q => ?_, hst, fun n p hp x1 => ?_, fun n p r o hp hz => ?_⟩
    · rw [← hR.out r hr hS]
      refine hR'.out r (Nat.lt_of_lt_of_le hr hR.size) ?_
      rintro ⟨i, x, p, a1, a2, a3, a4, a5⟩
      obtain ⟨ver, bk, hf, hb⟩ := hro a1 a2
      rcases hR.own _ _ _ p hf hb (t3 a3).2 a4 with hh | hh
      · exact hS (a5 ▸ hh)
      · omega
    · rcases split e with ⟨i, x, hf, hn, hy⟩ | ⟨hn, hf⟩
      · obtain ⟨g1, g2, g3, g4⟩ := h1s i x hf
        obtain ⟨p, hp, hb⟩ := hR'.blk i x.1 x.2 g1
        cases hy
        subst hn
        exact ⟨p, big i g3 p hp, BX.big big g4 hb⟩
      · obtain ⟨p, hp, hb⟩ := hR.blk n v' b' hf
        refine ⟨p, rold hp, (hb.keep fun hx => ?_).mono (fun _ _ h => rold h)⟩
        exact hR'.out p.blk (hR.inb n p hp hx) (notS hf hn hp hx)
    · rcases split e1 with ⟨i, x, hf, hn, hy⟩ | ⟨hn, hf⟩ <;> rcases split e2 with ⟨i', x', hf', hn', hy'⟩ | ⟨hn', hf'⟩
      · obtain ⟨g1, g2, g3, _⟩ := h1s i x hf
        obtain ⟨g1', g2', g3', _⟩ := h1s i' x' hf'
        subst hn; subst hn'
        exact hR'.sep i i' x.1 x.2 x'.1 x'.2 p q g1 g1' (fun h => hne (by rw [h])) g2 (plN g3 hp ⟨_, g1⟩) (plN g3' hq ⟨_, g1'⟩) x1 x2
      · obtain ⟨g1, g2, g3, _⟩ := h1s i x hf
        subst hn
        exact sepNO hf (plN g3 hp ⟨_, g1⟩) x1 hn' hf' (plO hf' hq) x2
      · obtain ⟨g1, g2, g3, _⟩ := h1s i' x' hf'
        subst hn'
        exact fun h => sepNO hf' (plN g3 hq ⟨_, g1⟩) x2 hn hf (plO hf hp) x1 h.symm
      · exact hR.sep n1 n2 _ _ _ _ p q hf hf' hne hr (plO hf hp) (plO hf' hq) x1 x2
    · rcases split e with ⟨i, x, hf, hn, hy⟩ | ⟨hn, hf⟩
      · obtain ⟨g1, g2, g3, _⟩ := h1s i x hf
        subst hn
        rcases own' hf (plN g3 hp ⟨_, g1⟩) x1 with ⟨i0, x0, p0, a1, a2, a3, a4, a5, a6, a7⟩ | hge
        · obtain ⟨ver, bk, hf0, hb0⟩ := hro a1 a2
          rw [← a5]
          exact hR.own _ _ _ p0 hf0 hb0 a3 a4
        · exact .inr (Nat.le_trans hR.size hge)
      · exact hR.own n v' b' p hf hr (plO hf hp) x1
    · show ρ' (s.nx + m * s.st + q * s.st) = none
      rw [show s.nx + m * s.st + q * s.st = s.nx + (m + q) * s.st by rw [Nat.add_mul]; omega]
      show (if _ then _ else _) = _
      rw [qd, if_neg (by rintro ⟨_, _, h⟩; omega)]
      exact hR.fresh _
    · rcases rinv hp with ⟨q, _, _, h⟩ | h
      · exact hR'.inb _ p h x1
      · exact Nat.lt_of_lt_of_le (hR.inb n p h x1) hR'.size
    · rcases rinv hp with ⟨q, _, _, h⟩ | h
      · obtain ⟨f1, f2, f3⟩ := hR'.frz _ p r o h hz
        refine ⟨f1, ?_, fun m' v b q' e hr hq x1 => ?_⟩
        · rcases f2 with ⟨n', p', o', hn', hz'⟩ | ⟨i, x, p0, a1, a2, a3, a4, a5⟩ | hge
          · exact (hR.frz n' p' r o' hn' hz').2.1
          · obtain ⟨ver, bk, hf, hb⟩ := hro a1 a2
            rw [← a5]
            exact .inr (hR.own _ _ _ p0 hf hb (t3 a3).2 a4)
          · exact .inr (.inr (Nat.le_trans hR.size hge))
        · rcases split e with ⟨i, x, hf, hn, hy⟩ | ⟨hn, hf⟩
          · obtain ⟨g1, g2, g3, _⟩ := h1s i x hf
            subst hn
            exact f3 i x.1 x.2 q' g1 g2 (plN g3 hq ⟨_, g1⟩) x1
          · have hq := plO hf hq
            intro eq
            rcases f2 with ⟨n', p', o', hn', hz'⟩ | hS | hge
            · exact (hR.frz n' p' r o' hn' hz').2.2 m' v b q' hf hr hq x1 eq
            · exact notS hf hn hq x1 (eq ▸ hS)
            · have := hR.inb m' q' hq x1
              have hge : w.heap.size ≤ r := hge
              omega
      · obtain ⟨f1, f2, f3⟩ := hR.frz _ p r o h hz
        have hr' : r < w.heap.size := (Array.getElem?_eq_some_iff.1 f1).1
        refine ⟨(hR'.out r hr' ?_).trans f1, f2, fun m' v b q' e hr hq x1 => ?_⟩
        · rintro ⟨i, x, p0, a1, a2, a3, a4, a5⟩
          obtain ⟨ver, bk, hf, hb⟩ := hro a1 a2
          exact f3 _ _ _ p0 hf hb (t3 a3).2 a4 a5
        · rcases split e with ⟨i, x, hf, hn, hy⟩ | ⟨hn, hf⟩
          · obtain ⟨g1, g2, g3, _⟩ := h1s i x hf
            subst hn
            rcases own' hf (plN g3 hq ⟨_, g1⟩) x1 with ⟨i0, x0, p0, a1, a2, a3, a4, a5, a6, a7⟩ | hge
            · obtain ⟨ver, bk, hf0, hb0⟩ := hro a1 a2
              rw [← a5]
              exact f3 _ _ _ p0 hf0 hb0 a3 a4
            · omega
          · exact f3 m' v b q' hf hr (plO hf hq) x1
end
theorem bx_fam {ρ : Map} {w : World} {p : Pl} {d N n : Nat} {r r' : Nat → List SV} (hn : n ≤ N) (h : ∀ k, k < n → r k = r' k) (hb : BX ρ w p (.fam d true N r)) : BX ρ w p (.fam d true n r') :=
  hb.imp (fun l => ⟨l.1, by obtain ⟨a, c, e, fr, h1, h2, h3, h4⟩ := l.2; exact ⟨a, c, e, fr, h1, h2, h3, fun i hi => by rw [← h i hi]; exact h4 i (by omega)⟩⟩) (fun l => ⟨l.1, by have := l.2.1; omega, l.2.2⟩)
end Go.AE
