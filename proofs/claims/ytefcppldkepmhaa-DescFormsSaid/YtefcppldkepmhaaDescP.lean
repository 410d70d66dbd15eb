/- Bytes of a descriptor, there and back: plain facts. No condition. -/
import Derived.Test.YtefcppldkepmhaaDescD
namespace Go.Proofs.Ytefcppldkepmhaa
open Go.RowKit
set_option linter.unusedVariables false
set_option linter.unusedSimpArgs false
theorem byte_of {n : Int} (h0 : 0 ≤ n) (h1 : n < 256) : ((UInt8.ofNat n.toNat).toNat : Int) = n := by
  rw [UInt8.toNat_ofNat']
  omega
theorem putS_size (a b c d e : Int) : (putS a b c d e).size = 8 := by simp [putS, strOfNums_size]
theorem getN_put {a b c d e : Int} (h : mayD a b c d e = true) : getN (putS a b c d e) = (a, b, c, d, e, 0) := by
  have h' := mayD_true h
  obtain ⟨h1, h2, h3, h4, h5, h6, h7, h8, h9⟩ := h'
  have hb : 0 ≤ b ∧ b < 256 := by omega
  have e0 : (((putS a b c d e)[0]'(by rw [putS_size]; omega)).toNat : Int) = a := byte_of h1 (by omega)
  have e1 : (((putS a b c d e)[1]'(by rw [putS_size]; omega)).toNat : Int) = b := byte_of hb.1 hb.2
  have e2 : (((putS a b c d e)[2]'(by rw [putS_size]; omega)).toNat : Int) = c % 256 := byte_of (by omega) (by omega)
  have e3 : (((putS a b c d e)[3]'(by rw [putS_size]; omega)).toNat : Int) = c / 256 := byte_of (by omega) (by omega)
  have e4 : (((putS a b c d e)[4]'(by rw [putS_size]; omega)).toNat : Int) = d % 256 := byte_of (by omega) (by omega)
  have e5 : (((putS a b c d e)[5]'(by rw [putS_size]; omega)).toNat : Int) = d / 256 := byte_of (by omega) (by omega)
  have e6 : (((putS a b c d e)[6]'(by rw [putS_size]; omega)).toNat : Int) = e := byte_of (by omega) (by omega)
  have e7 : (((putS a b c d e)[7]'(by rw [putS_size]; omega)).toNat : Int) = 0 := byte_of (by omega) (by omega)
  have t1 : two ((putS a b c d e)[2]'(by rw [putS_size]; omega)) ((putS a b c d e)[3]'(by rw [putS_size]; omega)) = c := by unfold two; rw [e2, e3]; omega
  have t2 : two ((putS a b c d e)[4]'(by rw [putS_size]; omega)) ((putS a b c d e)[5]'(by rw [putS_size]; omega)) = d := by unfold two; rw [e4, e5]; omega
  unfold getN
  rw [dif_pos (putS_size a b c d e), e7, e0, e1, t1, t2, e6, if_pos ⟨rfl, h⟩]
theorem byte_eq {x : UInt8} {n : Int} (h : (x.toNat : Int) = n) : UInt8.ofNat n.toNat = x := by
  subst h
  simp
theorem put_getN {s : ByteArray} {a b c d e : Int} (h : getN s = (a, b, c, d, e, 0)) : mayD a b c d e = true ∧ putS a b c d e = s := by
  unfold getN at h
  split at h
  · rename_i h8
    split at h
    · rename_i hm
      obtain ⟨h7, hm⟩ := hm
      simp only [Prod.mk.injEq, and_true] at h
      obtain ⟨rfl, rfl, rfl, rfl, rfl⟩ := h
      refine ⟨hm, ?_⟩
      obtain ⟨⟨l⟩⟩ := s
      have h8' : l.length = 8 := h8
      match l, h8' with
      | [x0, x1, x2, x3, x4, x5, x6, x7], _ =>
        have h2 := x2.toNat_lt
        have h3 := x3.toNat_lt
        have h4 := x4.toNat_lt
        have h5 := x5.toNat_lt
        show strOfNums [(x0.toNat : Int), (x1.toNat : Int), two x2 x3 % 256, two x2 x3 / 256, two x4 x5 % 256, two x4 x5 / 256, (x6.toNat : Int), 0] = _
        have h7' : (x7.toNat : Int) = 0 := h7
        have q2 : (x2.toNat : Int) = two x2 x3 % 256 := by unfold two; omega
        have q3 : (x3.toNat : Int) = two x2 x3 / 256 := by unfold two; omega
        have q4 : (x4.toNat : Int) = two x4 x5 % 256 := by unfold two; omega
        have q5 : (x5.toNat : Int) = two x4 x5 / 256 := by unfold two; omega
        simp only [strOfNums, List.map_cons, List.map_nil, byte_eq (x := x0) rfl, byte_eq (x := x1) rfl, byte_eq q2, byte_eq q3, byte_eq q4, byte_eq q5, byte_eq (x := x6) rfl, byte_eq h7']
    · simp at h
  · simp at h
theorem getN_bad (s : ByteArray) : (getN s).2.2.2.2.2 = 0 ∨ getN s = (0, 0, 0, 0, 0, 1600) := by
  unfold getN
  split
  · split
    · exact .inl rfl
    · exact .inr rfl
  · exact .inr rfl
theorem putB_yes {a b c d e : Int} (h : mayD a b c d e = true) : putB a b c d e = putS a b c d e ∧ putE a b c d e = 0 := by unfold putB putE; rw [h]; exact ⟨rfl, rfl⟩
theorem putB_no {a b c d e : Int} (h : mayD a b c d e = false) : putB a b c d e = ⟨#[]⟩ ∧ putE a b c d e = 1600 := by unfold putB putE; rw [h]; exact ⟨rfl, rfl⟩
end Go.Proofs.Ytefcppldkepmhaa

