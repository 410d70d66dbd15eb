/- Texts made of bytes of a list, compared. No condition. -/
import Derived.Test.YthnaenfonolmaaaDskC
namespace Go.Proofs.Ythnaenfonolmaaa.dk
open Go Go.Proofs Go.AE Go.RowKit
set_option linter.unusedVariables false
set_option linter.unusedSimpArgs false
def txt (f : Nat → UInt8) (m : Nat) : ByteArray := ByteArray.mk (List.toArray (List.map f (List.range m)))
theorem size_txt (f : Nat → UInt8) (m : Nat) : (txt f m).size = m := by unfold txt; simp [ByteArray.size]
theorem szr (f : Nat → UInt8) (m : Nat) : ByteArray.size (ByteArray.mk (List.toArray (List.map f (List.range m)))) = m := size_txt f m
theorem all_1 (m : Nat) (f : Nat → Int) : (List.range m).all (fun i => isByte [SV.int .u8 (f i)]) = true := List.all_eq_true.2 fun _ _ => rfl
theorem all_2 (m : Nat) : (List.range m).all (fun _ => isByte (SV.cells (ofN 3 (Go.Value.int .u8 0)))) = true := List.all_eq_true.2 fun _ _ => rfl
theorem seqB_iff {a b : ByteArray} : seqB a b = true ↔ a = b := by
  unfold seqB
  rw [beq_iff_eq, ByteArray.toList_eq, ByteArray.toList_eq]
  exact ⟨fun h => ByteArray.ext (Array.toList_inj.1 h), fun h => by rw [h]⟩
theorem data_txt (f : Nat → UInt8) (m i : Nat) (h : i < m) : (txt f m).data[i]? = some (f i) := by
  unfold txt; simp [h]
theorem eq_ne {f g : Nat → UInt8} {m m' : Nat} (hm : m = m') (h : ∀ i, i < m → f i = g i) : seqB (txt f m) (txt g m') = true := by
  subst hm
  refine seqB_iff.2 ?_
  unfold txt
  rw [List.map_congr_left (g := g) fun i hi => h i (by simpa using hi)]
theorem eq_P {f g : Nat → UInt8} {m K K2 m' M : Nat} {s : ByteArray} (hm : m = m') (hM : M = m') (hs : s.size = 16) (hK2 : K2 = K + 16) (hK : K + 16 ≤ m) (h1 : ∀ i, i < m → i < K ∨ K + 16 ≤ i → f i = g i) (h2 : ∀ j, j < 16 → s.data[j]? = some (f (K + j))) :
    seqB (txt f m) ((txt g m').extract 0 K ++ s ++ (txt g m').extract K2 M) = true := by
  subst hm hM hK2
  refine seqB_iff.2 (ByteArray.ext (Array.ext_getElem? fun i => ?_))
  have hsd : s.data.size = 16 := hs
  have hgd : (txt g M).data.size = M := size_txt g M
  have hfd : (txt f M).data.size = M := size_txt f M
  rw [ByteArray.data_append, ByteArray.data_append, ByteArray.data_extract, ByteArray.data_extract]
  have e1 : ((txt g M).data.extract 0 K).size = K := by rw [Array.size_extract, hgd]; omega
  rw [Array.getElem?_append, Array.getElem?_append, Array.size_append, e1, hsd]
  rcases Nat.lt_or_ge i M with hi | hi
  · rw [data_txt f M i hi]
    by_cases a : i < K
    · rw [if_pos (by omega), if_pos a, Array.getElem?_extract, if_pos (by omega), Nat.zero_add, data_txt g M i hi, h1 i hi (.inl a)]
    · by_cases b : i < K + 16
      · rw [if_pos b, if_neg a, h2 (i - K) (by omega), show K + (i - K) = i by omega]
      · rw [if_neg b, Array.getElem?_extract, if_pos (by omega), show K + 16 + (i - (K + 16)) = i by omega, data_txt g M i hi, h1 i hi (.inr (by omega))]
  · rw [Array.getElem?_eq_none (by omega), if_neg (by omega), Array.getElem?_extract, if_neg (by omega)]
theorem by_at {s : ByteArray} {j : Nat} (h : j < s.size) : s.data[j]? = some (Go.AE.byteOf [SV.int .u8 (byteAt s j)]) := by
  have h' : j < s.data.size := h
  show s.data[j]? = some (UInt8.ofNat (Int.toNat (byteAt s j)))
  unfold byteAt
  rw [List.getElem?_eq_getElem (by simpa using h'), Array.getElem?_eq_getElem h']
  simp
theorem eq_neR {f g : Nat → UInt8} {m m' : Nat} (hm : m = m') (h : ∀ i, i < m → f i = g i) : seqB (ByteArray.mk (List.toArray (List.map f (List.range m)))) (ByteArray.mk (List.toArray (List.map g (List.range m')))) = true := eq_ne hm h
theorem eq_PR {f g : Nat → UInt8} {m K K2 m' M : Nat} {s : ByteArray} (hm : m = m') (hM : M = m') (hs : s.size = 16) (hK2 : K2 = K + 16) (hK : K + 16 ≤ m) (h1 : ∀ i, i < m → i < K ∨ K + 16 ≤ i → f i = g i) (h2 : ∀ j, j < 16 → s.data[j]? = some (f (K + j))) :
    seqB (ByteArray.mk (List.toArray (List.map f (List.range m)))) ((ByteArray.mk (List.toArray (List.map g (List.range m')))).extract 0 K ++ s ++ (ByteArray.mk (List.toArray (List.map g (List.range m')))).extract K2 M) = true := eq_P hm hM hs hK2 hK h1 h2
theorem mx : maxLen = 9223372036854775807 := rfl
end Go.Proofs.Ythnaenfonolmaaa.dk
