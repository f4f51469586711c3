/- What was encoded, read again: plain facts. -/
import Derived.Test.YtigdchfjcfljjaaEnc
namespace Go.Proofs.Ytigdchfjcfljjaa
open Go.RowKit
set_option linter.unusedVariables false

theorem getN_front (x y : List Int) (a : Nat) (h : a + 8 ≤ x.length) : getN (x ++ y) a 8 = getN x a 8 := by
  have h1 : fitsB (x ++ y).length a 8 = true := fits_ok ⟨by omega, by omega, by rw [List.length_append]; omega, by rw [List.length_append]; omega⟩
  have h2 : fitsB x.length a 8 = true := fits_ok ⟨by omega, by omega, by omega, by omega⟩
  rw [getN, getN, if_pos h1, if_pos h2, List.drop_append, show (8 : Int).toNat = 8 from rfl, List.take_append_of_le_length (by rw [List.length_drop]; omega)]
theorem getN_enc (pre ws r : List Int) (hw : isW ws) (i : Nat) (hi : i < ws.length) (a x : Int) (ha : a = (pre.length : Int) + 8 * (i : Int)) (hx : ws.getD i 0 = x) : getN (encZ pre ws ++ r) a 8 = x := by
  have ha2 : a = ((pre.length + 8 * i : Nat) : Int) := by omega
  have h3 := getN_words pre ws hw i hi
  rw [← ha, hx] at h3
  rw [ha2] at h3 ⊢
  rw [getN_front _ _ _ (by rw [encZ, List.length_append, encC_len]; omega), encZ, getN_front _ _ _ (by rw [encC_len]; omega), encC, getN_front _ _ _ (by rw [encB_len]; omega)]
  exact h3
theorem getN_drop (l : List Int) (a k : Nat) : getN (l.drop a) k 8 = getN l ((a : Int) + (k : Int)) 8 := by
  by_cases h : a + k + 8 ≤ l.length
  · have h1 : fitsB (l.drop a).length k 8 = true := fits_ok ⟨by omega, by omega, by rw [List.length_drop]; omega, by rw [List.length_drop]; omega⟩
    have h2 : fitsB l.length ((a : Int) + (k : Int)) 8 = true := fits_ok ⟨by omega, by omega, by omega, by omega⟩
    rw [getN, getN, if_pos h1, if_pos h2, List.drop_drop, show ((a : Int) + (k : Int)).toNat = a + k by omega, Int.toNat_natCast]
  · have h1 : fitsB (l.drop a).length k 8 = false := fits_no (fun hh => by rw [List.length_drop] at hh; omega)
    have h2 : fitsB l.length ((a : Int) + (k : Int)) 8 = false := fits_no (fun hh => by omega)
    rw [getN, getN, h1, h2]
    rfl
end Go.Proofs.Ytigdchfjcfljjaa
