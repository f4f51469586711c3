/- ObjBack: the plain law: what is encoded is what is read. -/
import Derived.Test.YtigdchfjcfljjaaObjH
import Derived.Test.YtigdchfjcfljjaaObjW
import Derived.Test.YtigdchfjcfljjaaEncB
namespace Go.Proofs.Ytigdchfjcfljjaa
open Go.RowKit
set_option linter.unusedVariables false
set_option linter.unusedSimpArgs false
theorem wordsAt_front (x y : List Int) (a n : Nat) (h : a + 8 * n ≤ x.length) : wordsAt (x ++ y) a n = wordsAt x a n := by
  rw [wordsAt, wordsAt]
  refine List.map_congr_left fun i hi => ?_
  have := List.mem_range.1 hi
  rw [show (a : Int) + 8 * (i : Int) = ((a + 8 * i : Nat) : Int) by omega]
  exact getN_front x y (a + 8 * i) (by omega)
theorem wordsAt_drop (l : List Int) (a k n : Nat) : wordsAt (l.drop a) k n = wordsAt l ((a : Int) + (k : Int)) n := by
  rw [wordsAt, wordsAt]
  refine List.map_congr_left fun i hi => ?_
  rw [show (k : Int) + 8 * (i : Int) = ((k + 8 * i : Nat) : Int) by omega, getN_drop]
  congr 1
  omega
theorem dz (k : Nat) (r : List Int) : (List.replicate k (0 : Int) ++ r).drop k = r := by
  have h : (List.replicate k (0 : Int)).length = k := List.length_replicate
  exact List.drop_left' h
theorem zeros_any (n : Nat) : ((List.replicate n (0 : Int)).any fun x => x != 0) = false := by
  rw [List.any_eq_false]
  intro x hx
  rw [List.eq_of_mem_replicate hx]
  simp
/-- An object behind anything, ahead of anything. -/
theorem obj_back {K : Int} {ws raw it : List Int} (bh : List Int) (k : Nat) (h8 : k % 8 = 0) (hr : oR K ws.length raw.length it.length = true) (hw : isW ws) (hi : isW it) {S : Int} (hS : S = 16 + 8 * (ws.length : Int) + (raw.length : Int) + 8 * (it.length : Int)) {b : List Int} (hb : b = List.replicate k 0 ++ (objZ K ws raw it ++ bh)) :
    dG b k = true ∧ getN b k 8 = K ∧ getN b ((k : Int) + 8) 8 = S ∧ odW b k K = ws ∧ odR b k K S = raw ∧ odI b k K S = it ∧ alignZ S = ((objZ K ws raw it).length : Int) := by
  obtain ⟨k1, k4, hwn, n1, n2, n3⟩ := oR_of hr
  have hS0 : 0 ≤ S ∧ S ≤ 100000 := by omega
  have hor := of_decide_eq_true hr
  have hd : b.drop k = objZ K ws raw it ++ bh := by rw [hb]; exact dz _ _
  have hD : b.drop k = words8 [K, S] ++ (words8 ws ++ (raw ++ (words8 it ++ (List.replicate (padN (objB K ws raw it).length 8) 0 ++ bh)))) := by
    rw [hd, objZ, objB, hS]
    simp only [List.append_assoc]
  have hal : alignZ S = ((objZ K ws raw it).length : Int) := by rw [hS, hwn]; exact obj_len hr
  have hg : ∀ j : Nat, getN b ((k : Int) + (j : Int)) 8 = getN (b.drop k) j 8 := fun j => (getN_drop b k j).symm
  have hKW : isW [K, S] := by intro x hx; simp at hx; omega
  have g0 : getN b k 8 = K := by
    have h := getN_words [] [K, S] hKW 0 (by simp)
    have h2 := hg 0
    rw [hD, getN_front _ _ _ (by rw [words8_len]; simp)] at h2
    simp only [List.nil_append, List.length_nil] at h
    rw [show ((k : Int) + ((0 : Nat) : Int)) = (k : Int) by omega] at h2
    rw [h2]
    exact h
  have g1 : getN b ((k : Int) + 8) 8 = S := by
    have h := getN_words [] [K, S] hKW 1 (by simp)
    have h2 := hg 8
    rw [hD, getN_front _ _ _ (by rw [words8_len]; simp)] at h2
    simp only [List.nil_append, List.length_nil] at h
    rw [show ((8 : Nat) : Int) = 8 from rfl] at h2
    rw [h2]
    exact h
  have l2 : (words8 [K, S]).length = 16 := by rw [words8_len]; rfl
  have hW : odW b k K = ws := by
    rw [odW, ← hwn, Int.toNat_natCast, show (k : Int) + 16 = (k : Int) + ((16 : Nat) : Int) by omega, ← wordsAt_drop, hD, ← List.append_assoc, wordsAt_front _ _ _ _ (by rw [List.length_append, l2, words8_len]; omega)]
    have h := words_back (words8 [K, S]) ws hw
    rw [l2] at h
    exact h
  have hlen : b.length = k + (objZ K ws raw it).length + bh.length := by rw [hb]; simp only [List.length_append, List.length_replicate]; omega
  have hSz : 16 + 8 * ws.length + raw.length + 8 * it.length ≤ (objZ K ws raw it).length := by rw [objZ, List.length_append, objB_len]; omega
  have hR : odR b k K S = raw := by
    rw [odR]
    by_cases c : K < 3
    · rw [if_pos c, ← hwn]
      have hit : it = [] := List.length_eq_zero_iff.1 (by omega)
      have e : S - (16 + 8 * (ws.length : Int)) = (raw.length : Int) := by omega
      rw [e, rawAt, show ((k : Int) + 16 + 8 * (ws.length : Int) + (raw.length : Int)).toNat = k + (16 + 8 * ws.length + raw.length) by omega, show ((k : Int) + 16 + 8 * (ws.length : Int)).toNat = k + (16 + 8 * ws.length) by omega]
      rw [List.drop_take, ← List.drop_drop, hD, show k + (16 + 8 * ws.length + raw.length) - (k + (16 + 8 * ws.length)) = raw.length by omega]
      have l3 : (words8 [K, S] ++ words8 ws).length = 16 + 8 * ws.length := by rw [List.length_append, l2, words8_len]
      rw [← List.append_assoc, List.drop_left' l3, List.take_left]
    · rw [if_neg c]
      exact (List.length_eq_zero_iff.1 (by omega)).symm
  have hI : odI b k K S = it := by
    rw [odI]
    by_cases c : K < 3
    · rw [if_pos c]
      exact (List.length_eq_zero_iff.1 (by omega)).symm
    · rw [if_neg c, ← hwn]
      have hraw : raw = [] := List.length_eq_zero_iff.1 (by omega)
      have e : ((S - (16 + 8 * (ws.length : Int))) / 8).toNat = it.length := by omega
      rw [e, show (k : Int) + 16 + 8 * (ws.length : Int) = (k : Int) + ((16 + 8 * ws.length : Nat) : Int) by omega, ← wordsAt_drop, hD, hraw, List.nil_append, ← List.append_assoc, ← List.append_assoc, wordsAt_front _ _ _ _ (by rw [List.length_append, List.length_append, l2, words8_len, words8_len]; omega)]
      have l3 : (words8 [K, S] ++ words8 ws).length = 16 + 8 * ws.length := by rw [List.length_append, l2, words8_len]
      have h := words_back (words8 [K, S] ++ words8 ws) it hi
      rw [l3] at h
      exact h
  have hP : ((odP b k S (alignZ S)).any fun x => x != 0) = false := by
    rw [odP, hal]
    obtain ⟨z, hz⟩ : ∃ z, (objB K ws raw it).length = z := ⟨_, rfl⟩
    have hz2 := objB_len K ws raw it
    rw [show ((k : Int) + ((objZ K ws raw it).length : Int)).toNat = k + (objZ K ws raw it).length by omega, show ((k : Int) + S).toNat = k + z by rw [← hz, hz2, hS]; omega, List.drop_take, ← List.drop_drop, hd, show k + (objZ K ws raw it).length - (k + z) = (objZ K ws raw it).length - z by omega, objZ, List.append_assoc, List.drop_left' hz, List.length_append, hz, List.length_replicate, Nat.add_sub_cancel_left, List.take_left' (List.length_replicate)]
    exact zeros_any _
  refine ⟨?_, g0, g1, hW, hR, hI, hal⟩
  rw [dG, g0, g1, odG, hW, hR, hI, hP, hr]
  have hf : frOk b k = true := by
    refine decide_eq_true ⟨by omega, by omega, by omega, by rw [g0]; exact k1, by rw [g0]; exact k4, by rw [g1]; omega, ?_, ?_⟩
    · rw [g0, g1, ← hwn]; omega
    · rw [g1, hal]; omega
  rw [hf]
  by_cases c : K < 3
  · rw [decide_eq_true c]; rfl
  · rw [decide_eq_true (show S % 8 = 0 by omega)]; simp
end Go.Proofs.Ytigdchfjcfljjaa
