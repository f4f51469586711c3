/- ObjReads: the plain law: what was read, encoded, is what stands there. -/
import Derived.Test.YtigdchfjcfljjaaObjG
namespace Go.Proofs.Ytigdchfjcfljjaa
set_option linter.unusedVariables false
set_option linter.unusedSimpArgs false

theorem wordsAt_snoc' (l : List Int) (a : Int) (k : Nat) : wordsAt l a (k + 1) = wordsAt l a k ++ [getN l (a + 8 * (k : Int)) 8] := by simp [wordsAt, List.range_succ]
theorem leB_at (l : List Int) (hb : isB l) (p : Nat) (h : p + 8 ≤ l.length) : leB (getN l p 8) 8 = (l.drop p).take 8 := by
  have := getN_bytes l hb p 8 (fits_ok ⟨by omega, by omega, by omega, by omega⟩)
  rwa [leW8, Int.toNat_natCast] at this
theorem words8_at (l : List Int) (hb : isB l) (p : Nat) : ∀ (k : Nat), p + 8 * k ≤ l.length → words8 (wordsAt l p k) = (l.drop p).take (8 * k)
  | 0, _ => by simp [wordsAt, words8]
  | k + 1, h => by
    rw [wordsAt_snoc', words8_snoc, words8_at l hb p k (by omega), show (p : Int) + 8 * (k : Int) = ((p + 8 * k : Nat) : Int) by omega, leB_at l hb _ (by omega), show 8 * (k + 1) = 8 * k + 8 by omega, List.take_add, List.drop_drop]
theorem leB_inj {x y : Int} (hx : 0 ≤ x) (hx1 : x < 18446744073709551616) (hy : 0 ≤ y) (hy1 : y < 18446744073709551616) (h : leB x 8 = leB y 8) : x = y := by
  have a := leN_leB 8 x hx
  have b := leN_leB 8 y hy
  rw [h, b] at a
  omega
/-- Zeros, or not. -/
theorem zeros_iff : ∀ (m : List Int), m = List.replicate m.length 0 ↔ (m.any fun x => x != 0) = false
  | [] => by simp
  | x :: m => by
    have := zeros_iff m
    simp only [List.length_cons, List.replicate_succ, List.cons.injEq, List.any_cons, Bool.or_eq_false_iff, bne_eq_false_iff_eq]
    rw [this]
section
variable {l : List Int} {A : Nat} {K S : Int} {ws raw it : List Int}
theorem two_at (hb : isB l) (h16 : A + 16 ≤ l.length) (hK : getN l A 8 = K) (hS : getN l ((A : Int) + 8) 8 = S) : words8 [K, S] = (l.drop A).take 16 := by
  have h := words8_at l hb A 2 (by omega)
  have e : wordsAt l A 2 = [K, S] := by simp [wordsAt, List.range_succ, hK, hS]
  rw [e] at h
  exact h
theorem objB_at (hb : isB l) {z : Nat} (hz : (z : Int) = S) (h16 : A + 16 ≤ l.length) (hK : getN l A 8 = K) (hS : getN l ((A : Int) + 8) 8 = S) (hz2 : z = 16 + 8 * ws.length + raw.length + 8 * it.length)
    (h : words8 ws ++ raw ++ words8 it = ((l.drop A).drop 16).take (z - 16)) : objB K ws raw it = (l.drop A).take z := by
  rw [objB, show 16 + 8 * (ws.length : Int) + (raw.length : Int) + 8 * (it.length : Int) = S by omega, two_at hb h16 hK hS, List.append_assoc, List.append_assoc, ← List.append_assoc (words8 ws), h]
  rw [show z = 16 + (z - 16) by omega, List.take_add, show 16 + (z - 16) - 16 = z - 16 by omega]
/-- The padding. -/
theorem objZ_at {z p : Nat} {d : List Int} (hl : z + p ≤ d.length) (hB : objB K ws raw it = d.take z) (hp : padN (z : Int) 8 = p) :
    (objZ K ws raw it).length = z + p ∧ (objZ K ws raw it = d.take (z + p) ↔ (((d.take (z + p)).drop z).any fun x => x != 0) = false) := by
  have hn : (objB K ws raw it).length = z := by rw [hB, List.length_take]; omega
  have hq : ((d.drop z).take p).length = p := by rw [List.length_take, List.length_drop]; omega
  constructor
  · rw [objZ, List.length_append, List.length_replicate, hn, hp]
  · have e : (d.take (z + p)).drop z = (d.drop z).take p := by rw [List.drop_take, Nat.add_sub_cancel_left]
    rw [e, ← zeros_iff, hq, objZ, hn, hp, hB, List.take_add, List.append_cancel_left_eq]
    exact ⟨fun h => h.symm, fun h => h.symm⟩
/-- With another size than the one that stands there, it is not what stands there. -/
theorem objZ_ne (hb : isB l) (h16 : A + 16 ≤ l.length) (hS : getN l ((A : Int) + 8) 8 = S) (hs : (16 + 8 * (ws.length : Int) + (raw.length : Int) + 8 * (it.length : Int)) ≠ S) (hs1 : (16 + 8 * (ws.length : Int) + (raw.length : Int) + 8 * (it.length : Int)) < 18446744073709551616) {n : Nat} (hn : 16 ≤ n) :
    objZ K ws raw it ≠ (l.drop A).take n := fun e => by
  have e1 : (((objZ K ws raw it).drop 8).take 8) = ((((l.drop A).take n).drop 8).take 8) := by rw [e]
  have e2 : (((objZ K ws raw it).drop 8).take 8) = leB (16 + 8 * (ws.length : Int) + (raw.length : Int) + 8 * (it.length : Int)) 8 := by
    simp only [objZ, objB, words8, List.append_assoc, List.nil_append]
    rw [List.drop_append, List.drop_eq_nil_of_le (by rw [leB_len]; omega), List.nil_append, leB_len, Nat.sub_self, List.drop_zero, List.take_append_of_le_length (by rw [leB_len]; omega), List.take_of_length_le (by rw [leB_len]; omega)]
  have e3 : (((l.drop A).take n).drop 8).take 8 = leB S 8 := by
    rw [← hS, show (A : Int) + 8 = ((A + 8 : Nat) : Int) by omega, leB_at l hb _ (by omega), List.drop_take, List.take_take, List.drop_drop, Nat.min_eq_left (by omega)]
  rw [e2, e3] at e1
  have hSb := getN_bound l hb ((A : Int) + 8) 8
  rw [hS] at hSb
  exact hs (leB_inj (by omega) hs1 hSb.1 (by omega) e1)
end
/-- The reference's test. -/
def rdT (l : List Int) (a K S : Int) : Bool := oR K (odW l a K).length (odR l a K S).length (odI l a K S).length && decide (((objZ K (odW l a K) (odR l a K S) (odI l a K S)).length : Int) ≤ l.length - a) && decide (objZ K (odW l a K) (odR l a K S) (odI l a K S) = (l.drop a.toNat).take (objZ K (odW l a K) (odR l a K S) (odI l a K S)).length)
theorem pad_al {z : Nat} (hz : 0 < z) : alignZ (z : Int) = (z : Int) + (padN (z : Int) 8 : Int) := by
  rw [alignZ, if_neg (by omega)]; unfold padN; rw [if_pos (by omega)]; omega
theorem drop_take_rel (l : List Int) (A z p : Nat) : (l.take (A + (z + p))).drop (A + z) = ((l.drop A).take (z + p)).drop z := by
  rw [← List.drop_drop, List.drop_take, Nat.add_sub_cancel_left]
set_option maxHeartbeats 4000000 in
theorem rdT_main {l : List Int} (hb : isB l) (hl : l.length ≤ 100000) {a K S : Int} (a0 : 0 ≤ a) (a1 : a + 16 ≤ l.length) (hK : getN l a 8 = K) (hS : getN l (a + 8) 8 = S) (k0 : 1 ≤ K) (k1 : K ≤ 4) (s0 : 16 + 8 * wN K ≤ S) (s1 : S ≤ l.length - a) :
    rdT l a K S = (decide (alignZ S ≤ l.length - a) && odG l a K S (alignZ S)) ∧ (rdT l a K S = true → objZ K (odW l a K) (odR l a K S) (odI l a K S) = rawAt l a (alignZ S) ∧ ((objZ K (odW l a K) (odR l a K S) (odI l a K S)).length : Int) = alignZ S) := by
  obtain ⟨A, rfl⟩ := Int.eq_ofNat_of_zero_le a0
  obtain ⟨z, rfl⟩ := Int.eq_ofNat_of_zero_le (show 0 ≤ S by have := wN_bd K; omega)
  obtain ⟨q0, q1⟩ := wN_bd K
  obtain ⟨q, hq⟩ : ∃ q : Nat, wN K = (q : Int) := Int.eq_ofNat_of_zero_le q0
  have hal := pad_al (z := z) (by omega)
  obtain ⟨p, hp⟩ : ∃ p, padN (z : Int) 8 = p := ⟨_, rfl⟩
  rw [hp] at hal
  have hp7 : p ≤ 7 := by have := hp; unfold padN at this; rw [if_pos (by omega)] at this; omega
  have hp8 : p = 0 ↔ z % 8 = 0 := by have := hp; unfold padN at this; rw [if_pos (by omega)] at this; omega
  have hW : words8 (odW l A K) = ((l.drop A).drop 16).take (8 * q) := by
    rw [odW, hq, Int.toNat_natCast, show (A : Int) + 16 = ((A + 16 : Nat) : Int) by omega, words8_at l hb _ q (by omega), List.drop_drop]
  have hWl : (odW l A K).length = q := by rw [odW, hq, wordsAt_len, Int.toNat_natCast]
  have hsz : alignZ (z : Int) ≤ (l.length : Int) - (A : Int) ↔ z + p ≤ (l.drop A).length := by rw [hal, List.length_drop]; omega
  have hP : odP l A z (alignZ z) = ((l.drop A).take (z + p)).drop z := by
    rw [odP, hal, show ((A : Int) + ((z : Int) + (p : Int))).toNat = A + (z + p) by omega, show ((A : Int) + (z : Int)).toNat = A + z by omega, drop_take_rel]
  have hR : rawAt l A (alignZ z) = (l.drop A).take (z + p) := by
    rw [rawAt, hal, show ((A : Int) + ((z : Int) + (p : Int))).toNat = A + (z + p) by omega, Int.toNat_natCast, List.drop_take, Nat.add_sub_cancel_left]
  -- the end of both kinds
  have fin : (words8 (odW l A K) ++ odR l A K z ++ words8 (odI l A K z) = ((l.drop A).drop 16).take (z - 16)) → z = 16 + 8 * (odW l A K).length + (odR l A K z).length + 8 * (odI l A K z).length → (decide (K < 3) || decide ((z : Int) % 8 = 0)) = true →
      rdT l A K z = (decide (alignZ (z : Int) ≤ (l.length : Int) - (A : Int)) && odG l A K z (alignZ z)) ∧ (rdT l A K z = true → objZ K (odW l A K) (odR l A K z) (odI l A K z) = rawAt l A (alignZ z) ∧ ((objZ K (odW l A K) (odR l A K z) (odI l A K z)).length : Int) = alignZ (z : Int)) := by
    intro h1 h2 h3
    have hB := objB_at hb rfl (by omega) hK hS h2 h1
    have hBl : (objB K (odW l A K) (odR l A K z) (odI l A K z)).length = z := by rw [hB, List.length_take, List.length_drop]; omega
    have hZl : (objZ K (odW l A K) (odR l A K z) (odI l A K z)).length = z + p := by rw [objZ, List.length_append, List.length_replicate, hBl, hp]
    by_cases hfit : z + p ≤ (l.drop A).length
    · obtain ⟨hZ1, hZ2⟩ := objZ_at hfit hB hp
      have e1 : rdT l A K z = odG l A K z (alignZ z) := by
        rw [rdT, odG, h3, hP, hZl, Int.toNat_natCast, decide_eq_true (show (((z + p : Nat) : Int) ≤ (l.length : Int) - (A : Int)) by rw [List.length_drop] at hfit; omega)]
        simp only [Bool.and_true]
        congr 1
        cases h : (((l.drop A).take (z + p)).drop z).any fun x => x != 0
        · rw [decide_eq_true (hZ2.2 h)]; rfl
        · rw [decide_eq_false (fun e => by rw [hZ2.1 e] at h; cases h)]; rfl
      refine ⟨by rw [e1, decide_eq_true (hsz.2 hfit)]; simp, fun ht => ?_⟩
      rw [rdT, Bool.and_eq_true, hZl, Int.toNat_natCast] at ht
      exact ⟨by rw [hR]; exact of_decide_eq_true ht.2, by rw [hZl, hal]; omega⟩
    · have e1 : rdT l A K z = false := by
        rw [rdT, hZl, decide_eq_false (show ¬ (((z + p : Nat) : Int) ≤ (l.length : Int) - (A : Int)) by rw [List.length_drop] at hfit; omega)]; simp
      rw [e1, decide_eq_false (fun h => hfit (hsz.1 h))]
      exact ⟨by simp, fun h => by cases h⟩
  have hqz : 16 + 8 * q ≤ z := by omega
  have hzl : z ≤ (l.drop A).length := by rw [List.length_drop]; omega
  by_cases k3 : K < 3
  · have hr1 : odR l A K z = (((l.drop A).drop 16).drop (8 * q)).take (z - 16 - 8 * q) := by
      rw [odR, if_pos k3, hq, rawAt, show ((A : Int) + 16 + 8 * (q : Int) + ((z : Int) - (16 + 8 * (q : Int)))).toNat = A + z by omega, show ((A : Int) + 16 + 8 * (q : Int)).toNat = A + 16 + 8 * q by omega, List.drop_take, List.drop_drop, List.drop_drop, show A + 16 + 8 * q = A + (16 + 8 * q) by omega]
      congr 1
      omega
    have hi1 : odI l A K z = [] := by rw [odI, if_pos k3]
    refine fin ?_ ?_ (by rw [decide_eq_true k3]; rfl)
    · rw [hW, hr1, hi1, words8, List.append_nil, show z - 16 = 8 * q + (z - 16 - 8 * q) by omega, List.take_add]
      simp
    · rw [hWl, hi1, hr1, List.length_take, List.length_drop, List.length_drop, List.length_nil]; omega
  · have hr1 : odR l A K z = [] := by rw [odR, if_neg k3]
    obtain ⟨m, hm⟩ : ∃ m : Nat, ((z : Int) - (16 + 8 * wN K)) / 8 = (m : Int) := Int.eq_ofNat_of_zero_le (by omega)
    have hi1 : odI l A K z = wordsAt l ((A + 16 + 8 * q : Nat) : Int) m := by rw [odI, if_neg k3, hm, hq, Int.toNat_natCast]; congr 1
    have hm8 : 8 * m ≤ z - 16 - 8 * q := by omega
    have hi2 : words8 (odI l A K z) = (((l.drop A).drop 16).drop (8 * q)).take (8 * m) := by
      rw [hi1, words8_at l hb _ m (by rw [List.length_drop] at hzl; omega), List.drop_drop, List.drop_drop, Nat.add_assoc]
    by_cases hz8 : z % 8 = 0
    · refine fin ?_ ?_ (by rw [decide_eq_true (show (z : Int) % 8 = 0 by omega)]; simp)
      · rw [hW, hi2, hr1, List.append_nil, show z - 16 = 8 * q + 8 * m by omega, List.take_add]
      · rw [hWl, hr1, hi1, wordsAt_len, List.length_nil]; omega
    · have e1 : rdT l A K z = false := by
        rw [rdT, Int.toNat_natCast, decide_eq_false (objZ_ne hb (by omega) hS (by rw [hWl, hr1, hi1, wordsAt_len, List.length_nil]; omega) (by rw [hWl, hr1, hi1, wordsAt_len, List.length_nil]; omega) (by rw [objZ, List.length_append, objB_len]; omega))]
        simp
      have e2 : odG l A K z (alignZ z) = false := by
        rw [odG, decide_eq_false k3, decide_eq_false (show ¬ (z : Int) % 8 = 0 by omega)]; simp
      rw [e1, e2]
      exact ⟨by simp, fun h => by cases h⟩
end Go.Proofs.Ytigdchfjcfljjaa
