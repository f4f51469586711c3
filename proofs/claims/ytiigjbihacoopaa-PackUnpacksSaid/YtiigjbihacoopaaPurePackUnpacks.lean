import Derived.Test.YtiigjbihacoopaaPPackUnpacksx4
import Derived.Test.YtiigjbihacoopaaLe2
namespace Go.Proofs.Ytiigjbihacoopaa.Pure
open Go.RowKit Go.Proofs.Ytiigjbihacoopaa Go.Proofs.Ytiigjbihacoopaa.PPackUnpacks Go.Proofs.YtiigjbihacoopaaW.PrintWords Go.Proofs.YtiigjbihacoopaaW.PrintLast
set_option linter.unusedVariables false
set_option linter.unusedSimpArgs false

theorem wid {x : Int} (h0 : -9223372036854775808 ≤ x) (h1 : x ≤ 9223372036854775807) : wrap64 x = x := by unfold wrap64; omega
theorem rd_b {l : List Int} (h : isB l) (i : Int) : 0 ≤ rd l i ∧ rd l i ≤ 255 := h.getD i.toNat
theorem fits2 (l : List Int) (a : Int) (h0 : 0 ≤ a) (hl : l.length ≤ 100000) : le_fits.f l a 2 = some (decide (a + 2 ≤ l.length)) := by
  by_cases h1 : a ≤ (l.length : Int)
  · simp [le_fits.f, h0, h1]
    rw [wid (by omega) (by omega)]
    omega
  · simp [le_fits.f, h0, h1]
    omega
def two (l : List Int) (a : Int) : Int := rd l a + 256 * rd l (a + 1)
theorem leGet2 (l : List Int) (hb : isB l) (a : Int) (h0 : 0 ≤ a) (hl : l.length ≤ 100000) : ∃ k, le_Get.f k l a 2 = some (if a + 2 ≤ l.length then (two l a, true) else (0, false)) := by
  refine ⟨4, ?_⟩
  rw [le_Get.f, fits2 l a h0 hl]
  by_cases h : a + 2 ≤ (l.length : Int)
  · have b0 := rd_b hb a
    have b1 := rd_b hb (a + 1)
    have e1 : wrap64 ((2 : Int) - 1) = 1 := by decide +kernel
    have e2 : wrap64 (a + 1) = a + 1 := wid (by omega) (by omega)
    have e3 : wrap64 (a + 0) = a := by rw [Int.add_zero]; exact wid (by omega) (by omega)
    have e4 : wrap64 ((1 : Int) - 1) = 0 := by decide +kernel
    have e5 : wrap64 ((0 : Int) - 1) = -1 := by decide +kernel
    have o1 : Go.bits .or .u64 (IntKind.u64.wrap (0 * 256)) (IntKind.u64.wrap (rd l (a + 1))) = rd l (a + 1) := by
      have := or_byte 0 (rd l (a + 1)) (by omega) (by omega) b1
      rw [IntKind.wrap_u64, IntKind.wrap_u64, Int.emod_eq_of_lt b1.1 (by omega)]
      simpa using this
    have o2 : Go.bits .or .u64 (IntKind.u64.wrap (rd l (a + 1) * 256)) (IntKind.u64.wrap (rd l a)) = two l a := by
      have := or_byte (rd l (a + 1)) (rd l a) b1.1 (by omega) b0
      rw [IntKind.wrap_u64, IntKind.wrap_u64, Int.emod_eq_of_lt b0.1 (by omega), Int.emod_eq_of_lt (by omega) (by omega)]
      exact this
    rw [if_pos h]
    simp only [decide_eq_true h, Option.bind_some, if_true, e1]
    rw [le_Get.l0, if_pos (by omega), e2, if_pos (by omega), if_pos (by omega), o1, e4, le_Get.l0, if_pos (by omega), e3, if_pos (by omega), if_pos (by omega), o2, e5, le_Get.l0, if_neg (by omega)]
  · rw [if_neg h]
    simp [h]
theorem refGet2 (l : List Int) (hb : isB l) (a : Int) (h0 : 0 ≤ a) (hl : l.length ≤ 100000) : ∃ k, logbookref01_Get.f k l a 2 = some (if a + 2 ≤ l.length then (two l a, true) else (0, false)) := by
  refine ⟨5, ?_⟩
  by_cases h1 : a ≤ (l.length : Int)
  · have e0 : wrap64 ((l.length : Int) - a) = (l.length : Int) - a := wid (by omega) (by omega)
    rw [logbookref01_Get.f, if_neg (by decide), if_pos rfl, if_neg (by omega), if_neg (by omega), e0, logbookref01_Get.j0]
    by_cases h : a + 2 ≤ (l.length : Int)
    · have b0 := rd_b hb a
      have b1 := rd_b hb (a + 1)
      have e2 : wrap64 (a + 1) = a + 1 := wid (by omega) (by omega)
      have e3 : wrap64 (a + 0) = a := by rw [Int.add_zero]; exact wid (by omega) (by omega)
      have w1 : wrap64 ((0 : Int) + 1) = 1 := by decide +kernel
      have w2 : wrap64 ((1 : Int) + 1) = 2 := by decide +kernel
      have u0 : IntKind.u64.wrap (1 * 256) = 256 := by decide
      have u1 : IntKind.u64.wrap (0 + IntKind.u64.wrap (1 * IntKind.u64.wrap (rd l a))) = rd l a := by simp only [IntKind.wrap_u64]; omega
      have u2 : IntKind.u64.wrap (rd l a + IntKind.u64.wrap (256 * IntKind.u64.wrap (rd l (a + 1)))) = two l a := by simp only [IntKind.wrap_u64, two]; omega
      rw [if_neg (by simp; omega), logbookref01_Get.l0, if_pos (by omega), e3, if_pos (by omega), if_pos (by omega), u1, u0, w1, logbookref01_Get.l0, if_pos (by omega), e2, if_pos (by omega), if_pos (by omega), u2, w2, logbookref01_Get.l0, if_neg (by omega), if_pos h]
    · rw [if_pos (by simp; omega), if_neg h]
  · rw [logbookref01_Get.f, if_neg (by decide), if_pos rfl, if_neg (by omega), if_pos (by omega), logbookref01_Get.j0, if_pos rfl, if_neg (by omega)]
def copyRun : List Int → Int → Nat → List Int
  | out, _, 0 => out
  | out, b, n + 1 => copyRun (out ++ [rd out ((out.length : Int) - b)]) b n
theorem copyRun_len : ∀ (n : Nat) (out : List Int) (b : Int), (copyRun out b n).length = out.length + n
  | 0, out, b => rfl
  | n + 1, out, b => by rw [copyRun, copyRun_len n]; simp; omega
theorem packRun (l : List Int) (m : Int) (a b N : Int) (r : List Int × Int) (hb0 : 1 ≤ b) : ∀ (n : Nat) (out : List Int) (x : Int), b ≤ out.length → out.length + n ≤ 200000 → N - x = n → 0 ≤ x → N ≤ 1000 →
    (∃ k, pack_Unpack.l0 k l m (copyRun out b n) a = some r) → ∃ k, pack_Unpack.l1 k l m out a b N x = some r
  | 0, out, x, h1, h2, h3, h4, h5, ⟨k, hk⟩ => ⟨k + 1, by rw [pack_Unpack.l1, if_neg (by omega)]; exact hk⟩
  | n + 1, out, x, h1, h2, h3, h4, h5, hk => by
    rw [copyRun] at hk
    obtain ⟨k, h⟩ := packRun l m a b N r hb0 n (out ++ [rd out ((out.length : Int) - b)]) (x + 1) (by simp; omega) (by simp; omega) (by omega) (by omega) h5 hk
    have e1 : wrap64 b = b := wid (by omega) (by omega)
    have e2 : wrap64 ((out.length : Int) - b) = (out.length : Int) - b := wid (by omega) (by omega)
    have e3 : wrap64 (x + 1) = x + 1 := wid (by omega) (by omega)
    exact ⟨k + 1, by rw [pack_Unpack.l1, if_pos (by omega), e1, e2, if_pos (by omega), if_pos (by omega), if_pos (by omega), e3]; exact h⟩
theorem refRun (l : List Int) (m : Int) (a i b N : Int) (r : List Int × Bool) (hb0 : 1 ≤ b) (ha0 : 0 ≤ a) (ha1 : a ≤ 100000) (hi0 : 0 ≤ i) (hi1 : i ≤ 100000) : ∀ (n : Nat) (out : List Int) (x : Int), b ≤ out.length → out.length + n ≤ 200000 → N - x = n → 0 ≤ x → N ≤ 1000 →
    (∃ k, logbookref42_Unpack.l0 k l m (copyRun out b n) (a + 2) (i + 1) = some r) → ∃ k, logbookref42_Unpack.l2 k l m out a i N b x = some r
  | 0, out, x, h1, h2, h3, h4, h5, ⟨k, hk⟩ => ⟨k + 1, by rw [logbookref42_Unpack.l2, if_neg (by omega), wid (by omega) (by omega), wid (by omega) (by omega)]; exact hk⟩
  | n + 1, out, x, h1, h2, h3, h4, h5, hk => by
    rw [copyRun] at hk
    obtain ⟨k, h⟩ := refRun l m a i b N r hb0 ha0 ha1 hi0 hi1 n (out ++ [rd out ((out.length : Int) - b)]) (x + 1) (by simp; omega) (by simp; omega) (by omega) (by omega) h5 hk
    have e1 : wrap64 b = b := wid (by omega) (by omega)
    have e2 : wrap64 ((out.length : Int) - b) = (out.length : Int) - b := wid (by omega) (by omega)
    have e3 : wrap64 (x + 1) = x + 1 := wid (by omega) (by omega)
    exact ⟨k + 1, by rw [logbookref42_Unpack.l2, if_pos (by omega), e1, e2, if_pos (by omega), if_pos (by omega), if_pos (by omega), e3]; exact h⟩
theorem refLit (l : List Int) (m : Int) (a i c : Int) (r : List Int × Bool) (ha0 : 0 ≤ a) (hc : a + c + 1 ≤ l.length) (hl : l.length ≤ 100000) (hi0 : 0 ≤ i) (hi1 : i ≤ 100000) : ∀ (n : Nat) (out : List Int) (x : Int), out.length + n ≤ 200000 → c + 1 - x = n → 0 ≤ x →
    (∃ k, logbookref42_Unpack.l0 k l m (out ++ (l.take (a + c + 1).toNat).drop (a + x).toNat) (a + c + 1) (i + 1) = some r) → ∃ k, logbookref42_Unpack.l1 k l m out a i c x = some r
  | 0, out, x, h2, h3, h4, ⟨k, hk⟩ => ⟨k + 1, by
    rw [List.drop_eq_nil_of_le (by simp; omega), List.append_nil] at hk
    rw [logbookref42_Unpack.l1, if_neg (by omega), wid (x := a + c) (by omega) (by omega), wid (by omega) (by omega), wid (by omega) (by omega)]; exact hk⟩
  | n + 1, out, x, h2, h3, h4, hk => by
    have e0 : (l.take (a + c + 1).toNat).drop (a + x).toNat = rd l (a + x) :: (l.take (a + c + 1).toNat).drop (a + (x + 1)).toNat := by
      rw [drop_cons' (show (a + x).toNat < (l.take (a + c + 1).toNat).length by simp; omega), show (a + (x + 1)).toNat = (a + x).toNat + 1 by omega]
      congr 1
      rw [rd, List.getD_eq_getElem?_getD, List.getD_eq_getElem?_getD, List.getElem?_take, if_pos (by omega)]
    rw [e0, show ∀ (p q : List Int) (y : Int), p ++ y :: q = (p ++ [y]) ++ q by simp] at hk
    obtain ⟨k, h⟩ := refLit l m a i c r ha0 hc hl hi0 hi1 n (out ++ [rd l (a + x)]) (x + 1) (by simp; omega) (by omega) (by omega) hk
    have e1 : wrap64 (a + x) = a + x := wid (by omega) (by omega)
    have e3 : wrap64 (x + 1) = x + 1 := wid (by omega) (by omega)
    exact ⟨k + 1, by rw [logbookref42_Unpack.l1, if_pos (by omega), e1, if_pos (by omega), if_pos (by omega), if_pos (by omega), e3]; exact h⟩
/-- Both ways tell the same, from every place on. -/
theorem both (l : List Int) (hb : isB l) (hl : l.length ≤ 1500) (m : Int) (hm0 : 0 ≤ m) (hm1 : m ≤ 65536) : ∀ (n : Nat) (out : List Int) (a i : Int), (l.length : Int) - a ≤ n → 0 ≤ a → a ≤ l.length → 0 ≤ i → i ≤ a → (out.length : Int) ≤ m →
    ∃ xs b, (∃ k, pack_Unpack.l0 k l m out a = some (xs, if b = true then 0 else 27)) ∧ (∃ k, logbookref42_Unpack.l0 k l m out a i = some (xs, b))
  | 0, out, a, i, h0, h1, h2, h3, h4, h5 => ⟨out, true, ⟨1, by rw [pack_Unpack.l0, if_neg (by omega)]; rfl⟩, ⟨1, by rw [logbookref42_Unpack.l0, if_pos (by omega), if_pos (by omega)]⟩⟩
  | n + 1, out, a, i, h0, h1, h2, h3, h4, h5 => by
    by_cases ha : a < (l.length : Int)
    · have hc := rd_b hb a
      obtain ⟨c, hcc⟩ : ∃ c, rd l a = c := ⟨_, rfl⟩
      rw [hcc] at hc
      have e0 : wrap64 c = c := wid (by omega) (by omega)
      have e1 : wrap64 (a + 1) = a + 1 := wid (by omega) (by omega)
      have e2 : wrap64 (c + 1) = c + 1 := wid (by omega) (by omega)
      have e3 : wrap64 ((l.length : Int) - (a + 1)) = (l.length : Int) - (a + 1) := wid (by omega) (by omega)
      have e4 : wrap64 (m - (out.length : Int)) = m - out.length := wid (by omega) (by omega)
      by_cases hc1 : c < 128
      · have e5 : wrap64 ((out.length : Int) + c) = out.length + c := wid (by omega) (by omega)
        have e6 : wrap64 ((out.length : Int) + c + 1) = out.length + c + 1 := wid (by omega) (by omega)
        have e7 : wrap64 (a + 1 + (c + 1)) = a + 1 + (c + 1) := wid (by omega) (by omega)
        by_cases g1 : c + 1 > (l.length : Int) - (a + 1)
        · refine ⟨[], false, ⟨1, ?_⟩, ⟨2, ?_⟩⟩
          · rw [pack_Unpack.l0, if_pos ha, if_pos h1, hcc, e0, if_pos hc1, e1, e2, e3, if_pos g1]; rfl
          · rw [logbookref42_Unpack.l0, if_pos (by omega), if_neg (by omega), if_pos h1, if_pos ha, hcc, e0, if_pos hc1, e1, e2, e3, if_pos g1, logbookref42_Unpack.j3, if_pos rfl]
        · by_cases g2 : c + 1 > m - (out.length : Int)
          · refine ⟨[], false, ⟨1, ?_⟩, ⟨2, ?_⟩⟩
            · rw [pack_Unpack.l0, if_pos ha, if_pos h1, hcc, e0, if_pos hc1, e1, e2, e3, if_neg g1, e4, if_pos g2]; rfl
            · rw [logbookref42_Unpack.l0, if_pos (by omega), if_neg (by omega), if_pos h1, if_pos ha, hcc, e0, if_pos hc1, e1, e2, e3, if_neg g1, e5, e6, decide_eq_true (by omega), logbookref42_Unpack.j3, if_pos rfl]
          · have hlen : ((l.take (a + 1 + (c + 1)).toNat).drop (a + 1).toNat).length = (c + 1).toNat := by simp; omega
            obtain ⟨xs, b, ⟨k1, hk1⟩, hk2⟩ := both l hb hl m hm0 hm1 n (out ++ (l.take (a + 1 + (c + 1)).toNat).drop (a + 1).toNat) (a + 1 + (c + 1)) (i + 1) (by omega) (by omega) (by omega) (by omega) (by omega) (by rw [List.length_append, hlen]; omega)
            refine ⟨xs, b, ⟨k1 + 1, ?_⟩, ?_⟩
            · rw [pack_Unpack.l0, if_pos ha, if_pos h1, hcc, e0, if_pos hc1, e1, e2, e3, if_neg g1, e4, if_neg g2, if_pos (by omega), e7, if_pos (by omega), if_pos (by omega), if_pos (by rw [hlen]; omega)]
              exact hk1
            · have hx : a + 1 + (c + 1) = a + 1 + c + 1 := by omega
              rw [hx] at hk2
              have hx0 : (a + 1).toNat = (a + 1 + 0).toNat := by rw [Int.add_zero]
              rw [hx0] at hk2
              obtain ⟨k2, hk2⟩ := refLit l m (a + 1) i c _ (by omega) (by omega) (by omega) h3 (by omega) (c + 1).toNat out 0 (by omega) (by omega) (by omega) hk2
              exact ⟨k2 + 2, by
                rw [logbookref42_Unpack.l0, if_pos (by omega), if_neg (by omega), if_pos h1, if_pos ha, hcc, e0, if_pos hc1, e1, e2, e3, if_neg g1, e5, e6, decide_eq_false (by omega), logbookref42_Unpack.j3, if_neg (by simp)]
                exact hk2⟩
      · have e5 : wrap64 (c + -124) = c - 124 := wid (by omega) (by omega)
        have e6 : wrap64 (c - 124) = c - 124 := wid (by omega) (by omega)
        have e7 : wrap64 ((out.length : Int) + (c - 124)) = out.length + (c - 124) := wid (by omega) (by omega)
        obtain ⟨kp, hkp⟩ := leGet2 l hb (a + 1) (by omega) (by omega)
        obtain ⟨kr, hkr⟩ := refGet2 l hb (a + 1) (by omega) (by omega)
        have b0 := rd_b hb (a + 1)
        have b1 := rd_b hb (a + 1 + 1)
        obtain ⟨t, ht⟩ : ∃ t, two l (a + 1) = t := ⟨_, rfl⟩
        have ht0 : 0 ≤ t ∧ t ≤ 65535 := by rw [← ht, two]; omega
        rw [ht] at hkp hkr
        have e8 : wrap64 t = t := wid (by omega) (by omega)
        by_cases g : a + 1 + 2 ≤ (l.length : Int) ∧ 1 ≤ t ∧ t ≤ 4096 ∧ t ≤ (out.length : Int) ∧ c - 124 ≤ 130 ∧ c - 124 ≤ m - (out.length : Int)
        · obtain ⟨g1, g2, g3, g4, g5, g6⟩ := g
          rw [if_pos g1] at hkp hkr
          have e9 : wrap64 (a + 1 + 2) = a + 1 + 2 := wid (by omega) (by omega)
          obtain ⟨xs, b, hk1, hk2⟩ := both l hb hl m hm0 hm1 n (copyRun out t (c - 124).toNat) (a + 1 + 2) (i + 1) (by omega) (by omega) (by omega) (by omega) (by omega) (by rw [copyRun_len]; omega)
          have hp := packRun l m (a + 1 + 2) t (c - 124) _ g2 (c - 124).toNat out 0 (by omega) (by omega) (by omega) (by omega) (by omega) hk1
          have hr := refRun l m (a + 1) i t (c - 124) _ g2 (by omega) (by omega) h3 (by omega) (c - 124).toNat out 0 (by omega) (by omega) (by omega) (by omega) (by omega) hk2
          obtain ⟨k1, q1, q2⟩ := together (fun k => le_Get.mono l (a + 1) 2 k) (fun k => (pack_Unpack.mono_l k).2.2 l m out (a + 1 + 2) t (c - 124) 0) ⟨kp, hkp⟩ hp
          obtain ⟨k2, q3, q4⟩ := together (fun k => logbookref01_Get.mono l (a + 1) 2 k) (fun k => (logbookref42_Unpack.mono_l k).2.2.2.2.2.2 l m out (a + 1) i (c - 124) t 0) ⟨kr, hkr⟩ hr
          have q1' := le_Get.mono l (a + 1) 2 k1 _ q1
          have q3' := logbookref01_Get.mono l (a + 1) 2 k2 _ q3
          refine ⟨xs, b, ⟨k1 + 2, ?_⟩, ⟨k2 + 2, ?_⟩⟩
          · rw [pack_Unpack.l0, if_pos ha, if_pos h1, hcc, e0, if_neg hc1, e1, q1']
            simp only [Option.bind_some, if_true]
            rw [if_neg (by omega), if_neg (by omega), e8, if_neg (by omega), e5, if_neg (by omega), e4, decide_eq_false (by omega), pack_Unpack.j1, if_neg (by simp), e9]
            exact q2
          · rw [logbookref42_Unpack.l0, if_pos (by omega), if_neg (by omega), if_pos h1, if_pos ha, hcc, e0, if_neg hc1, e1, q3']
            simp only [Option.bind_some, if_true]
            rw [e6, if_neg (by omega), if_neg (by omega), if_neg (by omega), e8, if_neg (by omega), e7, decide_eq_false (by omega), logbookref42_Unpack.j5, if_neg (by simp)]
            exact q4
        · have q1 := at_rounds (fun k => le_Get.mono l (a + 1) 2 k) (show kp ≤ kp + 1 by omega) hkp
          have q3 := at_rounds (fun k => logbookref01_Get.mono l (a + 1) 2 k) (show kr ≤ kr + 1 by omega) hkr
          refine ⟨[], false, ⟨kp + 2, ?_⟩, ⟨kr + 2, ?_⟩⟩
          · rw [pack_Unpack.l0, if_pos ha, if_pos h1, hcc, e0, if_neg hc1, e1, q1]
            by_cases g1 : a + 1 + 2 ≤ (l.length : Int)
            · rw [if_pos g1]
              simp only [Option.bind_some, if_true, e8, e5, e4, pack_Unpack.j1]
              by_cases u1 : t < 1
              · rw [if_pos u1]; rfl
              rw [if_neg u1]
              by_cases u2 : t > 4096
              · rw [if_pos u2]; rfl
              rw [if_neg u2]
              by_cases u3 : t > (out.length : Int)
              · rw [if_pos u3]; rfl
              rw [if_neg u3]
              by_cases u4 : c - 124 > 130
              · rw [if_pos u4]; rfl
              rw [if_neg u4, decide_eq_true (by omega)]
              rfl
            · rw [if_neg g1]
              simp [pack_Unpack.j1]
          · rw [logbookref42_Unpack.l0, if_pos (by omega), if_neg (by omega), if_pos h1, if_pos ha, hcc, e0, if_neg hc1, e1, q3]
            by_cases g1 : a + 1 + 2 ≤ (l.length : Int)
            · rw [if_pos g1]
              simp only [Option.bind_some, if_true, e8, e6, e7, logbookref42_Unpack.j5]
              by_cases u4 : c - 124 > 130
              · rw [if_pos u4]
              rw [if_neg u4]
              by_cases u1 : t = 0
              · rw [if_pos u1]
              rw [if_neg u1]
              by_cases u2 : t > 4096
              · rw [if_pos u2]
              rw [if_neg u2]
              by_cases u3 : t > (out.length : Int)
              · rw [if_pos u3]
              rw [if_neg u3, decide_eq_true (by omega)]
              rfl
            · rw [if_neg g1]
              simp [logbookref42_Unpack.j5]
    · exact ⟨out, true, ⟨1, by rw [pack_Unpack.l0, if_neg ha]; rfl⟩, ⟨1, by rw [logbookref42_Unpack.l0, if_pos (by omega), if_pos (by omega)]⟩⟩
theorem awake : ∃ k, logbooklaw42_awake.f k = some true := ⟨40, by decide +kernel⟩
theorem same_refl (xs : List Int) : logbookref01_Same.f xs xs = some true := by simp [logbookref01_Same.f]
theorem wf_isB' {xs : List Int} (h : ∀ x ∈ xs, (Lit.int .u8 x).wf = true) : isB xs := fun x hx => bounds_u8 (h x hx)
theorem PackUnpacks : logbooklaw42_PackUnpacks.Pure := by
  intro l a _ _ hw _
  obtain ⟨ka, hka⟩ := awake
  by_cases c1 : (l.length : Int) > 1500
  · exact ⟨ka, by rw [logbooklaw42_PackUnpacks.f, if_pos c1, hka]; rfl⟩
  · obtain ⟨m, hm⟩ : ∃ m, mn (mx a 0) 65536 = m := ⟨_, rfl⟩
    have hmm : m = (if a < 0 then 0 else if a > 65536 then 65536 else a) := by rw [← hm]; simp only [mn, mx]; repeat' split <;> omega
    have hm0 : 0 ≤ m ∧ m ≤ 65536 := by rw [hmm]; repeat' split <;> omega
    obtain ⟨xs, b, hp, ⟨kr, hr⟩⟩ := both l (wf_isB' hw) (by omega) m hm0.1 hm0.2 l.length [] 0 0 (by omega) (by omega) (by omega) (by omega) (by omega) (by simpa using hm0.1)
    have hr2 : ∃ k, logbookref42_Unpack.f k l a = some (xs, b) := by
      refine ⟨kr + 2, ?_⟩
      have hj : logbookref42_Unpack.j1 (kr + 1) l m = some (xs, b) := hr
      by_cases g1 : a < 0
      · rw [logbookref42_Unpack.f, if_pos g1, logbookref42_Unpack.j0, if_neg (by omega)]
        rw [hmm, if_pos g1] at hj; exact hj
      · rw [logbookref42_Unpack.f, if_neg g1, logbookref42_Unpack.j0]
        by_cases g2 : a > 65536
        · rw [if_pos g2]; rw [hmm, if_neg g1, if_pos g2] at hj; exact hj
        · rw [if_neg g2]; rw [hmm, if_neg g1, if_neg g2] at hj; exact hj
    have hp2 : ∃ k, pack_Unpack.f k l a = some (xs, if b = true then 0 else 27) := by
      obtain ⟨k, h⟩ := hp
      exact ⟨k, by rw [pack_Unpack.f, hm]; exact h⟩
    obtain ⟨k1, q1, q2⟩ := together (fun k => pack_Unpack.mono l a k) (fun k => logbookref42_Unpack.mono l a k) hp2 hr2
    refine ⟨k1 + ka, ?_⟩
    have q1' := at_rounds (fun k => pack_Unpack.mono l a k) (show k1 ≤ k1 + ka by omega) q1
    have q2' := at_rounds (fun k => logbookref42_Unpack.mono l a k) (show k1 ≤ k1 + ka by omega) q2
    have q3' := at_rounds (fun k => logbooklaw42_awake.mono k) (show ka ≤ k1 + ka by omega) hka
    rw [logbooklaw42_PackUnpacks.f, if_neg c1, q1', q2']
    simp only [Option.bind_some, same_refl, if_true, q3']
    cases b <;> rfl
end Go.Proofs.Ytiigjbihacoopaa.Pure
