/- Contracts of package le's reading, and of its reference, over this translation. -/
import Derived.Test.YtigdchfjcfljjaaLe
namespace Go.Proofs.Ytigdchfjcfljjaa
open Go.RowKit Go.Proofs.YtigdchfjcfljjaaW.PrintWords Go.Proofs.YtigdchfjcfljjaaW.PrintLast Go.Proofs.YtigdchfjcfljjaaW.PrintMore
attribute [local go_sem] max2_int min2_int max_two min_two max_three min_three max_four min_four   -- for this text's walks alone
set_option linter.unusedVariables false
set_option linter.unusedSimpArgs false

theorem fits_no {n a w : Int} (h : ¬ ((w = 1 ∨ w = 2 ∨ w = 4 ∨ w = 8) ∧ 0 ≤ a ∧ a ≤ n ∧ w ≤ n - a)) : fitsB n a w = false := by simp only [fitsB]; exact decide_eq_false h
theorem fits_ok {n a w : Int} (h : (w = 1 ∨ w = 2 ∨ w = 4 ∨ w = 8) ∧ 0 ≤ a ∧ a ≤ n ∧ w ≤ n - a) : fitsB n a w = true := by simp only [fitsB]; exact decide_eq_true h
set_option maxHeartbeats 8000000 in
set_option maxRecDepth 100000 in
theorem le_fits_calls (v : Value) (l : List Int) (a width : Int) (w : World) (hr : Rd w .u8 v l) :
    Calls Try.prog 142 #[v, .int .i64 a, .int .i64 width] w fun e w' => e = .returned (.bool (fitsB l.length a width)) ∧ Below w.heap.size w w' := by
  obtain ⟨A, c, rfl, hc, hr⟩ := hr
  have hm : l.length ≤ 9223372036854775807 := hr.2.1
  have HR := Aside0.mk hr
  clear hr
  have HNO := fun h => Aside0.mk (fits_no (n := l.length) (a := a) (w := width) h)
  have HOK := fun h => Aside0.mk (fits_ok (n := l.length) (a := a) (w := width) h)
  by_cases h0 : width = 1 ∨ width = 2 ∨ width = 4 ∨ width = 8
  · by_cases h1 : 0 ≤ a
    · by_cases h2 : a ≤ (l.length : Int)
      · by_cases h3 : width ≤ (l.length : Int) - a
        · have H := HOK ⟨h0, h1, h2, h3⟩
          clear HNO HOK
          rcases h0 with rfl | rfl | rfl | rfl
          all_goals
            go_enter Try.func142, Try.ntmps142
            go_wp2
            go_ret
            exact ⟨by rw [H.out]; rfl, Below.refl _ _⟩
        · have H := HNO (fun h => h3 h.2.2.2)
          clear HNO HOK
          rcases h0 with rfl | rfl | rfl | rfl
          all_goals
            go_enter Try.func142, Try.ntmps142
            go_wp2
            go_ret
            exact ⟨by rw [H.out]; rfl, Below.refl _ _⟩
      · have H := HNO (fun h => h2 h.2.2.1)
        clear HNO HOK
        rcases h0 with rfl | rfl | rfl | rfl
        all_goals
          go_enter Try.func142, Try.ntmps142
          go_wp2
          go_ret
          exact ⟨by rw [H.out]; rfl, Below.refl _ _⟩
    · have H := HNO (fun h => h1 h.2.1)
      clear HNO HOK
      rcases h0 with rfl | rfl | rfl | rfl
      all_goals
        go_enter Try.func142, Try.ntmps142
        go_wp2
        go_ret
        exact ⟨by rw [H.out]; rfl, Below.refl _ _⟩
  · have H := HNO (fun h => h0 h.1)
    clear HNO HOK
    have n1 : (width == 1) = false := by simp; omega
    have n2 : (width == 2) = false := by simp; omega
    have n4 : (width == 4) = false := by simp; omega
    have n8 : (width == 8) = false := by simp; omega
    clear h0
    go_enter Try.func142, Try.ntmps142
    go_wp2
    go_ret
    exact ⟨by rw [H.out]; rfl, Below.refl _ _⟩
/-- The number of the last j of W bytes from a on. -/
def tailN (l : List Int) (a W j : Nat) : Int := leN ((l.drop (a + (W - j))).take j)
theorem tailN_step (l : List Int) (a W j : Nat) (hj : j < W) (hl : a + W ≤ l.length) : tailN l a W (j + 1) = l.getD (a + (W - 1 - j)) 0 + 256 * tailN l a W j := by
  unfold tailN
  rw [show W - (j + 1) = W - 1 - j by omega, drop_cons' (show a + (W - 1 - j) < l.length by omega), List.take_succ_cons, leN, show a + (W - 1 - j) + 1 = a + (W - j) by omega]
theorem pow256_le : ∀ {j : Nat}, j ≤ 8 → (256 : Int) ^ j ≤ 18446744073709551616 := by decide
theorem pow256_7 : ∀ {j : Nat}, j ≤ 7 → (256 : Int) ^ j ≤ 72057594037927936 := by decide
theorem tailN_bound (l : List Int) (hb : isB l) (a W j : Nat) (hj : j ≤ 7) : 0 ≤ tailN l a W j ∧ tailN l a W j ≤ 72057594037927935 := by
  have h := leN_bound (l := (l.drop (a + (W - j))).take j) ((hb.drop _).take _)
  have h2 : ((l.drop (a + (W - j))).take j).length ≤ j := List.length_take_le _ _
  have h3 := pow256_7 (show ((l.drop (a + (W - j))).take j).length ≤ 7 by omega)
  exact ⟨h.1, by have := h.2; unfold tailN; omega⟩
theorem or_byte (x b : Int) (h0 : 0 ≤ x) (h1 : x ≤ 72057594037927935) (hb : 0 ≤ b ∧ b ≤ 255) : Go.bits .or .u64 (x * 256) b = b + 256 * x := by
  have := or_u64 x b 8 h0 (by omega) hb.1 (by omega) (by omega)
  rw [show (2 : Int) ^ 8 = 256 from rfl] at this
  omega
set_option maxHeartbeats 8000000 in
set_option maxRecDepth 100000 in
theorem le_Get_calls (v : Value) (l : List Int) (a width : Int) (w : World) (hr : Rd w .u8 v l) (hb : isB l) :
    Calls Try.prog 88 #[v, .int .i64 a, .int .i64 width] w fun e w' => e = .returned (.tuple #[.int .u64 (getN l a width), .bool (fitsB l.length a width)]) ∧ Below w.heap.size w w' := by
  have HV := Aside0.mk hr
  obtain ⟨A, c, rfl, hc, hr⟩ := hr
  have hm : l.length ≤ 9223372036854775807 := hr.2.1
  have HR := Aside0.mk hr
  clear hr
  have HIB := Aside0.mk hb
  clear hb
  cases hf : fitsB l.length a width with
  | false =>
    have HG := Aside0.mk (show getN l a width = 0 by rw [getN, hf]; rfl)
    have HF := Aside0.mk hf
    clear hf
    go_enter Try.func88, Try.ntmps88
    go_wp2_with fail
    refine (le_fits_calls _ l a width _ HV.out).mono ?_
    rintro e w1 ⟨rfl, hb⟩
    have HB1 := Aside0.mk hb
    clear hb
    rw [HF.out]
    go_wp2_with fail
    go_ret2
    exact ⟨by rw [HG.out]; rfl, HB1.out⟩
  | true =>
    obtain ⟨h0, h1, h2, h3⟩ := fits_yes hf
    obtain ⟨p, rfl⟩ := Int.eq_ofNat_of_zero_le h1
    obtain ⟨W, rfl⟩ := Int.eq_ofNat_of_zero_le (show 0 ≤ width by omega)
    have hW : W ≤ 8 := by omega
    have hW0 : 1 ≤ W := by omega
    have hpl : p + W ≤ l.length := by omega
    have HG := Aside0.mk (show getN l p W = tailN l p W W by rw [getN, hf, if_pos rfl, tailN]; simp)
    have HF := Aside0.mk hf
    clear hf h0 h1 h2 h3
    go_enter Try.func88, Try.ntmps88
    go_wp2_with fail
    refine (le_fits_calls _ l p W _ HV.out).mono ?_
    rintro e w1 ⟨rfl, hb⟩
    have HB1 := Aside0.mk hb
    clear hb
    rw [HF.out]
    go_wp2_with fail
    have HR1 := Aside0.mk (HR.out.below HB1.out)
    go_loop [8, 9] (fun v8 v9 => ∃ j : Nat, j ≤ W ∧ v9 = .int .i64 ((W : Int) - 1 - j) ∧ v8 = .int .u64 (tailN l p W j)) (fun _ v9 => ((intOf v9) + 1).toNat)
    case atStart => exact ⟨0, by omega, by simp, by simp [tailN, leN]⟩
    case round =>
      obtain ⟨j, hj, rfl, rfl⟩ := hrel
      by_cases c1 : j < W
      · obtain ⟨x, hx⟩ : ∃ x, tailN l p W j = x := ⟨_, rfl⟩
        obtain ⟨i, hi⟩ : ∃ i : Int, (W : Int) - 1 - j = i := ⟨_, rfl⟩
        obtain ⟨b, hbb⟩ : ∃ b, l.getD (p + (W - 1 - j)) 0 = b := ⟨_, rfl⟩
        obtain ⟨ad, e, hcell⟩ := rd_at HR1.out (p + (W - 1 - j)) (by omega)
        rw [hbb] at hcell
        have hb0 := HIB.out.getD (p + (W - 1 - j))
        rw [hbb] at hb0
        have hxb := tailN_bound l HIB.out p W j (by omega)
        rw [hx] at hxb
        have hor := or_byte x b hxb.1 hxb.2 hb0
        have hidx : (p : Int) + i = ((p + (W - 1 - j) : Nat) : Int) := by omega
        have HN := Aside0.mk (show tailN l p W (j + 1) = b + 256 * x by rw [tailN_step l p W j c1 hpl, hbb, hx])
        have HI := Aside0.mk hi
        have HX := Aside0.mk hx
        have hi0 : 0 ≤ i := by omega
        have hi1 : i ≤ 7 := by omega
        obtain ⟨hb0, hb1⟩ := hb0
        obtain ⟨hx0, hx1⟩ := hxb
        clear hi hx hbb
        rw [HI.out, HX.out]
        cases e
        go_wp2
        go_round
        case rel => exact ⟨j + 1, by omega, by have := HI.out; exact congrArg (Value.int .i64) (by omega), by rw [HN.out]⟩
        case measure => have := HI.out; simp [intOf]; omega
      · have HJ := Aside0.mk (show j = W by omega)
        have hn : ¬ (0 ≤ (W : Int) - 1 - j) := by omega
        have hn2 : decide (0 ≤ (W : Int) - 1 - j) = false := decide_eq_false hn
        go_wp2
        go_ret2
        exact ⟨by rw [HG.out, HJ.out]; rfl, HB1.out⟩
/-- 256 to the power of i, in 64 bits. -/
def sc (i : Nat) : Int := (256 ^ i) % 18446744073709551616
theorem sc_all : ∀ {i : Nat}, i ≤ 7 → (sc i = 256 ^ i ∧ 1 ≤ sc i ∧ sc i ≤ 72057594037927936 ∧ IntKind.u64.wrap (sc i * 256) = sc (i + 1)) := by decide +kernel
theorem headN_step (l : List Int) (p i : Nat) (h : p + i < l.length) : leN ((l.drop p).take (i + 1)) = leN ((l.drop p).take i) + 256 ^ i * l.getD (p + i) 0 := by
  rw [take_snoc (by rw [List.length_drop]; omega), leN_snoc, getD_drop, List.length_take, List.length_drop, Nat.min_eq_left (by omega)]
theorem ref_step (x s b y : Int) (i : Nat) (hi : i ≤ 7) (hx : 0 ≤ x) (hx2 : x < 256 ^ i) (hs : s = 256 ^ i) (hb : 0 ≤ b ∧ b ≤ 255) : IntKind.u64.wrap (s * b) = s * b ∧ 0 ≤ s * b ∧ x + s * b ≤ 18446744073709551615 := by
  have h8 := pow256_le (show i + 1 ≤ 8 by omega)
  rw [Int.pow_succ] at h8
  subst hs
  have hp : (0 : Int) < 256 ^ i := Int.pow_pos (by omega)
  have h1 : (256 : Int) ^ i * b ≤ 256 ^ i * 255 := Int.mul_le_mul_of_nonneg_left hb.2 (by omega)
  have h2 : 0 ≤ (256 : Int) ^ i * b := Int.mul_nonneg (by omega) hb.1
  generalize (256 : Int) ^ i = P at *
  generalize P * b = q at *
  refine ⟨?_, h2, by omega⟩
  rw [IntKind.wrap_u64, Int.emod_eq_of_lt h2 (by omega)]
set_option maxHeartbeats 8000000 in
set_option maxRecDepth 100000 in
theorem ref_Get_calls (v : Value) (l : List Int) (a width : Int) (w : World) (hr : Rd w .u8 v l) (hb : isB l) :
    Calls Try.prog 89 #[v, .int .i64 a, .int .i64 width] w fun e w' => e = .returned (.tuple #[.int .u64 (getN l a width), .bool (fitsB l.length a width)]) ∧ Below w.heap.size w w' := by
  obtain ⟨A, c, rfl, hc, hr⟩ := hr
  have hm : l.length ≤ 9223372036854775807 := hr.2.1
  have HR := Aside0.mk hr
  clear hr
  have HIB := Aside0.mk hb
  clear hb
  have HNO : ∀ h, Aside0 (fitsB l.length a width = false ∧ getN l a width = 0) := fun h => Aside0.mk ⟨fits_no (n := l.length) (a := a) (w := width) h, by rw [getN, fits_no h]; rfl⟩
  by_cases h0 : width = 1 ∨ width = 2 ∨ width = 4 ∨ width = 8
  · by_cases h1 : 0 ≤ a
    · by_cases h2 : a ≤ (l.length : Int)
      · by_cases h3 : width ≤ (l.length : Int) - a
        · have HF := Aside0.mk (fits_ok (n := l.length) (a := a) (w := width) ⟨h0, h1, h2, h3⟩)
          clear HNO
          obtain ⟨p, rfl⟩ := Int.eq_ofNat_of_zero_le h1
          obtain ⟨W, rfl⟩ := Int.eq_ofNat_of_zero_le (show 0 ≤ width by omega)
          have hW : W ≤ 8 := by omega
          have hpl : p + W ≤ l.length := by omega
          have HG := Aside0.mk (show getN l p W = leN ((l.drop p).take W) by rw [getN, HF.out, if_pos rfl]; simp)
          have hq : Aside0 (W = 1 ∨ W = 2 ∨ W = 4 ∨ W = 8) := ⟨by omega⟩
          have key : ∀ (b1 b2 b4 b8 : Bool), ((W : Int) == 1) = b1 → ((W : Int) == 2) = b2 → ((W : Int) == 4) = b4 → ((W : Int) == 8) = b8 → (b1 && !b2 && !b4 && !b8 || !b1 && b2 && !b4 && !b8 || !b1 && !b2 && b4 && !b8 || !b1 && !b2 && !b4 && b8) = true →
              Calls Try.prog 89 #[.slice A l.length c, .int .i64 p, .int .i64 W] w fun e w' => e = .returned (.tuple #[.int .u64 (getN l p W), .bool (fitsB l.length p W)]) ∧ Below w.heap.size w w' := by
            intro b1 b2 b4 b8 e1 e2 e4 e8 hor
            have e1' : ((W : Int) != 1) = !b1 := by rw [bne, e1]
            have e2' : ((W : Int) != 2) = !b2 := by rw [bne, e2]
            have e4' : ((W : Int) != 4) = !b4 := by rw [bne, e4]
            have e8' : ((W : Int) != 8) = !b8 := by rw [bne, e8]
            clear e1 e2 e4 e8 h0
            cases b1 <;> cases b2 <;> cases b4 <;> cases b8 <;> first | (exact absurd hor (by decide)) | skip
            all_goals
              clear hor
              simp only [Bool.not_true, Bool.not_false] at e1' e2' e4' e8'
              go_enter Try.func89, Try.ntmps89
              go_wp2
              go_loop [8, 9, 10] (fun v8 v9 v10 => ∃ i : Nat, i ≤ W ∧ v10 = .int .i64 i ∧ v9 = .int .u64 (sc i) ∧ v8 = .int .u64 (leN ((l.drop p).take i))) (fun _ _ v10 => W - (intOf v10).toNat)
              case atStart => exact ⟨0, by omega, rfl, by rw [show sc 0 = 1 from by decide +kernel], by simp [leN]⟩
              case round =>
                obtain ⟨i, hi, rfl, rfl, rfl⟩ := hrel
                by_cases c1 : i < W
                · obtain ⟨x, hx⟩ : ∃ x, leN ((l.drop p).take i) = x := ⟨_, rfl⟩
                  obtain ⟨s, hs⟩ : ∃ s, sc i = s := ⟨_, rfl⟩
                  obtain ⟨b, hbb⟩ : ∃ b, l.getD (p + i) 0 = b := ⟨_, rfl⟩
                  obtain ⟨s2, hs2⟩ : ∃ s, sc (i + 1) = s := ⟨_, rfl⟩
                  obtain ⟨ad, e, hcell⟩ := rd_at HR.out (p + i) (by omega)
                  rw [hbb] at hcell
                  have hb0 := HIB.out.getD (p + i)
                  rw [hbb] at hb0
                  have hsc := sc_all (show i ≤ 7 by omega)
                  rw [hs, hs2] at hsc
                  obtain ⟨hs0, hs1, hs3, hsw⟩ := hsc
                  have hxb := leN_bound (l := (l.drop p).take i) ((HIB.out.drop _).take _)
                  rw [hx, List.length_take, List.length_drop, Nat.min_eq_left (by omega)] at hxb
                  have hst := ref_step x s b 0 i (by omega) hxb.1 hxb.2 hs0 hb0
                  obtain ⟨t, ht⟩ : ∃ t, s * b = t := ⟨_, rfl⟩
                  rw [ht] at hst
                  obtain ⟨hw1, ht0, ht1⟩ := hst
                  have hw2 : IntKind.u64.wrap (s * b) = t := by rw [ht]; exact hw1
                  have HN := Aside0.mk (show leN ((l.drop p).take (i + 1)) = x + t by rw [headN_step l p i (by omega), hx, hbb, ← hs0, ht])
                  have HS := Aside0.mk hs
                  have HS2 := Aside0.mk hs2
                  have HX := Aside0.mk hx
                  have hx0 := hxb.1
                  obtain ⟨hb0, hb1⟩ := hb0
                  clear hs hs2 hx hxb hs0 hw1 ht hbb
                  rw [HS.out, HX.out]
                  cases e
                  go_wp2
                  go_round
                  case rel => exact ⟨i + 1, by omega, by go_num, by rw [HS2.out], by rw [HN.out]⟩
                  case measure => simp [intOf]; omega
                · have HJ := Aside0.mk (show i = W by omega)
                  go_wp2
                  go_ret2
                  exact ⟨by rw [HG.out, HF.out, HJ.out]; rfl, Below.refl _ _⟩
          exact key _ _ _ _ rfl rfl rfl rfl (by rcases hq.out with rfl | rfl | rfl | rfl <;> rfl)
        · have H := HNO (fun h => h3 h.2.2.2)
          clear HNO
          rcases h0 with rfl | rfl | rfl | rfl
          all_goals
            go_enter Try.func89, Try.ntmps89
            go_wp2
            go_ret2
            exact ⟨by rw [H.out.1, H.out.2]; rfl, Below.refl _ _⟩
      · have H := HNO (fun h => h2 h.2.2.1)
        clear HNO
        rcases h0 with rfl | rfl | rfl | rfl
        all_goals
          go_enter Try.func89, Try.ntmps89
          go_wp2
          go_ret2
          exact ⟨by rw [H.out.1, H.out.2]; rfl, Below.refl _ _⟩
    · have H := HNO (fun h => h1 h.2.1)
      clear HNO
      rcases h0 with rfl | rfl | rfl | rfl
      all_goals
        go_enter Try.func89, Try.ntmps89
        go_wp2
        go_ret2
        exact ⟨by rw [H.out.1, H.out.2]; rfl, Below.refl _ _⟩
  · have H := HNO (fun h => h0 h.1)
    clear HNO
    have n1 : (width != 1) = true := by simp; omega
    have n2 : (width != 2) = true := by simp; omega
    have n4 : (width != 4) = true := by simp; omega
    have n8 : (width != 8) = true := by simp; omega
    clear h0
    go_enter Try.func89, Try.ntmps89
    go_wp2
    go_ret2
    exact ⟨by rw [H.out.1, H.out.2]; rfl, Below.refl _ _⟩
theorem getN_bound (l : List Int) (hb : isB l) (a w : Int) : 0 ≤ getN l a w ∧ getN l a w ≤ 18446744073709551615 := by
  unfold getN
  split
  · rename_i h
    obtain ⟨h0, h1, h2, h3⟩ := fits_yes h
    have h := leN_bound (l := (l.drop a.toNat).take w.toNat) ((hb.drop _).take _)
    have h4 : ((l.drop a.toNat).take w.toNat).length ≤ w.toNat := List.length_take_le _ _
    have h5 := pow256_le (show ((l.drop a.toNat).take w.toNat).length ≤ 8 by omega)
    omega
  · omega
theorem getN_bytes (l : List Int) (hb : isB l) (a w : Int) (h : fitsB l.length a w = true) : leB (getN l a w) (leW w) = (l.drop a.toNat).take w.toNat := by
  obtain ⟨h0, h1, h2, h3⟩ := fits_yes h
  have h4 := leB_leN (l := (l.drop a.toNat).take w.toNat) ((hb.drop _).take _)
  rw [List.length_take, List.length_drop, Nat.min_eq_left (by omega)] at h4
  rw [getN, if_pos h, show leW w = w.toNat by unfold leW; omega, h4]
theorem Rd.mid {w : World} {k : IntKind} {v : Value} {xs : List Int} (h : Rd w k v xs) : ∃ A c, v = .slice A xs.length c ∧ xs.length ≤ c ∧ xs.length ≤ 9223372036854775807 ∧ ReadsInt w k A xs.length xs := by
  obtain ⟨A, c, e, hc, hr⟩ := h
  exact ⟨A, c, e, hc, hr.2.1, hr⟩
end Go.Proofs.Ytigdchfjcfljjaa
