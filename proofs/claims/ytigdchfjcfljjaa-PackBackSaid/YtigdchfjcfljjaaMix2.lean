/- The sums of package mix, and the reference's. -/
import Derived.Test.YtigdchfjcfljjaaMix
namespace Go.Proofs.Ytigdchfjcfljjaa
open Go.RowKit Go.Proofs.YtigdchfjcfljjaaW.PrintWords Go.Proofs.YtigdchfjcfljjaaW.PrintLast Go.Proofs.YtigdchfjcfljjaaW.PrintMore
attribute [local go_sem] max2_int min2_int max_two min_two max_three min_three max_four min_four   -- for this text's walks alone
set_option linter.unusedVariables false
set_option linter.unusedSimpArgs false

/-- The sum of bytes by a key. -/
def sumP (key : Int) (L : List Int) : Int := stirP (stirP (hk (bits .xor .u64 key 11400714819323198485) L (L.length / 8)) (leN (L.drop (8 * (L.length / 8))))) L.length
set_option maxHeartbeats 8000000 in
set_option maxRecDepth 100000 in
theorem ref_Hash_calls (key : Int) (v : Value) (L : List Int) (w : World) (hr : Rd w .u8 v L) (hb : isB L) (hl : L.length ≤ 100000) :
    Calls Try.prog 76 #[.int .u64 key, v] w fun e w' => e = .returned (.int .u64 (sumP key L)) ∧ Below w.heap.size w w' := by
  obtain ⟨A, c, ev, hc, hm, hrd⟩ := hr.mid
  subst ev
  have HV := Aside0.mk hr
  have HR := Aside0.mk hrd
  have HIB := Aside0.mk hb
  obtain ⟨q, hq⟩ : ∃ q, L.length / 8 = q := ⟨_, rfl⟩
  have hq1 : 8 * q ≤ L.length ∧ L.length < 8 * q + 8 := by omega
  have HP := Aside0.mk (show stirP (stirP (hk (bits .xor .u64 key 11400714819323198485) L q) (leN (L.drop (8 * q)))) L.length = sumP key L by rw [sumP, hq])
  obtain ⟨h0, hh0⟩ : ∃ h0, bits .xor .u64 key 11400714819323198485 = h0 := ⟨_, rfl⟩
  have HH0 := Aside0.mk hh0
  rw [hh0] at HP
  clear hr hrd hb hq hh0
  go_enter Try.func76, Try.ntmps76
  go_wp2_with fail
  rw [HH0.out]
  go_loopg [5, 6, 7, 8] q (fun kq v5 v6 v7 v8 w' => ∃ k : Nat, k + kq = q ∧ v6 = .int .i64 (8 * (k : Int)) ∧ v5 = .int .u64 (hk h0 L k) ∧ Aside0 (Below w.heap.size w w'))
  case atStart => exact ⟨0, by omega, by simp, rfl, ⟨Below.refl _ _⟩⟩
  case round =>
    obtain ⟨k, hkq, rfl, rfl, HB⟩ := hrel
    by_cases c1 : k < q
    · have HF := Aside0.mk (show fitsB L.length (8 * (k : Int)) 8 = true from fits_ok ⟨by omega, by omega, by omega, by omega⟩)
      obtain ⟨x, hx⟩ : ∃ x, leN ((L.drop (8 * k)).take 8) = x := ⟨_, rfl⟩
      have HG := Aside0.mk (show getN L (8 * (k : Int)) 8 = x by rw [getN, if_pos HF.out, ← hx, show (8 * (k : Int)).toNat = 8 * k by omega]; rfl)
      obtain ⟨hkv, hhk⟩ : ∃ y, hk h0 L k = y := ⟨_, rfl⟩
      have HX := Aside0.mk hx
      have HHK := Aside0.mk hhk
      rw [hhk]
      clear hx hhk
      go_wp2_with fail
      refine (ref_Get_calls _ L (8 * (k : Int)) 8 _ (HV.out.below HB.out) HIB.out).mono ?_
      rintro e w1 ⟨rfl, hb⟩
      have HB1 := Aside0.mk (below_step HB.out hb)
      clear hb
      rw [HF.out, HG.out]
      go_wp2_with fail
      refine (stirred_calls _ _ _).mono ?_
      rintro e w2 ⟨rfl, hb⟩
      have HB2 := Aside0.mk (below_step HB1.out hb)
      clear hb
      go_wp2_with fail
      go_roundg (q - (k + 1))
      case measure => omega
      case rel => exact ⟨k + 1, by omega, by go_num, by rw [hk, HHK.out, HX.out], HB2⟩
    · obtain rfl : k = q := by omega
      obtain ⟨hq2, hhk⟩ : ∃ y, hk h0 L k = y := ⟨_, rfl⟩
      rw [hhk] at HP ⊢
      clear hhk
      have HR1 := Aside0.mk (HR.out.below HB.out)
      go_wp2_with fail
      go_loop [9, 10, 11] (fun v9 v10 v11 => ∃ i : Nat, 8 * k + i ≤ L.length ∧ v11 = .int .i64 (8 * (k : Int) + (i : Int)) ∧ v10 = .int .u64 (sc i) ∧ v9 = .int .u64 (leN ((L.drop (8 * k)).take i))) (fun _ _ v11 => L.length - (intOf v11).toNat)
      case atStart => exact ⟨0, by omega, by simp, by rw [show sc 0 = 1 from by decide +kernel], by simp [leN]⟩
      case round =>
        obtain ⟨i, hi, rfl, rfl, rfl⟩ := hrel
        by_cases c2 : 8 * k + i < L.length
        · obtain ⟨x, hx⟩ : ∃ x, leN ((L.drop (8 * k)).take i) = x := ⟨_, rfl⟩
          obtain ⟨s, hs⟩ : ∃ s, sc i = s := ⟨_, rfl⟩
          obtain ⟨b, hbb⟩ : ∃ b, L.getD (8 * k + i) 0 = b := ⟨_, rfl⟩
          obtain ⟨s2, hs2⟩ : ∃ s, sc (i + 1) = s := ⟨_, rfl⟩
          obtain ⟨ad, e, hcell⟩ := rd_at HR1.out (8 * k + i) c2
          rw [hbb] at hcell
          have hb0 := HIB.out.getD (8 * k + i)
          rw [hbb] at hb0
          have hsc := sc_all (show i ≤ 7 by omega)
          rw [hs, hs2] at hsc
          obtain ⟨hs0, hs1, hs3, hsw⟩ := hsc
          have hxb := leN_bound (l := (L.drop (8 * k)).take i) ((HIB.out.drop _).take _)
          rw [hx, List.length_take, List.length_drop, Nat.min_eq_left (by omega)] at hxb
          have hst := ref_step x s b 0 i (by omega) hxb.1 hxb.2 hs0 hb0
          obtain ⟨t, ht⟩ : ∃ t, s * b = t := ⟨_, rfl⟩
          rw [ht] at hst
          obtain ⟨hw1, ht0, ht1⟩ := hst
          have hw2 : IntKind.u64.wrap (s * b) = t := by rw [ht]; exact hw1
          have HN := Aside0.mk (show leN ((L.drop (8 * k)).take (i + 1)) = x + t by rw [headN_step L (8 * k) i (by omega), hx, hbb, ← hs0, ht])
          have HS := Aside0.mk hs
          have HS2 := Aside0.mk hs2
          have HX := Aside0.mk hx
          have hx0 := hxb.1
          obtain ⟨hb0, hb1⟩ := hb0
          clear hs hs2 hx hxb hs0 hw1 ht hbb
          rw [HS.out, HX.out]
          cases e
          go_wp2
          go_round
          case rel => exact ⟨i + 1, by omega, by go_num, by rw [HS2.out], by rw [HN.out]⟩
          case measure => simp [intOf]; omega
        · have HT := Aside0.mk (show (L.drop (8 * k)).take i = L.drop (8 * k) from List.take_of_length_le (by rw [List.length_drop]; omega))
          rw [HT.out]
          obtain ⟨s, hs⟩ : ∃ s, sc i = s := ⟨_, rfl⟩
          obtain ⟨r, hr⟩ : ∃ s, leN (L.drop (8 * k)) = s := ⟨_, rfl⟩
          rw [hr] at HP
          rw [hs, hr]
          clear hs hr
          go_wp2_with fail
          refine (stirred_calls _ _ _).mono ?_
          rintro e w2 ⟨rfl, hb⟩
          have HB2 := Aside0.mk (below_step HB.out hb)
          clear hb
          go_wp2_with fail
          refine (stirred_calls _ _ _).mono ?_
          rintro e w3 ⟨rfl, hb⟩
          have HB3 := Aside0.mk (below_step HB2.out hb)
          clear hb
          rw [HP.out]
          go_wp2_with fail
          go_ret
          exact ⟨rfl, HB3.out⟩
set_option maxHeartbeats 8000000 in
set_option maxRecDepth 100000 in
theorem mix_Hash_calls (key : Int) (v : Value) (L : List Int) (w : World) (hr : Rd w .u8 v L) (hb : isB L) (hl : L.length ≤ 100000) :
    Calls Try.prog 139 #[.int .u64 key, v] w fun e w' => e = .returned (.int .u64 (sumP key L)) ∧ Below w.heap.size w w' := by
  have HV := Aside0.mk hr
  have HIB := Aside0.mk hb
  clear hr hb
  go_enter Try.func139, Try.ntmps139
  go_wp2_with fail
  refine (New_calls key _).mono ?_
  rintro e w1 ⟨rfl, hs, hb⟩
  have HS1 := Aside0.mk hs
  have HB1 := Aside0.mk hb
  clear hs hb
  go_wp2_with fail
  refine (Add_calls v L _ w.heap.size w.heap.size _ 0 _ [] HS1.out (Own.nil _ _ _ _) (HV.out.below HB1.out) (by simpa using HIB.out) HB1.out.size (Nat.le_refl _) (by simp) hl (by omega) (by omega)).mono ?_
  rintro e w2 ⟨rfl, v2, hs, hr, _, hk⟩
  simp only [List.nil_append, Int.zero_add] at hs hr
  have HS2 := Aside0.mk hs
  have HR2 := Aside0.mk hr
  have HB2 := Aside0.mk (Kp.from HB1.out hk (fun k hk => hk))
  clear hs hr hk
  go_wp2_with fail
  refine (Value_calls _ w.heap.size _ _ v2 _ HS2.out HR2.out (HIB.out.drop _) (by rw [List.length_drop]; omega)).mono ?_
  rintro e w3 ⟨rfl, hb⟩
  have HB3 := Aside0.mk (below_step HB2.out hb)
  have HP := Aside0.mk (show stirP (stirP (hk (bits .xor .u64 key 11400714819323198485) L (L.length / 8)) (leN (L.drop (8 * (L.length / 8))))) L.length = sumP key L from rfl)
  clear hb
  rw [HP.out]
  go_wp2_with fail
  go_ret
  exact ⟨rfl, HB3.out⟩
end Go.Proofs.Ytigdchfjcfljjaa
