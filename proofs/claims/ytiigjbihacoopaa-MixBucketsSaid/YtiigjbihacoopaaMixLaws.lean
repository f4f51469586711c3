/- MixHashes, MixBuckets: the walks. -/
import Derived.Test.YtiigjbihacoopaaMix2
namespace Go.Proofs.Ytiigjbihacoopaa
open Go.RowKit Go.Proofs.YtiigjbihacoopaaW.PrintWords Go.Proofs.YtiigjbihacoopaaW.PrintLast Go.Proofs.YtiigjbihacoopaaW.PrintMore
attribute [local go_sem] max2_int min2_int max_two min_two max_three min_three max_four min_four   -- for this text's walks alone
set_option linter.unusedVariables false
set_option linter.unusedSimpArgs false

theorem lit_isB {xs : List Int} (h : (xs.all fun x => decide (0 ≤ x) && decide (x ≤ 255)) = true) : isB xs := fun x hx => by
  have := List.all_eq_true.1 h x hx
  simpa using this
set_option maxHeartbeats 8000000 in
set_option maxRecDepth 100000 in
theorem mix_awake_calls (w : World) :
    Calls Try.prog 24 #[] w fun e w' => e = .returned (.bool true) ∧ Below w.heap.size w w' := by
  obtain ⟨h0, hh0⟩ : ∃ h0, bits .xor .u64 5 11400714819323198485 = h0 := ⟨_, rfl⟩
  have HH0 := Aside0.mk hh0
  clear hh0
  go_enter Try.func24, Try.ntmps24
  go_wp2_with fail
  refine (New_calls 5 _).mono ?_
  rintro e w1 ⟨rfl, hs, hb⟩
  have HS1 := Aside0.mk hs
  have HB1 := Aside0.mk hb
  clear hs hb
  go_wp2_with fail
  refine (Add_calls _ [97, 98] _ w.heap.size w.heap.size _ 0 _ [] (HS1.out.below (below_alloc (Below.refl _ _) _)) (Own.nil _ _ _ _) (Rd.lit w1 .u8 5 [97, 98] (by simp)) (lit_isB (by decide)) (below_alloc HB1.out _).size (Nat.le_refl _) (by simp) (by simp) (by omega) (by omega)).mono ?_
  rintro e w2 ⟨rfl, v2, hs, _, ho, hk⟩
  have HS2 := Aside0.mk (show SumV w2 w.heap.size (bits .xor .u64 5 11400714819323198485) 2 v2 from hs)
  have HO2 := Aside0.mk (show Own (Value.int .u8) w2 w.heap.size 5 v2 [97, 98] from ho (by simp))
  have HB2 := Aside0.mk (Kp.from (below_alloc HB1.out _) hk (fun k hk => hk))
  clear hs ho hk
  go_wp2_with fail
  refine (Add_calls _ [99] _ w.heap.size w.heap.size _ 2 _ [97, 98] (HS2.out.below (below_alloc (Below.refl _ _) _)) (HO2.out.below (below_alloc (Below.refl _ _) _)) (Rd.lit w2 .u8 5 [99] (by simp)) (lit_isB (by decide)) (below_alloc HB2.out _).size (Nat.le_refl _) (by simp) (by simp) (by omega) (by omega)).mono ?_
  rintro e w3 ⟨rfl, v3, hs, _, ho, hk⟩
  have HS3 := Aside0.mk (show SumV w3 w.heap.size (bits .xor .u64 5 11400714819323198485) 3 v3 from hs)
  have HO3 := Aside0.mk (show Own (Value.int .u8) w3 w.heap.size 5 v3 [97, 98, 99] from ho (by simp))
  have HB3 := Aside0.mk (Kp.from (below_alloc HB2.out _) hk (fun k hk => hk))
  clear hs ho hk
  go_wp2_with fail
  refine (Add_calls _ [100, 101, 102, 103, 104, 105] _ w.heap.size w.heap.size _ 3 _ [97, 98, 99] (HS3.out.below (below_alloc (Below.refl _ _) _)) (HO3.out.below (below_alloc (Below.refl _ _) _)) (Rd.lit w3 .u8 5 [100, 101, 102, 103, 104, 105] (by simp)) (lit_isB (by decide)) (below_alloc HB3.out _).size (Nat.le_refl _) (by simp) (by simp) (by omega) (by omega)).mono ?_
  rintro e w4 ⟨rfl, v4, hs, hr, _, hkp⟩
  have HS4 := Aside0.mk (show SumV w4 w.heap.size (hk (bits .xor .u64 5 11400714819323198485) [97, 98, 99, 100, 101, 102, 103, 104, 105] 1) 9 v4 from hs)
  have HR4 := Aside0.mk (show Rd w4 .u8 v4 [105] from hr)
  have HB4 := Aside0.mk (Kp.from (below_alloc HB3.out _) hkp (fun k hk => hk))
  clear hs hr hkp
  go_wp2_with fail
  refine (Value_calls _ w.heap.size _ _ v4 _ HS4.out HR4.out (lit_isB (by decide)) (by simp)).mono ?_
  rintro e w5 ⟨rfl, hb⟩
  have HB5 := Aside0.mk (below_step HB4.out hb)
  clear hb
  have HP := Aside0.mk (show stirP (stirP (hk (bits .xor .u64 5 11400714819323198485) [97, 98, 99, 100, 101, 102, 103, 104, 105] 1) (leN [105])) 9 = sumP 5 [97, 98, 99, 100, 101, 102, 103, 104, 105] from rfl)
  rw [HP.out]
  obtain ⟨r, hr⟩ : ∃ r, sumP 5 [97, 98, 99, 100, 101, 102, 103, 104, 105] = r := ⟨_, rfl⟩
  have HRR := Aside0.mk hr
  rw [hr]
  clear hr
  go_wp2_with fail
  refine (ref_Hash_calls 5 _ [97, 98, 99, 100, 101, 102, 103, 104, 105] _ (Rd.lit w5 .u8 5 [97, 98, 99, 100, 101, 102, 103, 104, 105] (by simp)) (lit_isB (by decide)) (by simp)).mono ?_
  rintro e w6 ⟨rfl, hb⟩
  have HB6 := Aside0.mk (below_step (below_alloc HB5.out _) hb)
  clear hb
  rw [HRR.out]
  have hrr : (r == r) = true := by simp
  go_wp2_with fail
  go_ret
  exact ⟨rfl, HB6.out⟩
set_option maxHeartbeats 8000000 in
set_option maxRecDepth 100000 in
theorem MixHashes_calls (key : Int) (v : Value) (L : List Int) (w : World) (hr : Rd w .u8 v L) (hb : isB L) :
    Calls Try.prog 6 #[.int .u64 key, v] w fun e w' => e = .returned (.bool true) ∧ Below w.heap.size w w' := by
  obtain ⟨A, c, ev, hc, hm, hrd⟩ := hr.mid
  subst ev
  have HV := Aside0.mk hr
  have HIB := Aside0.mk hb
  clear hr hb hrd
  by_cases c1 : 3000 < L.length
  · go_enter Try.func6, Try.ntmps6
    go_wp2_with fail
    refine (mix_awake_calls _).mono ?_
    rintro e w1 ⟨rfl, hb⟩
    have HB1 := Aside0.mk hb
    clear hb
    go_wp2_with fail
    go_ret
    exact ⟨rfl, HB1.out⟩
  · go_enter Try.func6, Try.ntmps6
    go_wp2_with fail
    refine (mix_Hash_calls key _ L _ HV.out HIB.out (by omega)).mono ?_
    rintro e w1 ⟨rfl, hb⟩
    have HB1 := Aside0.mk hb
    clear hb
    obtain ⟨r, hr⟩ : ∃ r, sumP key L = r := ⟨_, rfl⟩
    have HRR := Aside0.mk hr
    rw [hr]
    clear hr
    go_wp2_with fail
    refine (ref_Hash_calls key _ L _ (HV.out.below HB1.out) HIB.out (by omega)).mono ?_
    rintro e w2 ⟨rfl, hb⟩
    have HB2 := Aside0.mk (below_step HB1.out hb)
    clear hb
    rw [HRR.out]
    have hrr : (r == r) = true := by simp
    go_wp2_with fail
    refine (mix_awake_calls _).mono ?_
    rintro e w3 ⟨rfl, hb⟩
    have HB3 := Aside0.mk (below_step HB2.out hb)
    clear hb
    go_wp2_with fail
    go_ret
    exact ⟨rfl, HB3.out⟩
theorem MixHashes_walk (a0 : Int) (a1 : Option Addr) (len1 cap1 : Nat) (z1 : List Int) (w : World) (w0 : (Lit.int .u64 a0).wf = true) (w1 : (a1 = none ∧ len1 = 0 ∧ cap1 = 0 ∧ z1 = []) ∨ ∃ x, a1 = some x ∧ len1 ≤ cap1 ∧ cap1 ≤ maxLen ∧ z1.length = cap1 ∧ (∀ i, i < z1.length → w.cell? (x.add i) = some (.int .u8 (z1.getD i 0))) ∧ ∀ n ∈ z1, (Lit.int .u8 n).wf = true) (y1 : len1 * 1 ≤ 140737488351232) :
    Calls Try.prog 6 #[.int .u64 a0, .slice a1 len1 cap1] w fun e w' => e = .returned (.bool true) ∧ Below w.heap.size w w' := by
  obtain ⟨l0, rfl, hr0, hm0, hw0, hc0⟩ := ReadsInt.ofRowC w1
  exact MixHashes_calls a0 _ l0 w ⟨_, _, rfl, hc0, hr0⟩ (wf_isB hw0)
set_option maxHeartbeats 8000000 in
set_option maxRecDepth 100000 in
theorem Bucket_calls (h n : Int) (w : World) (h0 : 0 ≤ h) (h1 : h ≤ 18446744073709551615) (n1 : n ≤ 9223372036854775807) (n0 : -9223372036854775808 ≤ n) :
    Calls Try.prog 29 #[.int .u64 h, .int .i64 n] w fun e w' => e = .returned (.int .i64 (if n < 1 then 0 else h % n)) ∧ Below w.heap.size w w' := by
  by_cases c : n < 1
  · rw [if_pos c]
    go_enter Try.func29, Try.ntmps29
    go_wp2
    go_ret
    exact ⟨rfl, Below.refl _ _⟩
  · rw [if_neg c]
    have hr0 := Int.emod_nonneg h (show n ≠ 0 by omega)
    have hr1 := Int.emod_lt_of_pos h (show 0 < n by omega)
    have hm : h.tmod n = h % n := Int.tmod_eq_emod_of_nonneg h0
    obtain ⟨r, hr⟩ : ∃ r, h % n = r := ⟨_, rfl⟩
    rw [hr] at hr0 hr1 hm ⊢
    have HRR := Aside0.mk hr
    clear hr
    go_enter Try.func29, Try.ntmps29
    go_wp2
    go_ret
    exact ⟨by first | rfl | (rw [HRR.out]; rfl), Below.refl _ _⟩
set_option maxHeartbeats 8000000 in
set_option maxRecDepth 100000 in
theorem MixBuckets_calls (h n : Int) (w : World) (h0 : 0 ≤ h) (h1 : h ≤ 18446744073709551615) (n1 : n ≤ 9223372036854775807) (n0 : -9223372036854775808 ≤ n) :
    Calls Try.prog 7 #[.int .u64 h, .int .i64 n] w fun e w' => e = .returned (.bool true) ∧ Below w.heap.size w w' := by
  by_cases c : n < 1
  · go_enter Try.func7, Try.ntmps7
    go_wp2_with fail
    refine (Bucket_calls h n _ h0 h1 n1 n0).mono ?_
    rintro e w1 ⟨rfl, hb⟩
    have HB1 := Aside0.mk hb
    clear hb
    rw [if_pos c]
    go_wp2_with fail
    refine (mix_awake_calls _).mono ?_
    rintro e w2 ⟨rfl, hb⟩
    have HB2 := Aside0.mk (below_step HB1.out hb)
    clear hb
    go_wp2_with fail
    go_ret
    exact ⟨rfl, HB2.out⟩
  · have hr0 := Int.emod_nonneg h (show n ≠ 0 by omega)
    have hr1 := Int.emod_lt_of_pos h (show 0 < n by omega)
    have hd0 : 0 ≤ h / n := Int.ediv_nonneg h0 (by omega)
    have hd1 : h / n ≤ h := Int.ediv_le_self _ h0
    have hd : h.tdiv n = h / n := Int.tdiv_eq_ediv_of_nonneg h0
    have hmul : h / n * n = h - h % n := by have := Int.mul_ediv_add_emod h n; rw [Int.mul_comm]; omega
    obtain ⟨r, hr⟩ : ∃ r, h % n = r := ⟨_, rfl⟩
    obtain ⟨q, hq⟩ : ∃ q, h / n = q := ⟨_, rfl⟩
    obtain ⟨p, hp⟩ : ∃ p, q * n = p := ⟨_, rfl⟩
    rw [hr] at hr0 hr1 hmul
    rw [hq] at hd hd0 hd1 hmul
    rw [hp] at hmul
    have hrh : r ≤ h := by have := Int.ediv_mul_le h (show n ≠ 0 by omega); rw [hq, hp] at this; have := Int.mul_nonneg hd0 (show 0 ≤ n by omega); omega
    have hp0 : 0 ≤ p := by omega
    have hp1 : p ≤ 18446744073709551615 := by omega
    have HRR := Aside0.mk hr
    have hpp : IntKind.u64.wrap (q * n) = p := by rw [hp, IntKind.wrap_u64]; omega
    have hsub : IntKind.u64.wrap (h - p) = r := by rw [IntKind.wrap_u64]; omega
    have hsub2 : h - p = r := by omega
    clear hr hq hp hmul
    go_enter Try.func7, Try.ntmps7
    go_wp2_with fail
    refine (Bucket_calls h n _ h0 h1 n1 n0).mono ?_
    rintro e w1 ⟨rfl, hb⟩
    have HB1 := Aside0.mk hb
    clear hb
    rw [if_neg (by omega), HRR.out]
    go_wp2_with fail
    refine (mix_awake_calls _).mono ?_
    rintro e w2 ⟨rfl, hb⟩
    have HB2 := Aside0.mk (below_step HB1.out hb)
    clear hb
    go_wp2_with fail
    go_ret
    exact ⟨rfl, HB2.out⟩
theorem MixBuckets_walk (a0 a1 : Int) (w : World) (w0 : (Lit.int .u64 a0).wf = true) (w1 : (Lit.int .i64 a1).wf = true) :
    Calls Try.prog 7 #[.int .u64 a0, .int .i64 a1] w fun e w' => e = .returned (.bool true) ∧ Below w.heap.size w w' :=
  MixBuckets_calls a0 a1 w (bounds_u64 w0).1 (bounds_u64 w0).2 (bounds_i64 w1).2 (bounds_i64 w1).1
end Go.Proofs.Ytiigjbihacoopaa
