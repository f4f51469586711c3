/- Package mix's statements: the chapter's example. -/
import Derived.Test.YtekbidjfddanhaaMix2
namespace Go.Proofs.Ytekbidjfddanhaa
open Go.RowKit Go.Proofs.YtekbidjfddanhaaW.PrintWords Go.Proofs.YtekbidjfddanhaaW.PrintLast Go.Proofs.YtekbidjfddanhaaW.PrintMore
attribute [local go_sem] max2_int min2_int max_two min_two max_three min_three max_four min_four   -- for this text's walks alone
set_option linter.unusedVariables false
set_option linter.unusedSimpArgs false

theorem lit_isB {xs : List Int} (h : (xs.all fun x => decide (0 ≤ x) && decide (x ≤ 255)) = true) : isB xs := fun x hx => by
  have := List.all_eq_true.1 h x hx
  simpa using this
set_option maxHeartbeats 8000000 in
set_option maxRecDepth 100000 in
theorem mix_awake_calls (w : World) :
    Calls Try.prog 39 #[] w fun e w' => e = .returned (.bool true) ∧ Below w.heap.size w w' := by
  obtain ⟨h0, hh0⟩ : ∃ h0, bits .xor .u64 5 11400714819323198485 = h0 := ⟨_, rfl⟩
  have HH0 := Aside0.mk hh0
  clear hh0
  go_enter Try.func39, Try.ntmps39
  go_wp2_with fail
  refine (New_calls 5 _).mono ?_
  rintro e w1 ⟨rfl, hs, hb⟩
  have HS1 := Aside0.mk hs
  have HB1 := Aside0.mk hb
  clear hs hb
  go_wp2_with fail
  refine (Add_calls _ [97, 98] _ w.heap.size w.heap.size _ 0 _ [] (HS1.out.below (below_alloc (Below.refl _ _) _)) (Own.nil _ _ _ _) (Rd.lit w1 .u8 5 [97, 98] (by simp)) (lit_isB (by decide)) (below_alloc HB1.out _).size (Nat.le_refl _) (by simp) (by simp) (by omega) (by omega)).mono ?_
  rintro e w2 ⟨rfl, v2, hs, _, ho, hk⟩
  have HS2 := Aside0.mk (show SumV w2 w.heap.size (bits .xor .u64 5 11400714819323198485) 2 v2 from hs)
  have HO2 := Aside0.mk (show Own (Value.int .u8) w2 w.heap.size 5 v2 [97, 98] from ho (by simp))
  have HB2 := Aside0.mk (Kp.from (below_alloc HB1.out _) hk (fun k hk => hk))
  clear hs ho hk
  go_wp2_with fail
  refine (Add_calls _ [99] _ w.heap.size w.heap.size _ 2 _ [97, 98] (HS2.out.below (below_alloc (Below.refl _ _) _)) (HO2.out.below (below_alloc (Below.refl _ _) _)) (Rd.lit w2 .u8 5 [99] (by simp)) (lit_isB (by decide)) (below_alloc HB2.out _).size (Nat.le_refl _) (by simp) (by simp) (by omega) (by omega)).mono ?_
  rintro e w3 ⟨rfl, v3, hs, _, ho, hk⟩
  have HS3 := Aside0.mk (show SumV w3 w.heap.size (bits .xor .u64 5 11400714819323198485) 3 v3 from hs)
  have HO3 := Aside0.mk (show Own (Value.int .u8) w3 w.heap.size 5 v3 [97, 98, 99] from ho (by simp))
  have HB3 := Aside0.mk (Kp.from (below_alloc HB2.out _) hk (fun k hk => hk))
  clear hs ho hk
  go_wp2_with fail
  refine (Add_calls _ [100, 101, 102, 103, 104, 105] _ w.heap.size w.heap.size _ 3 _ [97, 98, 99] (HS3.out.below (below_alloc (Below.refl _ _) _)) (HO3.out.below (below_alloc (Below.refl _ _) _)) (Rd.lit w3 .u8 5 [100, 101, 102, 103, 104, 105] (by simp)) (lit_isB (by decide)) (below_alloc HB3.out _).size (Nat.le_refl _) (by simp) (by simp) (by omega) (by omega)).mono ?_
  rintro e w4 ⟨rfl, v4, hs, hr, _, hkp⟩
  have HS4 := Aside0.mk (show SumV w4 w.heap.size (hk (bits .xor .u64 5 11400714819323198485) [97, 98, 99, 100, 101, 102, 103, 104, 105] 1) 9 v4 from hs)
  have HR4 := Aside0.mk (show Rd w4 .u8 v4 [105] from hr)
  have HB4 := Aside0.mk (Kp.from (below_alloc HB3.out _) hkp (fun k hk => hk))
  clear hs hr hkp
  go_wp2_with fail
  refine (Value_calls _ w.heap.size _ _ v4 _ HS4.out HR4.out (lit_isB (by decide)) (by simp)).mono ?_
  rintro e w5 ⟨rfl, hb⟩
  have HB5 := Aside0.mk (below_step HB4.out hb)
  clear hb
  have HP := Aside0.mk (show stirP (stirP (hk (bits .xor .u64 5 11400714819323198485) [97, 98, 99, 100, 101, 102, 103, 104, 105] 1) (leN [105])) 9 = sumP 5 [97, 98, 99, 100, 101, 102, 103, 104, 105] from rfl)
  rw [HP.out]
  obtain ⟨r, hr⟩ : ∃ r, sumP 5 [97, 98, 99, 100, 101, 102, 103, 104, 105] = r := ⟨_, rfl⟩
  have HRR := Aside0.mk hr
  rw [hr]
  clear hr
  go_wp2_with fail
  refine (ref_Hash_calls 5 _ [97, 98, 99, 100, 101, 102, 103, 104, 105] _ (Rd.lit w5 .u8 5 [97, 98, 99, 100, 101, 102, 103, 104, 105] (by simp)) (lit_isB (by decide)) (by simp)).mono ?_
  rintro e w6 ⟨rfl, hb⟩
  have HB6 := Aside0.mk (below_step (below_alloc HB5.out _) hb)
  clear hb
  rw [HRR.out]
  have hrr : (r == r) = true := by simp
  go_wp2_with fail
  go_ret
  exact ⟨rfl, HB6.out⟩
end Go.Proofs.Ytekbidjfddanhaa
