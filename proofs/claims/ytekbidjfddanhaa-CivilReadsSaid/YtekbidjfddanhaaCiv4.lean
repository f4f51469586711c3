/- Contracts of package civil's law: its helpers, and the reference. -/
import Derived.Test.YtekbidjfddanhaaCiv3
namespace Go.Proofs.Ytekbidjfddanhaa
open Go.RowKit Go.Proofs.YtekbidjfddanhaaW.PrintWords Go.Proofs.YtekbidjfddanhaaW.PrintLast Go.Proofs.YtekbidjfddanhaaW.PrintMore
attribute [local go_sem] max2_int min2_int max_two min_two max_three min_three max_four min_four   -- for this text's walks alone
set_option linter.unusedVariables false
set_option linter.unusedSimpArgs false

set_option maxHeartbeats 8000000 in
set_option maxRecDepth 100000 in
theorem civ_awake_calls (w : World) : Calls Try.prog 19 #[] w fun e w' => e = .returned (.bool true) ∧ Below w.heap.size w w' := by
  have HV : Aside0 (ofQ (951782400000000 / 86400000000) 951782400000000 = timeV 2000 2 29 0 0 0 0) := ⟨by simp only [ofQ]; congr 1⟩
  go_enter Try.func19, Try.ntmps19
  go_wp2_with fail
  refine (civil_Of_yes 951782400000000 _ (by omega) (by omega) (by omega)).mono ?_
  rintro e w1 ⟨rfl, hb⟩
  have HB := Aside0.mk hb
  clear hb
  rw [HV.out]
  go_wp2
  go_ret
  exact ⟨rfl, below_alloc HB.out _⟩
set_option maxHeartbeats 8000000 in
set_option maxRecDepth 100000 in
theorem civ_to_calls (y m d h i s u : Int) (w : World) : Calls Try.prog 22 #[.agg #[.int .i64 y, .int .i64 m, .int .i64 d, .int .i64 h, .int .i64 i, .int .i64 s, .int .i64 u]] w fun e w' => e = .returned (timeV y m d h i s u) ∧ Below w.heap.size w w' := by
  go_enter Try.func22, Try.ntmps22
  go_wp2
  exact bodyPost_ret (v := timeV y m d h i s u) (by simp [results, Try.results22, go_sem]) rfl ⟨rfl, below_alloc (below_alloc (Below.refl _ _) _) _⟩
set_option maxHeartbeats 8000000 in
set_option maxRecDepth 100000 in
theorem CivilMonths_calls (y m : Int) (w : World) : Calls Try.prog 3 #[.int .i64 y, .int .i64 m] w fun e w' => e = .returned (.bool true) ∧ Below w.heap.size w w' := by
  obtain ⟨D, hD⟩ : ∃ D, dimZ y m = D := ⟨_, rfl⟩
  obtain ⟨L, hL⟩ : ∃ L, leapB y = L := ⟨_, rfl⟩
  have HD := Aside0.mk hD
  have HL := Aside0.mk hL
  have hll : (L == L) = true := by simp
  have hdd : (D == D) = true := by simp
  clear hD hL
  go_enter Try.func3, Try.ntmps3
  go_wp2_with fail
  refine (civil_Leap_calls y _).mono ?_
  rintro e w1 ⟨rfl, rfl⟩
  rw [HL.out]
  go_wp2_with fail
  refine (ref_Leap_calls y _).mono ?_
  rintro e w1 ⟨rfl, rfl⟩
  rw [HL.out]
  go_wp2_with fail
  refine (civil_Days_calls y m _).mono ?_
  rintro e w1 ⟨rfl, rfl⟩
  rw [HD.out]
  go_wp2_with fail
  refine (ref_Days_calls y m _).mono ?_
  rintro e w2 ⟨rfl, hb⟩
  have HB := Aside0.mk hb
  clear hb
  rw [HD.out]
  go_wp2_with fail
  refine (civ_awake_calls _).mono ?_
  rintro e w3 ⟨rfl, hb⟩
  have HB3 := Aside0.mk (below_step HB.out hb)
  clear hb
  go_wp2
  go_ret
  exact ⟨rfl, HB3.out⟩
theorem CivilMonths_walk (a0 a1 : Int) (w : World) (w0 : (Lit.int .i64 a0).wf = true) (w1 : (Lit.int .i64 a1).wf = true) :
    Calls Try.prog 3 #[.int .i64 a0, .int .i64 a1] w fun e w' => e = .returned (.bool true) ∧ Below w.heap.size w w' := CivilMonths_calls a0 a1 w
end Go.Proofs.Ytekbidjfddanhaa
