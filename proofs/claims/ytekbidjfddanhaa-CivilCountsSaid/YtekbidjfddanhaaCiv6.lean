/- CivilTells, CivilCounts: the walks. -/
import Derived.Test.YtekbidjfddanhaaCiv5
import Derived.Test.YtekbidjfddanhaaCiv4
import Derived.Test.YtekbidjfddanhaaCivR
import Derived.Test.YtekbidjfddanhaaArr
namespace Go.Proofs.Ytekbidjfddanhaa
open Go.RowKit Go.Proofs.YtekbidjfddanhaaW.PrintWords Go.Proofs.YtekbidjfddanhaaW.PrintLast Go.Proofs.YtekbidjfddanhaaW.PrintMore
attribute [local go_sem] max2_int min2_int max_two min_two max_three min_three max_four min_four   -- for this text's walks alone
set_option linter.unusedVariables false
set_option linter.unusedSimpArgs false

theorem of_right (n : Int) (h0 : 0 ≤ n) (h : n / 86400000000 ≤ 2932896) : rightB (dY (n / 86400000000)) (dM (n / 86400000000)) (dD (n / 86400000000)) (tH n) (tI n) (tS n) (tU n) = true ∧ microsZ (dY (n / 86400000000)) (dM (n / 86400000000)) (dD (n / 86400000000)) (tH n) (tI n) (tS n) (tU n) = n := by
  have q0 : 0 ≤ n / 86400000000 := by omega
  obtain ⟨⟨a, b, c, d⟩, e⟩ := of_day (n / 86400000000) q0
  have y0 := dY_1970 _ q0
  have y1 := (dY_9999 _ q0).2 h
  refine ⟨?_, ?_⟩
  · have hh : 0 ≤ tH n ∧ tH n ≤ 23 := by unfold tH; omega
    have hi : 0 ≤ tI n ∧ tI n ≤ 59 := by unfold tI; omega
    have hs : 0 ≤ tS n ∧ tS n ≤ 59 := by unfold tS; omega
    have hu : 0 ≤ tU n ∧ tU n ≤ 999999 := by unfold tU; omega
    simp only [rightB, decide_eq_true_eq]
    exact ⟨⟨y0, y1⟩, ⟨a, b⟩, ⟨c, d⟩, hh, hi, hs, hu⟩
  · unfold microsZ
    rw [e]
    unfold tH tI tS tU
    omega
set_option maxHeartbeats 8000000 in
set_option maxRecDepth 100000 in
theorem CivilTells_yes (n : Int) (w : World) (n0 : 0 ≤ n) (n1 : n ≤ 18446744073709551615) (hq : n / 86400000000 ≤ 2932896) : Calls Try.prog 4 #[.int .u64 n] w fun e w' => e = .returned (.bool true) ∧ Below w.heap.size w w' := by
  obtain ⟨hr, hm⟩ := of_right n n0 hq
  have HOF := Aside0.mk (show ofR n = .tuple #[ofQ (n / 86400000000) n, .bool true] from if_pos hq)
  have HQ := Aside0.mk hq
  obtain ⟨y, hy⟩ : ∃ y, dY (n / 86400000000) = y := ⟨_, rfl⟩
  obtain ⟨m, hmm⟩ : ∃ y, dM (n / 86400000000) = y := ⟨_, rfl⟩
  obtain ⟨d, hd⟩ : ∃ y, dD (n / 86400000000) = y := ⟨_, rfl⟩
  obtain ⟨h, hh⟩ : ∃ y, tH n = y := ⟨_, rfl⟩
  obtain ⟨i, hi⟩ : ∃ y, tI n = y := ⟨_, rfl⟩
  obtain ⟨s, hs⟩ : ∃ y, tS n = y := ⟨_, rfl⟩
  obtain ⟨u, hu⟩ : ∃ y, tU n = y := ⟨_, rfl⟩
  have HV := Aside0.mk (show ofQ (n / 86400000000) n = timeV y m d h i s u by rw [ofQ, hy, hmm, hd, hh, hi, hs, hu])
  rw [hy, hmm, hd, hh, hi, hs, hu] at hr hm
  have HR := Aside0.mk hr
  have HM := Aside0.mk hm
  have hnn : (n == n) = true := by simp
  clear hr hm hq hy hmm hd hh hi hs hu
  go_enter Try.func4, Try.ntmps4
  go_wp2_with fail
  refine (civil_Of_yes n _ n0 n1 HQ.out).mono ?_
  rintro e w1 ⟨rfl, hb⟩
  have HB1 := Aside0.mk (below_alloc hb (.cells #[.int .i64 y, .int .i64 m, .int .i64 d, .int .i64 h, .int .i64 i, .int .i64 s, .int .i64 u] 28))
  have HA1 := Aside0.mk (blk_new w1 (.cells #[.int .i64 y, .int .i64 m, .int .i64 d, .int .i64 h, .int .i64 i, .int .i64 s, .int .i64 u] 28))
  clear hb
  rw [HV.out]
  go_wp2_with fail
  refine (ref_Of_calls n _ n0 n1).mono ?_
  rintro e w2 ⟨rfl, hb⟩
  have HB2 := Aside0.mk (below_alloc (below_step HB1.out hb) (.cells #[.int .i64 y, .int .i64 m, .int .i64 d, .int .i64 h, .int .i64 i, .int .i64 s, .int .i64 u] 31))
  have HA2 := Aside0.mk (blk_below (blk_below HA1.out hb) (below_alloc (Below.refl _ _) (.cells #[.int .i64 y, .int .i64 m, .int .i64 d, .int .i64 h, .int .i64 i, .int .i64 s, .int .i64 u] 31)))
  have HC2 := Aside0.mk (blk_new w2 (.cells #[.int .i64 y, .int .i64 m, .int .i64 d, .int .i64 h, .int .i64 i, .int .i64 s, .int .i64 u] 31))
  clear hb
  rw [HOF.out, HV.out]
  go_wp2_with fail
  have a0 : (w2.alloc (.cells #[.int .i64 y, .int .i64 m, .int .i64 d, .int .i64 h, .int .i64 i, .int .i64 s, .int .i64 u] 31)).cell? ⟨w1.heap.size, 0, none⟩ = some (.int .i64 y) := blk_cell HA2.out 0
  have a1 : (w2.alloc (.cells #[.int .i64 y, .int .i64 m, .int .i64 d, .int .i64 h, .int .i64 i, .int .i64 s, .int .i64 u] 31)).cell? ⟨w1.heap.size, 1, none⟩ = some (.int .i64 m) := blk_cell HA2.out 1
  have a2 : (w2.alloc (.cells #[.int .i64 y, .int .i64 m, .int .i64 d, .int .i64 h, .int .i64 i, .int .i64 s, .int .i64 u] 31)).cell? ⟨w1.heap.size, 2, none⟩ = some (.int .i64 d) := blk_cell HA2.out 2
  have a3 : (w2.alloc (.cells #[.int .i64 y, .int .i64 m, .int .i64 d, .int .i64 h, .int .i64 i, .int .i64 s, .int .i64 u] 31)).cell? ⟨w1.heap.size, 3, none⟩ = some (.int .i64 h) := blk_cell HA2.out 3
  have a4 : (w2.alloc (.cells #[.int .i64 y, .int .i64 m, .int .i64 d, .int .i64 h, .int .i64 i, .int .i64 s, .int .i64 u] 31)).cell? ⟨w1.heap.size, 4, none⟩ = some (.int .i64 i) := blk_cell HA2.out 4
  have a5 : (w2.alloc (.cells #[.int .i64 y, .int .i64 m, .int .i64 d, .int .i64 h, .int .i64 i, .int .i64 s, .int .i64 u] 31)).cell? ⟨w1.heap.size, 5, none⟩ = some (.int .i64 s) := blk_cell HA2.out 5
  have a6 : (w2.alloc (.cells #[.int .i64 y, .int .i64 m, .int .i64 d, .int .i64 h, .int .i64 i, .int .i64 s, .int .i64 u] 31)).cell? ⟨w1.heap.size, 6, none⟩ = some (.int .i64 u) := blk_cell HA2.out 6
  have c0 : (w2.alloc (.cells #[.int .i64 y, .int .i64 m, .int .i64 d, .int .i64 h, .int .i64 i, .int .i64 s, .int .i64 u] 31)).cell? ⟨w2.heap.size, 0, none⟩ = some (.int .i64 y) := blk_cell HC2.out 0
  have c1 : (w2.alloc (.cells #[.int .i64 y, .int .i64 m, .int .i64 d, .int .i64 h, .int .i64 i, .int .i64 s, .int .i64 u] 31)).cell? ⟨w2.heap.size, 1, none⟩ = some (.int .i64 m) := blk_cell HC2.out 1
  have c2 : (w2.alloc (.cells #[.int .i64 y, .int .i64 m, .int .i64 d, .int .i64 h, .int .i64 i, .int .i64 s, .int .i64 u] 31)).cell? ⟨w2.heap.size, 2, none⟩ = some (.int .i64 d) := blk_cell HC2.out 2
  have c3 : (w2.alloc (.cells #[.int .i64 y, .int .i64 m, .int .i64 d, .int .i64 h, .int .i64 i, .int .i64 s, .int .i64 u] 31)).cell? ⟨w2.heap.size, 3, none⟩ = some (.int .i64 h) := blk_cell HC2.out 3
  have c4 : (w2.alloc (.cells #[.int .i64 y, .int .i64 m, .int .i64 d, .int .i64 h, .int .i64 i, .int .i64 s, .int .i64 u] 31)).cell? ⟨w2.heap.size, 4, none⟩ = some (.int .i64 i) := blk_cell HC2.out 4
  have c5 : (w2.alloc (.cells #[.int .i64 y, .int .i64 m, .int .i64 d, .int .i64 h, .int .i64 i, .int .i64 s, .int .i64 u] 31)).cell? ⟨w2.heap.size, 5, none⟩ = some (.int .i64 s) := blk_cell HC2.out 5
  have c6 : (w2.alloc (.cells #[.int .i64 y, .int .i64 m, .int .i64 d, .int .i64 h, .int .i64 i, .int .i64 s, .int .i64 u] 31)).cell? ⟨w2.heap.size, 6, none⟩ = some (.int .i64 u) := blk_cell HC2.out 6
  refine start_ (n := 9) (S := fun w' => w'.cell? ⟨w1.heap.size, 0, none⟩ = some (.int .i64 y) ∧ w'.cell? ⟨w1.heap.size, 1, none⟩ = some (.int .i64 m) ∧ w'.cell? ⟨w1.heap.size, 2, none⟩ = some (.int .i64 d) ∧ w'.cell? ⟨w1.heap.size, 3, none⟩ = some (.int .i64 h) ∧ w'.cell? ⟨w1.heap.size, 4, none⟩ = some (.int .i64 i) ∧ w'.cell? ⟨w1.heap.size, 5, none⟩ = some (.int .i64 s) ∧ w'.cell? ⟨w1.heap.size, 6, none⟩ = some (.int .i64 u) ∧ w'.cell? ⟨w2.heap.size, 0, none⟩ = some (.int .i64 y) ∧ w'.cell? ⟨w2.heap.size, 1, none⟩ = some (.int .i64 m) ∧ w'.cell? ⟨w2.heap.size, 2, none⟩ = some (.int .i64 d) ∧ w'.cell? ⟨w2.heap.size, 3, none⟩ = some (.int .i64 h) ∧ w'.cell? ⟨w2.heap.size, 4, none⟩ = some (.int .i64 i) ∧ w'.cell? ⟨w2.heap.size, 5, none⟩ = some (.int .i64 s) ∧ w'.cell? ⟨w2.heap.size, 6, none⟩ = some (.int .i64 u)) (ds := []) #[false, false, false, false, false, false, false, false, false] (by kernel_rfl) rfl rfl ⟨a0, a1, a2, a3, a4, a5, a6, c0, c1, c2, c3, c4, c5, c6⟩ (fun hHeld => ?_)
  refine take_ (i := 0) (N := some 19) (v := ?_) (a' := ?_) #[true, false, false, false, false, false, false, false, false] rfl rfl (by kernel_rfl) (fun _ _ _ h => h) (Or.inl ⟨by rfl, ?_⟩) hHeld ?_ ?_
  rotate_left
  · rintro w' ⟨s0, s1, s2, s3, s4, s5, s6, s7, s8, s9, s10, s11, s12, s13⟩
    go_simp
    with_reducible rfl
  rotate_left
  · simp only [Act.put, List.setIfInBounds_toArray, List.set_cons_zero, List.set_cons_succ, i64_w, i32_w]
    rfl
  refine take_ (i := 1) (N := some 20) (v := ?_) (a' := ?_) #[true, true, false, false, false, false, false, false, false] rfl rfl (by kernel_rfl) (fun _ _ _ h => h) (Or.inl ⟨by rfl, ?_⟩) hHeld ?_ ?_
  rotate_left
  · rintro w' ⟨s0, s1, s2, s3, s4, s5, s6, s7, s8, s9, s10, s11, s12, s13⟩
    go_simp
    with_reducible rfl
  rotate_left
  · simp only [Act.put, List.setIfInBounds_toArray, List.set_cons_zero, List.set_cons_succ, i64_w, i32_w]
    rfl
  refine one_ (i := 2) (N := some 21) #[true, true, true, false, false, false, false, false, false] rfl rfl (by kernel_rfl) (by decide) (fun K hK => ?_)
  refine goes_ Try.func22 (by kernel_rfl) rfl #[.agg #[.int .i64 y, .int .i64 m, .int .i64 d, .int .i64 h, .int .i64 i, .int .i64 s, .int .i64 u]] (by rfl) rfl rfl (by (try simp only [List.map_toArray, List.map_cons, List.map_nil]); first | done | rfl) ?_
  with_reducible refine (civ_to_calls y m d h i s u _).mono ?_
  rintro e w3 ⟨rfl, hb3⟩
  refine ⟨_, rfl, ?_⟩
  refine hK.out _ _ ⟨(pw_cell_below hb3 a0), (pw_cell_below hb3 a1), (pw_cell_below hb3 a2), (pw_cell_below hb3 a3), (pw_cell_below hb3 a4), (pw_cell_below hb3 a5), (pw_cell_below hb3 a6), (pw_cell_below hb3 c0), (pw_cell_below hb3 c1), (pw_cell_below hb3 c2), (pw_cell_below hb3 c3), (pw_cell_below hb3 c4), (pw_cell_below hb3 c5), (pw_cell_below hb3 c6)⟩ (fun hHeld => ?_)
  clear hK K
  refine norm_ (a' := ?_) ?_ ?_
  rotate_left
  · show Act.put _ (some 21) _ = _
    simp only [Act.put, List.setIfInBounds_toArray, List.set_cons_zero, List.set_cons_succ, i64_w, i32_w]
    rfl
  refine pure_ (i := 3) (N := some 22) (v := ?_) (a' := ?_) #[true, true, true, true, false, false, false, false, false] rfl rfl (by kernel_rfl) (fun _ _ _ h => h) (Or.inl ⟨by rfl, ?_⟩) ?_ ?_
  rotate_left
  · intro w'
    go_simp
    with_reducible rfl
  rotate_left
  · simp only [Act.put, List.setIfInBounds_toArray, List.set_cons_zero, List.set_cons_succ, i64_w, i32_w]
    rfl
  refine pure_ (i := 4) (N := some 23) (v := ?_) (a' := ?_) #[true, true, true, true, true, false, false, false, false] rfl rfl (by kernel_rfl) (fun _ _ _ h => h) (Or.inl ⟨by rfl, ?_⟩) ?_ ?_
  rotate_left
  · intro w'
    go_simp
    with_reducible rfl
  rotate_left
  · simp only [Act.put, List.setIfInBounds_toArray, List.set_cons_zero, List.set_cons_succ, i64_w, i32_w]
    rfl
  refine pure_ (i := 5) (N := some 24) (v := ?_) (a' := ?_) #[true, true, true, true, true, true, false, false, false] rfl rfl (by kernel_rfl) (fun _ _ _ h => h) (Or.inl ⟨by rfl, ?_⟩) ?_ ?_
  rotate_left
  · intro w'
    go_simp
    with_reducible rfl
  rotate_left
  · simp only [Act.put, List.setIfInBounds_toArray, List.set_cons_zero, List.set_cons_succ, i64_w, i32_w]
    rfl
  refine pure_ (i := 6) (N := some 25) (v := ?_) (a' := ?_) #[true, true, true, true, true, true, true, false, false] rfl rfl (by kernel_rfl) (fun _ _ _ h => h) (Or.inl ⟨by rfl, ?_⟩) ?_ ?_
  rotate_left
  · intro w'
    go_simp
    with_reducible rfl
  rotate_left
  · simp only [Act.put, List.setIfInBounds_toArray, List.set_cons_zero, List.set_cons_succ, i64_w, i32_w]
    rfl
  refine pure_ (i := 7) (N := some 26) (v := ?_) (a' := ?_) #[true, true, true, true, true, true, true, true, false] rfl rfl (by kernel_rfl) (fun _ _ _ h => h) (Or.inl ⟨by rfl, ?_⟩) ?_ ?_
  rotate_left
  · intro w'
    go_simp
    with_reducible rfl
  rotate_left
  · simp only [Act.put, List.setIfInBounds_toArray, List.set_cons_zero, List.set_cons_succ, i64_w, i32_w]
    rfl
  refine pure_ (i := 8) (N := some 27) (v := ?_) (a' := ?_) #[true, true, true, true, true, true, true, true, true] rfl rfl (by kernel_rfl) (fun _ _ _ h => h) (Or.inl ⟨by rfl, ?_⟩) ?_ ?_
  rotate_left
  · intro w'
    go_simp
    with_reducible rfl
  rotate_left
  · simp only [Act.put, List.setIfInBounds_toArray, List.set_cons_zero, List.set_cons_succ, i64_w, i32_w]
    rfl
  refine done_ (by kernel_rfl) ?_
  have HB3 := Aside0.mk (below_step (below_drew HB2.out) hb3)
  have e0 := pw_cell_below hb3 a0
  have e1 := pw_cell_below hb3 a1
  have e2 := pw_cell_below hb3 a2
  have e3 := pw_cell_below hb3 a3
  have e4 := pw_cell_below hb3 a4
  have e5 := pw_cell_below hb3 a5
  have e6 := pw_cell_below hb3 a6

  clear hb3 a0 a1 a2 a3 a4 a5 a6 c0 c1 c2 c3 c4 c5 c6
  go_wp2_with fail
  refine (civil_Micros_yes y m d h i s u _ HR.out).mono ?_
  rintro e w4 ⟨rfl, hb⟩
  have HB4 := Aside0.mk (below_step HB3.out hb)
  clear hb
  rw [HM.out]
  go_wp2_with fail
  refine (civ_awake_calls _).mono ?_
  rintro e w5 ⟨rfl, hb⟩
  have HB5 := Aside0.mk (below_step HB4.out hb)
  clear hb
  go_wp2
  go_ret
  exact ⟨rfl, HB5.out⟩

set_option maxHeartbeats 8000000 in
set_option maxRecDepth 100000 in
theorem civil_Weekday_calls (y m d h i s u : Int) (w : World) (hr : rightB y m d h i s u = true) : Calls Try.prog 27 #[.agg #[.int .i64 y, .int .i64 m, .int .i64 d, .int .i64 h, .int .i64 i, .int .i64 s, .int .i64 u]] w fun e w' => e = .returned (.int .i64 ((microsZ y m d h i s u / 86400000000 + 4) % 7)) ∧ Below w.heap.size w w' := by
  have hmb : 0 ≤ microsZ y m d h i s u ∧ microsZ y m d h i s u ≤ 253402300799999999 := by
    obtain ⟨⟨y0, y1⟩, ⟨m0, m1⟩, ⟨d0, d1⟩, ⟨h0, h1⟩, ⟨i0, i1⟩, ⟨s0, s1⟩, ⟨u0, u1⟩⟩ := rightB_yes hr
    have hb := dayZ_bd y0 y1 ⟨m0, m1, d0, d1⟩
    unfold microsZ; omega
  obtain ⟨hm0, hm1⟩ := hmb
  have HR := Aside0.mk hr
  clear hr
  go_enter Try.func27, Try.ntmps27
  go_wp2_with fail
  refine (civil_Micros_yes y m d h i s u _ HR.out).mono ?_
  rintro e w1 ⟨rfl, hb⟩
  have HB := Aside0.mk (below_step (below_alloc (Below.refl _ _) _) hb)
  clear hb
  obtain ⟨M, hM⟩ : ∃ M, microsZ y m d h i s u = M := ⟨_, rfl⟩
  rw [hM] at hm0 hm1 ⊢
  have HM := Aside0.mk hM
  clear hM
  go_wp2
  go_ret
  exact ⟨by rw [HM.out]; rfl, HB.out⟩
set_option maxHeartbeats 8000000 in
set_option maxRecDepth 100000 in
theorem ref_Weekday_calls (y m d h i s u : Int) (w : World) (hr : rightB y m d h i s u = true) : Calls Try.prog 28 #[.agg #[.int .i64 y, .int .i64 m, .int .i64 d, .int .i64 h, .int .i64 i, .int .i64 s, .int .i64 u]] w fun e w' => e = .returned (.int .i64 ((microsZ y m d h i s u / 86400000000 + 4) % 7)) ∧ Below w.heap.size w w' := by
  have hmb : 0 ≤ microsZ y m d h i s u ∧ microsZ y m d h i s u ≤ 253402300799999999 := by
    obtain ⟨⟨y0, y1⟩, ⟨m0, m1⟩, ⟨d0, d1⟩, ⟨h0, h1⟩, ⟨i0, i1⟩, ⟨s0, s1⟩, ⟨u0, u1⟩⟩ := rightB_yes hr
    have hb := dayZ_bd y0 y1 ⟨m0, m1, d0, d1⟩
    unfold microsZ; omega
  obtain ⟨hm0, hm1⟩ := hmb
  have HR := Aside0.mk hr
  clear hr
  go_enter Try.func28, Try.ntmps28
  go_wp2_with fail
  refine (ref_Micros_calls y m d h i s u _ HR.out).mono ?_
  rintro e w1 ⟨rfl, hb⟩
  have HB := Aside0.mk (below_step (below_alloc (Below.refl _ _) _) hb)
  clear hb
  obtain ⟨M, hM⟩ : ∃ M, microsZ y m d h i s u = M := ⟨_, rfl⟩
  rw [hM] at hm0 hm1 ⊢
  have HM := Aside0.mk hM
  clear hM
  go_wp2
  go_ret
  exact ⟨by rw [HM.out]; rfl, HB.out⟩
set_option maxHeartbeats 8000000 in
set_option maxRecDepth 100000 in
theorem CivilTells_no (n : Int) (w : World) (n0 : 0 ≤ n) (n1 : n ≤ 18446744073709551615) (hq : 2932896 < n / 86400000000) : Calls Try.prog 4 #[.int .u64 n] w fun e w' => e = .returned (.bool true) ∧ Below w.heap.size w w' := by
  have HOF := Aside0.mk (show ofR n = .tuple #[noV, .bool false] from if_neg (by omega))
  have HQ := Aside0.mk hq
  have HR : Aside0 (rightB 0 0 0 0 0 0 0 = false) := ⟨by decide⟩
  clear hq
  go_enter Try.func4, Try.ntmps4
  go_wp2_with fail
  refine (civil_Of_no n _ n0 n1 HQ.out).mono ?_
  rintro e w1 ⟨rfl, hb⟩
  have HB1 := Aside0.mk (below_alloc hb (.cells #[.int .i64 0, .int .i64 0, .int .i64 0, .int .i64 0, .int .i64 0, .int .i64 0, .int .i64 0] 28))
  have HA1 := Aside0.mk (blk_new w1 (.cells #[.int .i64 0, .int .i64 0, .int .i64 0, .int .i64 0, .int .i64 0, .int .i64 0, .int .i64 0] 28))
  clear hb
  go_wp2_with fail
  refine (ref_Of_calls n _ n0 n1).mono ?_
  rintro e w2 ⟨rfl, hb⟩
  have HB2 := Aside0.mk (below_alloc (below_step HB1.out hb) (.cells #[.int .i64 0, .int .i64 0, .int .i64 0, .int .i64 0, .int .i64 0, .int .i64 0, .int .i64 0] 31))
  have HA2 := Aside0.mk (blk_below (blk_below HA1.out hb) (below_alloc (Below.refl _ _) (.cells #[.int .i64 0, .int .i64 0, .int .i64 0, .int .i64 0, .int .i64 0, .int .i64 0, .int .i64 0] 31)))
  have HC2 := Aside0.mk (blk_new w2 (.cells #[.int .i64 0, .int .i64 0, .int .i64 0, .int .i64 0, .int .i64 0, .int .i64 0, .int .i64 0] 31))
  clear hb
  rw [HOF.out]
  go_wp2_with fail
  have a0 : (w2.alloc (.cells #[.int .i64 0, .int .i64 0, .int .i64 0, .int .i64 0, .int .i64 0, .int .i64 0, .int .i64 0] 31)).cell? ⟨w1.heap.size, 0, none⟩ = some (.int .i64 0) := blk_cell HA2.out 0
  have a1 : (w2.alloc (.cells #[.int .i64 0, .int .i64 0, .int .i64 0, .int .i64 0, .int .i64 0, .int .i64 0, .int .i64 0] 31)).cell? ⟨w1.heap.size, 1, none⟩ = some (.int .i64 0) := blk_cell HA2.out 1
  have a2 : (w2.alloc (.cells #[.int .i64 0, .int .i64 0, .int .i64 0, .int .i64 0, .int .i64 0, .int .i64 0, .int .i64 0] 31)).cell? ⟨w1.heap.size, 2, none⟩ = some (.int .i64 0) := blk_cell HA2.out 2
  have a3 : (w2.alloc (.cells #[.int .i64 0, .int .i64 0, .int .i64 0, .int .i64 0, .int .i64 0, .int .i64 0, .int .i64 0] 31)).cell? ⟨w1.heap.size, 3, none⟩ = some (.int .i64 0) := blk_cell HA2.out 3
  have a4 : (w2.alloc (.cells #[.int .i64 0, .int .i64 0, .int .i64 0, .int .i64 0, .int .i64 0, .int .i64 0, .int .i64 0] 31)).cell? ⟨w1.heap.size, 4, none⟩ = some (.int .i64 0) := blk_cell HA2.out 4
  have a5 : (w2.alloc (.cells #[.int .i64 0, .int .i64 0, .int .i64 0, .int .i64 0, .int .i64 0, .int .i64 0, .int .i64 0] 31)).cell? ⟨w1.heap.size, 5, none⟩ = some (.int .i64 0) := blk_cell HA2.out 5
  have a6 : (w2.alloc (.cells #[.int .i64 0, .int .i64 0, .int .i64 0, .int .i64 0, .int .i64 0, .int .i64 0, .int .i64 0] 31)).cell? ⟨w1.heap.size, 6, none⟩ = some (.int .i64 0) := blk_cell HA2.out 6
  have c0 : (w2.alloc (.cells #[.int .i64 0, .int .i64 0, .int .i64 0, .int .i64 0, .int .i64 0, .int .i64 0, .int .i64 0] 31)).cell? ⟨w2.heap.size, 0, none⟩ = some (.int .i64 0) := blk_cell HC2.out 0
  have c1 : (w2.alloc (.cells #[.int .i64 0, .int .i64 0, .int .i64 0, .int .i64 0, .int .i64 0, .int .i64 0, .int .i64 0] 31)).cell? ⟨w2.heap.size, 1, none⟩ = some (.int .i64 0) := blk_cell HC2.out 1
  have c2 : (w2.alloc (.cells #[.int .i64 0, .int .i64 0, .int .i64 0, .int .i64 0, .int .i64 0, .int .i64 0, .int .i64 0] 31)).cell? ⟨w2.heap.size, 2, none⟩ = some (.int .i64 0) := blk_cell HC2.out 2
  have c3 : (w2.alloc (.cells #[.int .i64 0, .int .i64 0, .int .i64 0, .int .i64 0, .int .i64 0, .int .i64 0, .int .i64 0] 31)).cell? ⟨w2.heap.size, 3, none⟩ = some (.int .i64 0) := blk_cell HC2.out 3
  have c4 : (w2.alloc (.cells #[.int .i64 0, .int .i64 0, .int .i64 0, .int .i64 0, .int .i64 0, .int .i64 0, .int .i64 0] 31)).cell? ⟨w2.heap.size, 4, none⟩ = some (.int .i64 0) := blk_cell HC2.out 4
  have c5 : (w2.alloc (.cells #[.int .i64 0, .int .i64 0, .int .i64 0, .int .i64 0, .int .i64 0, .int .i64 0, .int .i64 0] 31)).cell? ⟨w2.heap.size, 5, none⟩ = some (.int .i64 0) := blk_cell HC2.out 5
  have c6 : (w2.alloc (.cells #[.int .i64 0, .int .i64 0, .int .i64 0, .int .i64 0, .int .i64 0, .int .i64 0, .int .i64 0] 31)).cell? ⟨w2.heap.size, 6, none⟩ = some (.int .i64 0) := blk_cell HC2.out 6
  refine start_ (n := 9) (S := fun w' => w'.cell? ⟨w1.heap.size, 0, none⟩ = some (.int .i64 0) ∧ w'.cell? ⟨w1.heap.size, 1, none⟩ = some (.int .i64 0) ∧ w'.cell? ⟨w1.heap.size, 2, none⟩ = some (.int .i64 0) ∧ w'.cell? ⟨w1.heap.size, 3, none⟩ = some (.int .i64 0) ∧ w'.cell? ⟨w1.heap.size, 4, none⟩ = some (.int .i64 0) ∧ w'.cell? ⟨w1.heap.size, 5, none⟩ = some (.int .i64 0) ∧ w'.cell? ⟨w1.heap.size, 6, none⟩ = some (.int .i64 0) ∧ w'.cell? ⟨w2.heap.size, 0, none⟩ = some (.int .i64 0) ∧ w'.cell? ⟨w2.heap.size, 1, none⟩ = some (.int .i64 0) ∧ w'.cell? ⟨w2.heap.size, 2, none⟩ = some (.int .i64 0) ∧ w'.cell? ⟨w2.heap.size, 3, none⟩ = some (.int .i64 0) ∧ w'.cell? ⟨w2.heap.size, 4, none⟩ = some (.int .i64 0) ∧ w'.cell? ⟨w2.heap.size, 5, none⟩ = some (.int .i64 0) ∧ w'.cell? ⟨w2.heap.size, 6, none⟩ = some (.int .i64 0)) (ds := []) #[false, false, false, false, false, false, false, false, false] (by kernel_rfl) rfl rfl ⟨a0, a1, a2, a3, a4, a5, a6, c0, c1, c2, c3, c4, c5, c6⟩ (fun hHeld => ?_)
  refine take_ (i := 0) (N := some 19) (v := ?_) (a' := ?_) #[true, false, false, false, false, false, false, false, false] rfl rfl (by kernel_rfl) (fun _ _ _ h => h) (Or.inl ⟨by rfl, ?_⟩) hHeld ?_ ?_
  rotate_left
  · rintro w' ⟨s0, s1, s2, s3, s4, s5, s6, s7, s8, s9, s10, s11, s12, s13⟩
    go_simp
    with_reducible rfl
  rotate_left
  · simp only [Act.put, List.setIfInBounds_toArray, List.set_cons_zero, List.set_cons_succ, i64_w, i32_w]
    rfl
  refine take_ (i := 1) (N := some 20) (v := ?_) (a' := ?_) #[true, true, false, false, false, false, false, false, false] rfl rfl (by kernel_rfl) (fun _ _ _ h => h) (Or.inl ⟨by rfl, ?_⟩) hHeld ?_ ?_
  rotate_left
  · rintro w' ⟨s0, s1, s2, s3, s4, s5, s6, s7, s8, s9, s10, s11, s12, s13⟩
    go_simp
    with_reducible rfl
  rotate_left
  · simp only [Act.put, List.setIfInBounds_toArray, List.set_cons_zero, List.set_cons_succ, i64_w, i32_w]
    rfl
  refine one_ (i := 2) (N := some 21) #[true, true, true, false, false, false, false, false, false] rfl rfl (by kernel_rfl) (by decide) (fun K hK => ?_)
  refine goes_ Try.func22 (by kernel_rfl) rfl #[.agg #[.int .i64 0, .int .i64 0, .int .i64 0, .int .i64 0, .int .i64 0, .int .i64 0, .int .i64 0]] (by rfl) rfl rfl (by (try simp only [List.map_toArray, List.map_cons, List.map_nil]); first | done | rfl) ?_
  with_reducible refine (civ_to_calls 0 0 0 0 0 0 0 _).mono ?_
  rintro e w3 ⟨rfl, hb3⟩
  refine ⟨_, rfl, ?_⟩
  refine hK.out _ _ ⟨(pw_cell_below hb3 a0), (pw_cell_below hb3 a1), (pw_cell_below hb3 a2), (pw_cell_below hb3 a3), (pw_cell_below hb3 a4), (pw_cell_below hb3 a5), (pw_cell_below hb3 a6), (pw_cell_below hb3 c0), (pw_cell_below hb3 c1), (pw_cell_below hb3 c2), (pw_cell_below hb3 c3), (pw_cell_below hb3 c4), (pw_cell_below hb3 c5), (pw_cell_below hb3 c6)⟩ (fun hHeld => ?_)
  clear hK K
  refine norm_ (a' := ?_) ?_ ?_
  rotate_left
  · show Act.put _ (some 21) _ = _
    simp only [Act.put, List.setIfInBounds_toArray, List.set_cons_zero, List.set_cons_succ, i64_w, i32_w]
    rfl
  refine pure_ (i := 3) (N := some 22) (v := ?_) (a' := ?_) #[true, true, true, true, false, false, false, false, false] rfl rfl (by kernel_rfl) (fun _ _ _ h => h) (Or.inl ⟨by rfl, ?_⟩) ?_ ?_
  rotate_left
  · intro w'
    go_simp
    with_reducible rfl
  rotate_left
  · simp only [Act.put, List.setIfInBounds_toArray, List.set_cons_zero, List.set_cons_succ, i64_w, i32_w]
    rfl
  refine pure_ (i := 4) (N := some 23) (v := ?_) (a' := ?_) #[true, true, true, true, true, false, false, false, false] rfl rfl (by kernel_rfl) (fun _ _ _ h => h) (Or.inl ⟨by rfl, ?_⟩) ?_ ?_
  rotate_left
  · intro w'
    go_simp
    with_reducible rfl
  rotate_left
  · simp only [Act.put, List.setIfInBounds_toArray, List.set_cons_zero, List.set_cons_succ, i64_w, i32_w]
    rfl
  refine pure_ (i := 5) (N := some 24) (v := ?_) (a' := ?_) #[true, true, true, true, true, true, false, false, false] rfl rfl (by kernel_rfl) (fun _ _ _ h => h) (Or.inl ⟨by rfl, ?_⟩) ?_ ?_
  rotate_left
  · intro w'
    go_simp
    with_reducible rfl
  rotate_left
  · simp only [Act.put, List.setIfInBounds_toArray, List.set_cons_zero, List.set_cons_succ, i64_w, i32_w]
    rfl
  refine pure_ (i := 6) (N := some 25) (v := ?_) (a' := ?_) #[true, true, true, true, true, true, true, false, false] rfl rfl (by kernel_rfl) (fun _ _ _ h => h) (Or.inl ⟨by rfl, ?_⟩) ?_ ?_
  rotate_left
  · intro w'
    go_simp
    with_reducible rfl
  rotate_left
  · simp only [Act.put, List.setIfInBounds_toArray, List.set_cons_zero, List.set_cons_succ, i64_w, i32_w]
    rfl
  refine pure_ (i := 7) (N := some 26) (v := ?_) (a' := ?_) #[true, true, true, true, true, true, true, true, false] rfl rfl (by kernel_rfl) (fun _ _ _ h => h) (Or.inl ⟨by rfl, ?_⟩) ?_ ?_
  rotate_left
  · intro w'
    go_simp
    with_reducible rfl
  rotate_left
  · simp only [Act.put, List.setIfInBounds_toArray, List.set_cons_zero, List.set_cons_succ, i64_w, i32_w]
    rfl
  refine pure_ (i := 8) (N := some 27) (v := ?_) (a' := ?_) #[true, true, true, true, true, true, true, true, true] rfl rfl (by kernel_rfl) (fun _ _ _ h => h) (Or.inl ⟨by rfl, ?_⟩) ?_ ?_
  rotate_left
  · intro w'
    go_simp
    with_reducible rfl
  rotate_left
  · simp only [Act.put, List.setIfInBounds_toArray, List.set_cons_zero, List.set_cons_succ, i64_w, i32_w]
    rfl
  refine done_ (by kernel_rfl) ?_
  have HB3 := Aside0.mk (below_step (below_drew HB2.out) hb3)
  have e0 := pw_cell_below hb3 a0
  have e1 := pw_cell_below hb3 a1
  have e2 := pw_cell_below hb3 a2
  have e3 := pw_cell_below hb3 a3
  have e4 := pw_cell_below hb3 a4
  have e5 := pw_cell_below hb3 a5
  have e6 := pw_cell_below hb3 a6

  clear hb3 a0 a1 a2 a3 a4 a5 a6 c0 c1 c2 c3 c4 c5 c6
  go_wp2_with fail
  refine (civil_Micros_no 0 0 0 0 0 0 0 _ HR.out).mono ?_
  rintro e w4 ⟨rfl, hb⟩
  have HB4 := Aside0.mk (below_step HB3.out hb)
  clear hb
  go_wp2_with fail
  refine (civ_awake_calls _).mono ?_
  rintro e w5 ⟨rfl, hb⟩
  have HB5 := Aside0.mk (below_step HB4.out hb)
  clear hb
  go_wp2
  go_ret
  exact ⟨rfl, HB5.out⟩
theorem CivilTells_walk (a0 : Int) (w : World) (w0 : (Lit.int .u64 a0).wf = true) : Calls Try.prog 4 #[.int .u64 a0] w fun e w' => e = .returned (.bool true) ∧ Below w.heap.size w w' := by
  by_cases h : a0 / 86400000000 ≤ 2932896
  · exact CivilTells_yes a0 w (bounds_u64 w0).1 (bounds_u64 w0).2 h
  · exact CivilTells_no a0 w (bounds_u64 w0).1 (bounds_u64 w0).2 (by omega)

set_option maxHeartbeats 8000000 in
set_option maxRecDepth 100000 in
theorem CivilCounts_yes (y m d h i s u : Int) (w : World) (hr : rightB y m d h i s u = true) : Calls Try.prog 5 #[.agg #[.int .i64 y, .int .i64 m, .int .i64 d, .int .i64 h, .int .i64 i, .int .i64 s, .int .i64 u]] w fun e w' => e = .returned (.bool true) ∧ Below w.heap.size w w' := by
  have HR := Aside0.mk hr
  obtain ⟨M, hM⟩ : ∃ M, microsZ y m d h i s u = M := ⟨_, rfl⟩
  obtain ⟨W, hW⟩ : ∃ W, (M / 86400000000 + 4) % 7 = W := ⟨_, rfl⟩
  have HM := Aside0.mk hM
  have HW := Aside0.mk hW
  have hmm : (M == M) = true := by simp
  have hww : (W == W) = true := by simp
  have HX0 := Aside0.mk (blk_new w (.cells #[.int .i64 y, .int .i64 m, .int .i64 d, .int .i64 h, .int .i64 i, .int .i64 s, .int .i64 u] 31))
  clear hr hM hW
  go_enter Try.func5, Try.ntmps5
  go_wp2_with fail
  refine (civ_to_calls y m d h i s u _).mono ?_
  rintro e w1 ⟨rfl, hb⟩
  have HB1 := Aside0.mk (below_alloc (below_step (below_alloc (Below.refl _ _) _) hb) (.cells #[.int .i64 y, .int .i64 m, .int .i64 d, .int .i64 h, .int .i64 i, .int .i64 s, .int .i64 u] 28))
  have HA1 := Aside0.mk (blk_new w1 (.cells #[.int .i64 y, .int .i64 m, .int .i64 d, .int .i64 h, .int .i64 i, .int .i64 s, .int .i64 u] 28))
  have HX1 := Aside0.mk (blk_alloc (blk_below HX0.out hb) (.cells #[.int .i64 y, .int .i64 m, .int .i64 d, .int .i64 h, .int .i64 i, .int .i64 s, .int .i64 u] 28))
  clear hb
  go_wp2_with fail
  refine (civil_Micros_yes y m d h i s u _ HR.out).mono ?_
  rintro e w2 ⟨rfl, hb⟩
  have HB2 := Aside0.mk (below_step HB1.out hb)
  have HA2 := Aside0.mk (blk_below HA1.out hb)
  have HX2 := Aside0.mk (blk_below HX1.out hb)
  clear hb
  rw [HM.out]
  go_wp2_with fail
  have a0 : (w2).cell? ⟨w1.heap.size, 0, none⟩ = some (.int .i64 y) := blk_cell HA2.out 0
  have a1 : (w2).cell? ⟨w1.heap.size, 1, none⟩ = some (.int .i64 m) := blk_cell HA2.out 1
  have a2 : (w2).cell? ⟨w1.heap.size, 2, none⟩ = some (.int .i64 d) := blk_cell HA2.out 2
  have a3 : (w2).cell? ⟨w1.heap.size, 3, none⟩ = some (.int .i64 h) := blk_cell HA2.out 3
  have a4 : (w2).cell? ⟨w1.heap.size, 4, none⟩ = some (.int .i64 i) := blk_cell HA2.out 4
  have a5 : (w2).cell? ⟨w1.heap.size, 5, none⟩ = some (.int .i64 s) := blk_cell HA2.out 5
  have a6 : (w2).cell? ⟨w1.heap.size, 6, none⟩ = some (.int .i64 u) := blk_cell HA2.out 6
  have c0 : (w2).cell? ⟨w.heap.size, 0, none⟩ = some (.int .i64 y) := blk_cell HX2.out 0
  have c1 : (w2).cell? ⟨w.heap.size, 1, none⟩ = some (.int .i64 m) := blk_cell HX2.out 1
  have c2 : (w2).cell? ⟨w.heap.size, 2, none⟩ = some (.int .i64 d) := blk_cell HX2.out 2
  have c3 : (w2).cell? ⟨w.heap.size, 3, none⟩ = some (.int .i64 h) := blk_cell HX2.out 3
  have c4 : (w2).cell? ⟨w.heap.size, 4, none⟩ = some (.int .i64 i) := blk_cell HX2.out 4
  have c5 : (w2).cell? ⟨w.heap.size, 5, none⟩ = some (.int .i64 s) := blk_cell HX2.out 5
  have c6 : (w2).cell? ⟨w.heap.size, 6, none⟩ = some (.int .i64 u) := blk_cell HX2.out 6
  refine start_ (n := 19) (S := fun w' => w'.cell? ⟨w1.heap.size, 0, none⟩ = some (.int .i64 y) ∧ w'.cell? ⟨w1.heap.size, 1, none⟩ = some (.int .i64 m) ∧ w'.cell? ⟨w1.heap.size, 2, none⟩ = some (.int .i64 d) ∧ w'.cell? ⟨w1.heap.size, 3, none⟩ = some (.int .i64 h) ∧ w'.cell? ⟨w1.heap.size, 4, none⟩ = some (.int .i64 i) ∧ w'.cell? ⟨w1.heap.size, 5, none⟩ = some (.int .i64 s) ∧ w'.cell? ⟨w1.heap.size, 6, none⟩ = some (.int .i64 u) ∧ w'.cell? ⟨w.heap.size, 0, none⟩ = some (.int .i64 y) ∧ w'.cell? ⟨w.heap.size, 1, none⟩ = some (.int .i64 m) ∧ w'.cell? ⟨w.heap.size, 2, none⟩ = some (.int .i64 d) ∧ w'.cell? ⟨w.heap.size, 3, none⟩ = some (.int .i64 h) ∧ w'.cell? ⟨w.heap.size, 4, none⟩ = some (.int .i64 i) ∧ w'.cell? ⟨w.heap.size, 5, none⟩ = some (.int .i64 s) ∧ w'.cell? ⟨w.heap.size, 6, none⟩ = some (.int .i64 u)) (ds := []) #[false, false, false, false, false, false, false, false, false, false, false, false, false, false, false, false, false, false, false] (by kernel_rfl) rfl rfl ⟨a0, a1, a2, a3, a4, a5, a6, c0, c1, c2, c3, c4, c5, c6⟩ (fun hHeld => ?_)
  refine take_ (i := 0) (N := some 13) (v := ?_) (a' := ?_) #[true, false, false, false, false, false, false, false, false, false, false, false, false, false, false, false, false, false, false] rfl rfl (by kernel_rfl) (fun _ _ _ h => h) (Or.inl ⟨by rfl, ?_⟩) hHeld ?_ ?_
  rotate_left
  · rintro w' ⟨s0, s1, s2, s3, s4, s5, s6, s7, s8, s9, s10, s11, s12, s13⟩
    go_simp
    with_reducible rfl
  rotate_left
  · simp only [Act.put, List.setIfInBounds_toArray, List.set_cons_zero, List.set_cons_succ, i64_w, i32_w]
    rfl
  refine take_ (i := 2) (N := some 15) (v := ?_) (a' := ?_) #[true, false, true, false, false, false, false, false, false, false, false, false, false, false, false, false, false, false, false] rfl rfl (by kernel_rfl) (fun _ _ _ h => h) (Or.inl ⟨by rfl, ?_⟩) hHeld ?_ ?_
  rotate_left
  · rintro w' ⟨s0, s1, s2, s3, s4, s5, s6, s7, s8, s9, s10, s11, s12, s13⟩
    go_simp
    with_reducible rfl
  rotate_left
  · simp only [Act.put, List.setIfInBounds_toArray, List.set_cons_zero, List.set_cons_succ, i64_w, i32_w]
    rfl
  refine one_ (i := 1) (N := some 14) #[true, true, true, false, false, false, false, false, false, false, false, false, false, false, false, false, false, false, false] rfl rfl (by kernel_rfl) (by decide) (fun K hK => ?_)
  refine goes_ Try.func24 (by kernel_rfl) rfl #[.agg #[.int .i64 y, .int .i64 m, .int .i64 d, .int .i64 h, .int .i64 i, .int .i64 s, .int .i64 u]] (by rfl) rfl rfl (by (try simp only [List.map_toArray, List.map_cons, List.map_nil]); first | done | rfl) ?_
  with_reducible refine (civil_Right_calls y m d h i s u _).mono ?_
  rintro e w3 ⟨rfl, hb3⟩
  refine ⟨_, rfl, ?_⟩
  rw [HR.out]
  refine hK.out _ _ ⟨(pw_cell_below hb3 hHeld.1), (pw_cell_below hb3 hHeld.2.1), (pw_cell_below hb3 hHeld.2.2.1), (pw_cell_below hb3 hHeld.2.2.2.1), (pw_cell_below hb3 hHeld.2.2.2.2.1), (pw_cell_below hb3 hHeld.2.2.2.2.2.1), (pw_cell_below hb3 hHeld.2.2.2.2.2.2.1), (pw_cell_below hb3 hHeld.2.2.2.2.2.2.2.1), (pw_cell_below hb3 hHeld.2.2.2.2.2.2.2.2.1), (pw_cell_below hb3 hHeld.2.2.2.2.2.2.2.2.2.1), (pw_cell_below hb3 hHeld.2.2.2.2.2.2.2.2.2.2.1), (pw_cell_below hb3 hHeld.2.2.2.2.2.2.2.2.2.2.2.1), (pw_cell_below hb3 hHeld.2.2.2.2.2.2.2.2.2.2.2.2.1), (pw_cell_below hb3 hHeld.2.2.2.2.2.2.2.2.2.2.2.2.2)⟩ (fun hHeld => ?_)
  clear hK K
  refine norm_ (a' := ?_) ?_ ?_
  rotate_left
  · show Act.put _ (some 14) _ = _
    simp only [Act.put, List.setIfInBounds_toArray, List.set_cons_zero, List.set_cons_succ, i64_w, i32_w]
    rfl
  refine one_ (i := 3) (N := some 16) #[true, true, true, true, false, false, false, false, false, false, false, false, false, false, false, false, false, false, false] rfl rfl (by kernel_rfl) (by decide) (fun K hK => ?_)
  refine goes_ Try.func25 (by kernel_rfl) rfl #[.agg #[.int .i64 y, .int .i64 m, .int .i64 d, .int .i64 h, .int .i64 i, .int .i64 s, .int .i64 u]] (by rfl) rfl rfl (by (try simp only [List.map_toArray, List.map_cons, List.map_nil]); first | done | rfl) ?_
  with_reducible refine (ref_Right_calls y m d h i s u _).mono ?_
  rintro e w4 ⟨rfl, hb4⟩
  refine ⟨_, rfl, ?_⟩
  rw [HR.out]
  refine hK.out _ _ ⟨(pw_cell_below hb4 hHeld.1), (pw_cell_below hb4 hHeld.2.1), (pw_cell_below hb4 hHeld.2.2.1), (pw_cell_below hb4 hHeld.2.2.2.1), (pw_cell_below hb4 hHeld.2.2.2.2.1), (pw_cell_below hb4 hHeld.2.2.2.2.2.1), (pw_cell_below hb4 hHeld.2.2.2.2.2.2.1), (pw_cell_below hb4 hHeld.2.2.2.2.2.2.2.1), (pw_cell_below hb4 hHeld.2.2.2.2.2.2.2.2.1), (pw_cell_below hb4 hHeld.2.2.2.2.2.2.2.2.2.1), (pw_cell_below hb4 hHeld.2.2.2.2.2.2.2.2.2.2.1), (pw_cell_below hb4 hHeld.2.2.2.2.2.2.2.2.2.2.2.1), (pw_cell_below hb4 hHeld.2.2.2.2.2.2.2.2.2.2.2.2.1), (pw_cell_below hb4 hHeld.2.2.2.2.2.2.2.2.2.2.2.2.2)⟩ (fun hHeld => ?_)
  clear hK K
  refine norm_ (a' := ?_) ?_ ?_
  rotate_left
  · show Act.put _ (some 16) _ = _
    simp only [Act.put, List.setIfInBounds_toArray, List.set_cons_zero, List.set_cons_succ, i64_w, i32_w]
    rfl
  refine pure_ (i := 4) (N := some 17) (v := ?_) (a' := ?_) #[true, true, true, true, true, false, false, false, false, false, false, false, false, false, false, false, false, false, false] rfl rfl (by kernel_rfl) (fun _ _ _ h => h) (Or.inl ⟨by rfl, ?_⟩) ?_ ?_
  rotate_left
  · intro w'
    go_simp
    with_reducible rfl
  rotate_left
  · simp only [Act.put, List.setIfInBounds_toArray, List.set_cons_zero, List.set_cons_succ, i64_w, i32_w]
    rfl
  refine pure_ (i := 5) (N := some 18) (v := ?_) (a' := ?_) #[true, true, true, true, true, true, false, false, false, false, false, false, false, false, false, false, false, false, false] rfl rfl (by kernel_rfl) (fun _ _ _ h => h) (Or.inl ⟨by rfl, ?_⟩) ?_ ?_
  rotate_left
  · intro w'
    go_simp
    with_reducible rfl
  rotate_left
  · simp only [Act.put, List.setIfInBounds_toArray, List.set_cons_zero, List.set_cons_succ, i64_w, i32_w]
    rfl
  refine pure_ (i := 6) (N := some 19) (v := ?_) (a' := ?_) #[true, true, true, true, true, true, true, false, false, false, false, false, false, false, false, false, false, false, false] rfl rfl (by kernel_rfl) (fun _ _ _ h => h) (Or.inl ⟨by rfl, ?_⟩) ?_ ?_
  rotate_left
  · intro w'
    go_simp
    with_reducible rfl
  rotate_left
  · simp only [Act.put, List.setIfInBounds_toArray, List.set_cons_zero, List.set_cons_succ, i64_w, i32_w]
    rfl
  refine take_ (i := 7) (N := some 20) (v := ?_) (a' := ?_) #[true, true, true, true, true, true, true, true, false, false, false, false, false, false, false, false, false, false, false] rfl rfl (by kernel_rfl) (fun _ _ _ h => h) (Or.inl ⟨by rfl, ?_⟩) hHeld ?_ ?_
  rotate_left
  · rintro w' ⟨s0, s1, s2, s3, s4, s5, s6, s7, s8, s9, s10, s11, s12, s13⟩
    go_simp
    with_reducible rfl
  rotate_left
  · simp only [Act.put, List.setIfInBounds_toArray, List.set_cons_zero, List.set_cons_succ, i64_w, i32_w]
    rfl
  refine one_ (i := 8) (N := some 21) #[true, true, true, true, true, true, true, true, true, false, false, false, false, false, false, false, false, false, false] rfl rfl (by kernel_rfl) (by decide) (fun K hK => ?_)
  refine goes_ Try.func25 (by kernel_rfl) rfl #[.agg #[.int .i64 y, .int .i64 m, .int .i64 d, .int .i64 h, .int .i64 i, .int .i64 s, .int .i64 u]] (by rfl) rfl rfl (by (try simp only [List.map_toArray, List.map_cons, List.map_nil]); first | done | rfl) ?_
  with_reducible refine (ref_Right_calls y m d h i s u _).mono ?_
  rintro e w5 ⟨rfl, hb5⟩
  refine ⟨_, rfl, ?_⟩
  rw [HR.out]
  refine hK.out _ _ ⟨(pw_cell_below hb5 hHeld.1), (pw_cell_below hb5 hHeld.2.1), (pw_cell_below hb5 hHeld.2.2.1), (pw_cell_below hb5 hHeld.2.2.2.1), (pw_cell_below hb5 hHeld.2.2.2.2.1), (pw_cell_below hb5 hHeld.2.2.2.2.2.1), (pw_cell_below hb5 hHeld.2.2.2.2.2.2.1), (pw_cell_below hb5 hHeld.2.2.2.2.2.2.2.1), (pw_cell_below hb5 hHeld.2.2.2.2.2.2.2.2.1), (pw_cell_below hb5 hHeld.2.2.2.2.2.2.2.2.2.1), (pw_cell_below hb5 hHeld.2.2.2.2.2.2.2.2.2.2.1), (pw_cell_below hb5 hHeld.2.2.2.2.2.2.2.2.2.2.2.1), (pw_cell_below hb5 hHeld.2.2.2.2.2.2.2.2.2.2.2.2.1), (pw_cell_below hb5 hHeld.2.2.2.2.2.2.2.2.2.2.2.2.2)⟩ (fun hHeld => ?_)
  clear hK K
  refine norm_ (a' := ?_) ?_ ?_
  rotate_left
  · show Act.put _ (some 21) _ = _
    simp only [Act.put, List.setIfInBounds_toArray, List.set_cons_zero, List.set_cons_succ, i64_w, i32_w]
    rfl
  refine pure_ (i := 9) (N := some 22) (v := ?_) (a' := ?_) #[true, true, true, true, true, true, true, true, true, true, false, false, false, false, false, false, false, false, false] rfl rfl (by kernel_rfl) (fun _ _ _ h => h) (Or.inl ⟨by rfl, ?_⟩) ?_ ?_
  rotate_left
  · intro w'
    go_simp
    with_reducible rfl
  rotate_left
  · simp only [Act.put, List.setIfInBounds_toArray, List.set_cons_zero, List.set_cons_succ, i64_w, i32_w]
    rfl
  refine pure_ (i := 10) (N := some 23) (v := ?_) (a' := ?_) #[true, true, true, true, true, true, true, true, true, true, true, false, false, false, false, false, false, false, false] rfl rfl (by kernel_rfl) (fun _ _ _ h => h) (Or.inl ⟨by rfl, ?_⟩) ?_ ?_
  rotate_left
  · intro w'
    go_simp
    with_reducible rfl
  rotate_left
  · simp only [Act.put, List.setIfInBounds_toArray, List.set_cons_zero, List.set_cons_succ, i64_w, i32_w]
    rfl
  refine pure_ (i := 11) (N := some 24) (v := ?_) (a' := ?_) #[true, true, true, true, true, true, true, true, true, true, true, true, false, false, false, false, false, false, false] rfl rfl (by kernel_rfl) (fun _ _ _ h => h) (Or.inl ⟨by rfl, ?_⟩) ?_ ?_
  rotate_left
  · intro w'
    go_simp
    with_reducible rfl
  rotate_left
  · simp only [Act.put, List.setIfInBounds_toArray, List.set_cons_zero, List.set_cons_succ, i64_w, i32_w]
    rfl
  refine pure_ (i := 12) (N := some 25) (v := ?_) (a' := ?_) #[true, true, true, true, true, true, true, true, true, true, true, true, true, false, false, false, false, false, false] rfl rfl (by kernel_rfl) (fun _ _ _ h => h) (Or.inl ⟨by rfl, ?_⟩) ?_ ?_
  rotate_left
  · intro w'
    go_simp
    with_reducible rfl
  rotate_left
  · simp only [Act.put, List.setIfInBounds_toArray, List.set_cons_zero, List.set_cons_succ, i64_w, i32_w]
    rfl
  refine pure_ (i := 13) (N := some 26) (v := ?_) (a' := ?_) #[true, true, true, true, true, true, true, true, true, true, true, true, true, true, false, false, false, false, false] rfl rfl (by kernel_rfl) (fun _ _ _ h => h) (Or.inl ⟨by rfl, ?_⟩) ?_ ?_
  rotate_left
  · intro w'
    go_simp
    with_reducible rfl
  rotate_left
  · simp only [Act.put, List.setIfInBounds_toArray, List.set_cons_zero, List.set_cons_succ, i64_w, i32_w]
    rfl
  refine pure_ (i := 14) (N := some 27) (v := ?_) (a' := ?_) #[true, true, true, true, true, true, true, true, true, true, true, true, true, true, true, false, false, false, false] rfl rfl (by kernel_rfl) (fun _ _ _ h => h) (Or.inl ⟨by rfl, ?_⟩) ?_ ?_
  rotate_left
  · intro w'
    go_simp
    with_reducible rfl
  rotate_left
  · simp only [Act.put, List.setIfInBounds_toArray, List.set_cons_zero, List.set_cons_succ, i64_w, i32_w]
    rfl
  refine pure_ (i := 15) (N := some 28) (v := undef) (a' := ?_) #[true, true, true, true, true, true, true, true, true, true, true, true, true, true, true, true, false, false, false] rfl rfl (by kernel_rfl) (fun _ _ _ h => h) (Or.inr ⟨by rfl, rfl⟩) ?_ ?_
  rotate_left
  · simp only [Act.put, List.setIfInBounds_toArray, List.set_cons_zero, List.set_cons_succ, i64_w, i32_w]
    rfl
  refine pure_ (i := 16) (N := some 29) (v := undef) (a' := ?_) #[true, true, true, true, true, true, true, true, true, true, true, true, true, true, true, true, true, false, false] rfl rfl (by kernel_rfl) (fun _ _ _ h => h) (Or.inr ⟨by rfl, rfl⟩) ?_ ?_
  rotate_left
  · simp only [Act.put, List.setIfInBounds_toArray, List.set_cons_zero, List.set_cons_succ, i64_w, i32_w]
    rfl
  refine pure_ (i := 17) (N := some 30) (v := ?_) (a' := ?_) #[true, true, true, true, true, true, true, true, true, true, true, true, true, true, true, true, true, true, false] rfl rfl (by kernel_rfl) (fun _ _ _ h => h) (Or.inl ⟨by rfl, ?_⟩) ?_ ?_
  rotate_left
  · intro w'
    go_simp
    with_reducible rfl
  rotate_left
  · simp only [Act.put, List.setIfInBounds_toArray, List.set_cons_zero, List.set_cons_succ, i64_w, i32_w]
    rfl
  refine pure_ (i := 18) (N := some 31) (v := ?_) (a' := ?_) #[true, true, true, true, true, true, true, true, true, true, true, true, true, true, true, true, true, true, true] rfl rfl (by kernel_rfl) (fun _ _ _ h => h) (Or.inl ⟨by rfl, ?_⟩) ?_ ?_
  rotate_left
  · intro w'
    go_simp
    with_reducible rfl
  rotate_left
  · simp only [Act.put, List.setIfInBounds_toArray, List.set_cons_zero, List.set_cons_succ, i64_w, i32_w]
    rfl
  refine done_ (by kernel_rfl) ?_
  have HB5 := Aside0.mk (below_step (below_step (below_step (below_drew HB2.out) hb3) hb4) hb5)
  have HA5 := Aside0.mk (blk_below (blk_below (blk_below (blk_drew HA2.out) hb3) hb4) hb5)
  have HX5 := Aside0.mk (blk_below (blk_below (blk_below (blk_drew HX2.out) hb3) hb4) hb5)
  clear hb3 hb4 hb5 a0 a1 a2 a3 a4 a5 a6 c0 c1 c2 c3 c4 c5 c6
  go_wp2_with fail
  have a0 : (w5).cell? ⟨w1.heap.size, 0, none⟩ = some (.int .i64 y) := blk_cell HA5.out 0
  have a1 : (w5).cell? ⟨w1.heap.size, 1, none⟩ = some (.int .i64 m) := blk_cell HA5.out 1
  have a2 : (w5).cell? ⟨w1.heap.size, 2, none⟩ = some (.int .i64 d) := blk_cell HA5.out 2
  have a3 : (w5).cell? ⟨w1.heap.size, 3, none⟩ = some (.int .i64 h) := blk_cell HA5.out 3
  have a4 : (w5).cell? ⟨w1.heap.size, 4, none⟩ = some (.int .i64 i) := blk_cell HA5.out 4
  have a5 : (w5).cell? ⟨w1.heap.size, 5, none⟩ = some (.int .i64 s) := blk_cell HA5.out 5
  have a6 : (w5).cell? ⟨w1.heap.size, 6, none⟩ = some (.int .i64 u) := blk_cell HA5.out 6
  have c0 : (w5).cell? ⟨w.heap.size, 0, none⟩ = some (.int .i64 y) := blk_cell HX5.out 0
  have c1 : (w5).cell? ⟨w.heap.size, 1, none⟩ = some (.int .i64 m) := blk_cell HX5.out 1
  have c2 : (w5).cell? ⟨w.heap.size, 2, none⟩ = some (.int .i64 d) := blk_cell HX5.out 2
  have c3 : (w5).cell? ⟨w.heap.size, 3, none⟩ = some (.int .i64 h) := blk_cell HX5.out 3
  have c4 : (w5).cell? ⟨w.heap.size, 4, none⟩ = some (.int .i64 i) := blk_cell HX5.out 4
  have c5 : (w5).cell? ⟨w.heap.size, 5, none⟩ = some (.int .i64 s) := blk_cell HX5.out 5
  have c6 : (w5).cell? ⟨w.heap.size, 6, none⟩ = some (.int .i64 u) := blk_cell HX5.out 6
  refine start_ (n := 15) (S := fun w' => w'.cell? ⟨w1.heap.size, 0, none⟩ = some (.int .i64 y) ∧ w'.cell? ⟨w1.heap.size, 1, none⟩ = some (.int .i64 m) ∧ w'.cell? ⟨w1.heap.size, 2, none⟩ = some (.int .i64 d) ∧ w'.cell? ⟨w1.heap.size, 3, none⟩ = some (.int .i64 h) ∧ w'.cell? ⟨w1.heap.size, 4, none⟩ = some (.int .i64 i) ∧ w'.cell? ⟨w1.heap.size, 5, none⟩ = some (.int .i64 s) ∧ w'.cell? ⟨w1.heap.size, 6, none⟩ = some (.int .i64 u) ∧ w'.cell? ⟨w.heap.size, 0, none⟩ = some (.int .i64 y) ∧ w'.cell? ⟨w.heap.size, 1, none⟩ = some (.int .i64 m) ∧ w'.cell? ⟨w.heap.size, 2, none⟩ = some (.int .i64 d) ∧ w'.cell? ⟨w.heap.size, 3, none⟩ = some (.int .i64 h) ∧ w'.cell? ⟨w.heap.size, 4, none⟩ = some (.int .i64 i) ∧ w'.cell? ⟨w.heap.size, 5, none⟩ = some (.int .i64 s) ∧ w'.cell? ⟨w.heap.size, 6, none⟩ = some (.int .i64 u)) (ds := []) #[false, false, false, false, false, false, false, false, false, false, false, false, false, false, false] (by kernel_rfl) rfl rfl ⟨a0, a1, a2, a3, a4, a5, a6, c0, c1, c2, c3, c4, c5, c6⟩ (fun hHeld => ?_)
  refine pure_ (i := 0) (N := some 35) (v := ?_) (a' := ?_) #[true, false, false, false, false, false, false, false, false, false, false, false, false, false, false] rfl rfl (by kernel_rfl) (fun _ _ _ h => h) (Or.inl ⟨by rfl, ?_⟩) ?_ ?_
  rotate_left
  · intro w'
    go_simp
    with_reducible rfl
  rotate_left
  · simp only [Act.put, List.setIfInBounds_toArray, List.set_cons_zero, List.set_cons_succ, i64_w, i32_w]
    rfl
  refine take_ (i := 1) (N := some 36) (v := ?_) (a' := ?_) #[true, true, false, false, false, false, false, false, false, false, false, false, false, false, false] rfl rfl (by kernel_rfl) (fun _ _ _ h => h) (Or.inl ⟨by rfl, ?_⟩) hHeld ?_ ?_
  rotate_left
  · rintro w' ⟨s0, s1, s2, s3, s4, s5, s6, s7, s8, s9, s10, s11, s12, s13⟩
    go_simp
    with_reducible rfl
  rotate_left
  · simp only [Act.put, List.setIfInBounds_toArray, List.set_cons_zero, List.set_cons_succ, i64_w, i32_w]
    rfl
  refine one_ (i := 2) (N := some 37) #[true, true, true, false, false, false, false, false, false, false, false, false, false, false, false] rfl rfl (by kernel_rfl) (by decide) (fun K hK => ?_)
  refine goes_ Try.func26 (by kernel_rfl) rfl #[.agg #[.int .i64 y, .int .i64 m, .int .i64 d, .int .i64 h, .int .i64 i, .int .i64 s, .int .i64 u]] (by rfl) rfl rfl (by (try simp only [List.map_toArray, List.map_cons, List.map_nil]); first | done | rfl) ?_
  with_reducible refine (ref_Micros_calls y m d h i s u _ HR.out).mono ?_
  rintro e w6 ⟨rfl, hb6⟩
  refine ⟨_, rfl, ?_⟩
  rw [HM.out]
  refine hK.out _ _ ⟨(pw_cell_below hb6 hHeld.1), (pw_cell_below hb6 hHeld.2.1), (pw_cell_below hb6 hHeld.2.2.1), (pw_cell_below hb6 hHeld.2.2.2.1), (pw_cell_below hb6 hHeld.2.2.2.2.1), (pw_cell_below hb6 hHeld.2.2.2.2.2.1), (pw_cell_below hb6 hHeld.2.2.2.2.2.2.1), (pw_cell_below hb6 hHeld.2.2.2.2.2.2.2.1), (pw_cell_below hb6 hHeld.2.2.2.2.2.2.2.2.1), (pw_cell_below hb6 hHeld.2.2.2.2.2.2.2.2.2.1), (pw_cell_below hb6 hHeld.2.2.2.2.2.2.2.2.2.2.1), (pw_cell_below hb6 hHeld.2.2.2.2.2.2.2.2.2.2.2.1), (pw_cell_below hb6 hHeld.2.2.2.2.2.2.2.2.2.2.2.2.1), (pw_cell_below hb6 hHeld.2.2.2.2.2.2.2.2.2.2.2.2.2)⟩ (fun hHeld => ?_)
  clear hK K
  refine norm_ (a' := ?_) ?_ ?_
  rotate_left
  · show Act.put _ (some 37) _ = _
    simp only [Act.put, List.setIfInBounds_toArray, List.set_cons_zero, List.set_cons_succ, i64_w, i32_w]
    rfl
  refine pure_ (i := 3) (N := some 38) (v := ?_) (a' := ?_) #[true, true, true, true, false, false, false, false, false, false, false, false, false, false, false] rfl rfl (by kernel_rfl) (fun _ _ _ h => h) (Or.inl ⟨by rfl, ?_⟩) ?_ ?_
  rotate_left
  · intro w'
    go_simp
    with_reducible rfl
  rotate_left
  · simp only [Act.put, List.setIfInBounds_toArray, List.set_cons_zero, List.set_cons_succ, i64_w, i32_w]
    rfl
  refine pure_ (i := 4) (N := some 39) (v := ?_) (a' := ?_) #[true, true, true, true, true, false, false, false, false, false, false, false, false, false, false] rfl rfl (by kernel_rfl) (fun _ _ _ h => h) (Or.inl ⟨by rfl, ?_⟩) ?_ ?_
  rotate_left
  · intro w'
    go_simp
    with_reducible rfl
  rotate_left
  · simp only [Act.put, List.setIfInBounds_toArray, List.set_cons_zero, List.set_cons_succ, i64_w, i32_w]
    rfl
  refine take_ (i := 5) (N := some 40) (v := ?_) (a' := ?_) #[true, true, true, true, true, true, false, false, false, false, false, false, false, false, false] rfl rfl (by kernel_rfl) (fun _ _ _ h => h) (Or.inl ⟨by rfl, ?_⟩) hHeld ?_ ?_
  rotate_left
  · rintro w' ⟨s0, s1, s2, s3, s4, s5, s6, s7, s8, s9, s10, s11, s12, s13⟩
    go_simp
    with_reducible rfl
  rotate_left
  · simp only [Act.put, List.setIfInBounds_toArray, List.set_cons_zero, List.set_cons_succ, i64_w, i32_w]
    rfl
  refine take_ (i := 7) (N := some 42) (v := ?_) (a' := ?_) #[true, true, true, true, true, true, false, true, false, false, false, false, false, false, false] rfl rfl (by kernel_rfl) (fun _ _ _ h => h) (Or.inl ⟨by rfl, ?_⟩) hHeld ?_ ?_
  rotate_left
  · rintro w' ⟨s0, s1, s2, s3, s4, s5, s6, s7, s8, s9, s10, s11, s12, s13⟩
    go_simp
    with_reducible rfl
  rotate_left
  · simp only [Act.put, List.setIfInBounds_toArray, List.set_cons_zero, List.set_cons_succ, i64_w, i32_w]
    rfl
  refine one_ (i := 6) (N := some 41) #[true, true, true, true, true, true, true, true, false, false, false, false, false, false, false] rfl rfl (by kernel_rfl) (by decide) (fun K hK => ?_)
  refine goes_ Try.func27 (by kernel_rfl) rfl #[.agg #[.int .i64 y, .int .i64 m, .int .i64 d, .int .i64 h, .int .i64 i, .int .i64 s, .int .i64 u]] (by rfl) rfl rfl (by (try simp only [List.map_toArray, List.map_cons, List.map_nil]); first | done | rfl) ?_
  with_reducible refine (civil_Weekday_calls y m d h i s u _ HR.out).mono ?_
  rintro e w7 ⟨rfl, hb7⟩
  refine ⟨_, rfl, ?_⟩
  rw [HM.out, HW.out]
  refine hK.out _ _ ⟨(pw_cell_below hb7 hHeld.1), (pw_cell_below hb7 hHeld.2.1), (pw_cell_below hb7 hHeld.2.2.1), (pw_cell_below hb7 hHeld.2.2.2.1), (pw_cell_below hb7 hHeld.2.2.2.2.1), (pw_cell_below hb7 hHeld.2.2.2.2.2.1), (pw_cell_below hb7 hHeld.2.2.2.2.2.2.1), (pw_cell_below hb7 hHeld.2.2.2.2.2.2.2.1), (pw_cell_below hb7 hHeld.2.2.2.2.2.2.2.2.1), (pw_cell_below hb7 hHeld.2.2.2.2.2.2.2.2.2.1), (pw_cell_below hb7 hHeld.2.2.2.2.2.2.2.2.2.2.1), (pw_cell_below hb7 hHeld.2.2.2.2.2.2.2.2.2.2.2.1), (pw_cell_below hb7 hHeld.2.2.2.2.2.2.2.2.2.2.2.2.1), (pw_cell_below hb7 hHeld.2.2.2.2.2.2.2.2.2.2.2.2.2)⟩ (fun hHeld => ?_)
  clear hK K
  refine norm_ (a' := ?_) ?_ ?_
  rotate_left
  · show Act.put _ (some 41) _ = _
    simp only [Act.put, List.setIfInBounds_toArray, List.set_cons_zero, List.set_cons_succ, i64_w, i32_w]
    rfl
  refine one_ (i := 8) (N := some 43) #[true, true, true, true, true, true, true, true, true, false, false, false, false, false, false] rfl rfl (by kernel_rfl) (by decide) (fun K hK => ?_)
  refine goes_ Try.func28 (by kernel_rfl) rfl #[.agg #[.int .i64 y, .int .i64 m, .int .i64 d, .int .i64 h, .int .i64 i, .int .i64 s, .int .i64 u]] (by rfl) rfl rfl (by (try simp only [List.map_toArray, List.map_cons, List.map_nil]); first | done | rfl) ?_
  with_reducible refine (ref_Weekday_calls y m d h i s u _ HR.out).mono ?_
  rintro e w8 ⟨rfl, hb8⟩
  refine ⟨_, rfl, ?_⟩
  rw [HM.out, HW.out]
  refine hK.out _ _ ⟨(pw_cell_below hb8 hHeld.1), (pw_cell_below hb8 hHeld.2.1), (pw_cell_below hb8 hHeld.2.2.1), (pw_cell_below hb8 hHeld.2.2.2.1), (pw_cell_below hb8 hHeld.2.2.2.2.1), (pw_cell_below hb8 hHeld.2.2.2.2.2.1), (pw_cell_below hb8 hHeld.2.2.2.2.2.2.1), (pw_cell_below hb8 hHeld.2.2.2.2.2.2.2.1), (pw_cell_below hb8 hHeld.2.2.2.2.2.2.2.2.1), (pw_cell_below hb8 hHeld.2.2.2.2.2.2.2.2.2.1), (pw_cell_below hb8 hHeld.2.2.2.2.2.2.2.2.2.2.1), (pw_cell_below hb8 hHeld.2.2.2.2.2.2.2.2.2.2.2.1), (pw_cell_below hb8 hHeld.2.2.2.2.2.2.2.2.2.2.2.2.1), (pw_cell_below hb8 hHeld.2.2.2.2.2.2.2.2.2.2.2.2.2)⟩ (fun hHeld => ?_)
  clear hK K
  refine norm_ (a' := ?_) ?_ ?_
  rotate_left
  · show Act.put _ (some 43) _ = _
    simp only [Act.put, List.setIfInBounds_toArray, List.set_cons_zero, List.set_cons_succ, i64_w, i32_w]
    rfl
  refine pure_ (i := 9) (N := some 44) (v := ?_) (a' := ?_) #[true, true, true, true, true, true, true, true, true, true, false, false, false, false, false] rfl rfl (by kernel_rfl) (fun _ _ _ h => h) (Or.inl ⟨by rfl, ?_⟩) ?_ ?_
  rotate_left
  · intro w'
    go_simp
    with_reducible rfl
  rotate_left
  · simp only [Act.put, List.setIfInBounds_toArray, List.set_cons_zero, List.set_cons_succ, i64_w, i32_w]
    rfl
  refine pure_ (i := 10) (N := some 45) (v := ?_) (a' := ?_) #[true, true, true, true, true, true, true, true, true, true, true, false, false, false, false] rfl rfl (by kernel_rfl) (fun _ _ _ h => h) (Or.inl ⟨by rfl, ?_⟩) ?_ ?_
  rotate_left
  · intro w'
    go_simp
    with_reducible rfl
  rotate_left
  · simp only [Act.put, List.setIfInBounds_toArray, List.set_cons_zero, List.set_cons_succ, i64_w, i32_w]
    rfl
  refine pure_ (i := 11) (N := some 46) (v := ?_) (a' := ?_) #[true, true, true, true, true, true, true, true, true, true, true, true, false, false, false] rfl rfl (by kernel_rfl) (fun _ _ _ h => h) (Or.inl ⟨by rfl, ?_⟩) ?_ ?_
  rotate_left
  · intro w'
    go_simp
    with_reducible rfl
  rotate_left
  · simp only [Act.put, List.setIfInBounds_toArray, List.set_cons_zero, List.set_cons_succ, i64_w, i32_w]
    rfl
  refine one_ (i := 12) (N := some 47) #[true, true, true, true, true, true, true, true, true, true, true, true, true, false, false] rfl rfl (by kernel_rfl) (by decide) (fun K hK => ?_)
  refine goes_ Try.func19 (by kernel_rfl) rfl #[] (by rfl) rfl rfl (by (try simp only [List.map_toArray, List.map_cons, List.map_nil]); first | done | rfl) ?_
  with_reducible refine (civ_awake_calls _).mono ?_
  rintro e w9 ⟨rfl, hb9⟩
  refine ⟨_, rfl, ?_⟩
  refine hK.out _ _ ⟨(pw_cell_below hb9 hHeld.1), (pw_cell_below hb9 hHeld.2.1), (pw_cell_below hb9 hHeld.2.2.1), (pw_cell_below hb9 hHeld.2.2.2.1), (pw_cell_below hb9 hHeld.2.2.2.2.1), (pw_cell_below hb9 hHeld.2.2.2.2.2.1), (pw_cell_below hb9 hHeld.2.2.2.2.2.2.1), (pw_cell_below hb9 hHeld.2.2.2.2.2.2.2.1), (pw_cell_below hb9 hHeld.2.2.2.2.2.2.2.2.1), (pw_cell_below hb9 hHeld.2.2.2.2.2.2.2.2.2.1), (pw_cell_below hb9 hHeld.2.2.2.2.2.2.2.2.2.2.1), (pw_cell_below hb9 hHeld.2.2.2.2.2.2.2.2.2.2.2.1), (pw_cell_below hb9 hHeld.2.2.2.2.2.2.2.2.2.2.2.2.1), (pw_cell_below hb9 hHeld.2.2.2.2.2.2.2.2.2.2.2.2.2)⟩ (fun hHeld => ?_)
  clear hK K
  refine norm_ (a' := ?_) ?_ ?_
  rotate_left
  · show Act.put _ (some 47) _ = _
    simp only [Act.put, List.setIfInBounds_toArray, List.set_cons_zero, List.set_cons_succ, i64_w, i32_w]
    rfl
  refine pure_ (i := 13) (N := some 48) (v := ?_) (a' := ?_) #[true, true, true, true, true, true, true, true, true, true, true, true, true, true, false] rfl rfl (by kernel_rfl) (fun _ _ _ h => h) (Or.inl ⟨by rfl, ?_⟩) ?_ ?_
  rotate_left
  · intro w'
    go_simp
    with_reducible rfl
  rotate_left
  · simp only [Act.put, List.setIfInBounds_toArray, List.set_cons_zero, List.set_cons_succ, i64_w, i32_w]
    rfl
  refine pure_ (i := 14) (N := some 2) (v := ?_) (a' := ?_) #[true, true, true, true, true, true, true, true, true, true, true, true, true, true, true] rfl rfl (by kernel_rfl) (fun _ _ _ h => h) (Or.inl ⟨by rfl, ?_⟩) ?_ ?_
  rotate_left
  · intro w'
    go_simp
    with_reducible rfl
  rotate_left
  · simp only [Act.put, List.setIfInBounds_toArray, List.set_cons_zero, List.set_cons_succ, i64_w, i32_w]
    rfl
  refine done_ (by kernel_rfl) ?_
  have HB9 := Aside0.mk (below_step (below_step (below_step (below_step (below_drew HB5.out) hb6) hb7) hb8) hb9)
  clear hb6 hb7 hb8 hb9
  go_wp2
  go_ret
  exact ⟨rfl, HB9.out⟩
set_option maxHeartbeats 8000000 in
set_option maxRecDepth 100000 in
theorem CivilCounts_no (y m d h i s u : Int) (w : World) (hr : rightB y m d h i s u = false) : Calls Try.prog 5 #[.agg #[.int .i64 y, .int .i64 m, .int .i64 d, .int .i64 h, .int .i64 i, .int .i64 s, .int .i64 u]] w fun e w' => e = .returned (.bool true) ∧ Below w.heap.size w w' := by
  have HR := Aside0.mk hr
  obtain ⟨M, hM⟩ : ∃ M, microsZ y m d h i s u = M := ⟨_, rfl⟩
  obtain ⟨W, hW⟩ : ∃ W, (M / 86400000000 + 4) % 7 = W := ⟨_, rfl⟩
  have HM := Aside0.mk hM
  have HW := Aside0.mk hW
  have hmm : (M == M) = true := by simp
  have hww : (W == W) = true := by simp
  have HX0 := Aside0.mk (blk_new w (.cells #[.int .i64 y, .int .i64 m, .int .i64 d, .int .i64 h, .int .i64 i, .int .i64 s, .int .i64 u] 31))
  clear hr hM hW
  go_enter Try.func5, Try.ntmps5
  go_wp2_with fail
  refine (civ_to_calls y m d h i s u _).mono ?_
  rintro e w1 ⟨rfl, hb⟩
  have HB1 := Aside0.mk (below_alloc (below_step (below_alloc (Below.refl _ _) _) hb) (.cells #[.int .i64 y, .int .i64 m, .int .i64 d, .int .i64 h, .int .i64 i, .int .i64 s, .int .i64 u] 28))
  have HA1 := Aside0.mk (blk_new w1 (.cells #[.int .i64 y, .int .i64 m, .int .i64 d, .int .i64 h, .int .i64 i, .int .i64 s, .int .i64 u] 28))
  have HX1 := Aside0.mk (blk_alloc (blk_below HX0.out hb) (.cells #[.int .i64 y, .int .i64 m, .int .i64 d, .int .i64 h, .int .i64 i, .int .i64 s, .int .i64 u] 28))
  clear hb
  go_wp2_with fail
  refine (civil_Micros_no y m d h i s u _ HR.out).mono ?_
  rintro e w2 ⟨rfl, hb⟩
  have HB2 := Aside0.mk (below_step HB1.out hb)
  have HA2 := Aside0.mk (blk_below HA1.out hb)
  have HX2 := Aside0.mk (blk_below HX1.out hb)
  clear hb
  go_wp2_with fail
  have a0 : (w2).cell? ⟨w1.heap.size, 0, none⟩ = some (.int .i64 y) := blk_cell HA2.out 0
  have a1 : (w2).cell? ⟨w1.heap.size, 1, none⟩ = some (.int .i64 m) := blk_cell HA2.out 1
  have a2 : (w2).cell? ⟨w1.heap.size, 2, none⟩ = some (.int .i64 d) := blk_cell HA2.out 2
  have a3 : (w2).cell? ⟨w1.heap.size, 3, none⟩ = some (.int .i64 h) := blk_cell HA2.out 3
  have a4 : (w2).cell? ⟨w1.heap.size, 4, none⟩ = some (.int .i64 i) := blk_cell HA2.out 4
  have a5 : (w2).cell? ⟨w1.heap.size, 5, none⟩ = some (.int .i64 s) := blk_cell HA2.out 5
  have a6 : (w2).cell? ⟨w1.heap.size, 6, none⟩ = some (.int .i64 u) := blk_cell HA2.out 6
  have c0 : (w2).cell? ⟨w.heap.size, 0, none⟩ = some (.int .i64 y) := blk_cell HX2.out 0
  have c1 : (w2).cell? ⟨w.heap.size, 1, none⟩ = some (.int .i64 m) := blk_cell HX2.out 1
  have c2 : (w2).cell? ⟨w.heap.size, 2, none⟩ = some (.int .i64 d) := blk_cell HX2.out 2
  have c3 : (w2).cell? ⟨w.heap.size, 3, none⟩ = some (.int .i64 h) := blk_cell HX2.out 3
  have c4 : (w2).cell? ⟨w.heap.size, 4, none⟩ = some (.int .i64 i) := blk_cell HX2.out 4
  have c5 : (w2).cell? ⟨w.heap.size, 5, none⟩ = some (.int .i64 s) := blk_cell HX2.out 5
  have c6 : (w2).cell? ⟨w.heap.size, 6, none⟩ = some (.int .i64 u) := blk_cell HX2.out 6
  refine start_ (n := 19) (S := fun w' => w'.cell? ⟨w1.heap.size, 0, none⟩ = some (.int .i64 y) ∧ w'.cell? ⟨w1.heap.size, 1, none⟩ = some (.int .i64 m) ∧ w'.cell? ⟨w1.heap.size, 2, none⟩ = some (.int .i64 d) ∧ w'.cell? ⟨w1.heap.size, 3, none⟩ = some (.int .i64 h) ∧ w'.cell? ⟨w1.heap.size, 4, none⟩ = some (.int .i64 i) ∧ w'.cell? ⟨w1.heap.size, 5, none⟩ = some (.int .i64 s) ∧ w'.cell? ⟨w1.heap.size, 6, none⟩ = some (.int .i64 u) ∧ w'.cell? ⟨w.heap.size, 0, none⟩ = some (.int .i64 y) ∧ w'.cell? ⟨w.heap.size, 1, none⟩ = some (.int .i64 m) ∧ w'.cell? ⟨w.heap.size, 2, none⟩ = some (.int .i64 d) ∧ w'.cell? ⟨w.heap.size, 3, none⟩ = some (.int .i64 h) ∧ w'.cell? ⟨w.heap.size, 4, none⟩ = some (.int .i64 i) ∧ w'.cell? ⟨w.heap.size, 5, none⟩ = some (.int .i64 s) ∧ w'.cell? ⟨w.heap.size, 6, none⟩ = some (.int .i64 u)) (ds := []) #[false, false, false, false, false, false, false, false, false, false, false, false, false, false, false, false, false, false, false] (by kernel_rfl) rfl rfl ⟨a0, a1, a2, a3, a4, a5, a6, c0, c1, c2, c3, c4, c5, c6⟩ (fun hHeld => ?_)
  refine take_ (i := 0) (N := some 13) (v := ?_) (a' := ?_) #[true, false, false, false, false, false, false, false, false, false, false, false, false, false, false, false, false, false, false] rfl rfl (by kernel_rfl) (fun _ _ _ h => h) (Or.inl ⟨by rfl, ?_⟩) hHeld ?_ ?_
  rotate_left
  · rintro w' ⟨s0, s1, s2, s3, s4, s5, s6, s7, s8, s9, s10, s11, s12, s13⟩
    go_simp
    with_reducible rfl
  rotate_left
  · simp only [Act.put, List.setIfInBounds_toArray, List.set_cons_zero, List.set_cons_succ, i64_w, i32_w]
    rfl
  refine take_ (i := 2) (N := some 15) (v := ?_) (a' := ?_) #[true, false, true, false, false, false, false, false, false, false, false, false, false, false, false, false, false, false, false] rfl rfl (by kernel_rfl) (fun _ _ _ h => h) (Or.inl ⟨by rfl, ?_⟩) hHeld ?_ ?_
  rotate_left
  · rintro w' ⟨s0, s1, s2, s3, s4, s5, s6, s7, s8, s9, s10, s11, s12, s13⟩
    go_simp
    with_reducible rfl
  rotate_left
  · simp only [Act.put, List.setIfInBounds_toArray, List.set_cons_zero, List.set_cons_succ, i64_w, i32_w]
    rfl
  refine one_ (i := 1) (N := some 14) #[true, true, true, false, false, false, false, false, false, false, false, false, false, false, false, false, false, false, false] rfl rfl (by kernel_rfl) (by decide) (fun K hK => ?_)
  refine goes_ Try.func24 (by kernel_rfl) rfl #[.agg #[.int .i64 y, .int .i64 m, .int .i64 d, .int .i64 h, .int .i64 i, .int .i64 s, .int .i64 u]] (by rfl) rfl rfl (by (try simp only [List.map_toArray, List.map_cons, List.map_nil]); first | done | rfl) ?_
  with_reducible refine (civil_Right_calls y m d h i s u _).mono ?_
  rintro e w3 ⟨rfl, hb3⟩
  refine ⟨_, rfl, ?_⟩
  rw [HR.out]
  refine hK.out _ _ ⟨(pw_cell_below hb3 hHeld.1), (pw_cell_below hb3 hHeld.2.1), (pw_cell_below hb3 hHeld.2.2.1), (pw_cell_below hb3 hHeld.2.2.2.1), (pw_cell_below hb3 hHeld.2.2.2.2.1), (pw_cell_below hb3 hHeld.2.2.2.2.2.1), (pw_cell_below hb3 hHeld.2.2.2.2.2.2.1), (pw_cell_below hb3 hHeld.2.2.2.2.2.2.2.1), (pw_cell_below hb3 hHeld.2.2.2.2.2.2.2.2.1), (pw_cell_below hb3 hHeld.2.2.2.2.2.2.2.2.2.1), (pw_cell_below hb3 hHeld.2.2.2.2.2.2.2.2.2.2.1), (pw_cell_below hb3 hHeld.2.2.2.2.2.2.2.2.2.2.2.1), (pw_cell_below hb3 hHeld.2.2.2.2.2.2.2.2.2.2.2.2.1), (pw_cell_below hb3 hHeld.2.2.2.2.2.2.2.2.2.2.2.2.2)⟩ (fun hHeld => ?_)
  clear hK K
  refine norm_ (a' := ?_) ?_ ?_
  rotate_left
  · show Act.put _ (some 14) _ = _
    simp only [Act.put, List.setIfInBounds_toArray, List.set_cons_zero, List.set_cons_succ, i64_w, i32_w]
    rfl
  refine one_ (i := 3) (N := some 16) #[true, true, true, true, false, false, false, false, false, false, false, false, false, false, false, false, false, false, false] rfl rfl (by kernel_rfl) (by decide) (fun K hK => ?_)
  refine goes_ Try.func25 (by kernel_rfl) rfl #[.agg #[.int .i64 y, .int .i64 m, .int .i64 d, .int .i64 h, .int .i64 i, .int .i64 s, .int .i64 u]] (by rfl) rfl rfl (by (try simp only [List.map_toArray, List.map_cons, List.map_nil]); first | done | rfl) ?_
  with_reducible refine (ref_Right_calls y m d h i s u _).mono ?_
  rintro e w4 ⟨rfl, hb4⟩
  refine ⟨_, rfl, ?_⟩
  rw [HR.out]
  refine hK.out _ _ ⟨(pw_cell_below hb4 hHeld.1), (pw_cell_below hb4 hHeld.2.1), (pw_cell_below hb4 hHeld.2.2.1), (pw_cell_below hb4 hHeld.2.2.2.1), (pw_cell_below hb4 hHeld.2.2.2.2.1), (pw_cell_below hb4 hHeld.2.2.2.2.2.1), (pw_cell_below hb4 hHeld.2.2.2.2.2.2.1), (pw_cell_below hb4 hHeld.2.2.2.2.2.2.2.1), (pw_cell_below hb4 hHeld.2.2.2.2.2.2.2.2.1), (pw_cell_below hb4 hHeld.2.2.2.2.2.2.2.2.2.1), (pw_cell_below hb4 hHeld.2.2.2.2.2.2.2.2.2.2.1), (pw_cell_below hb4 hHeld.2.2.2.2.2.2.2.2.2.2.2.1), (pw_cell_below hb4 hHeld.2.2.2.2.2.2.2.2.2.2.2.2.1), (pw_cell_below hb4 hHeld.2.2.2.2.2.2.2.2.2.2.2.2.2)⟩ (fun hHeld => ?_)
  clear hK K
  refine norm_ (a' := ?_) ?_ ?_
  rotate_left
  · show Act.put _ (some 16) _ = _
    simp only [Act.put, List.setIfInBounds_toArray, List.set_cons_zero, List.set_cons_succ, i64_w, i32_w]
    rfl
  refine pure_ (i := 4) (N := some 17) (v := ?_) (a' := ?_) #[true, true, true, true, true, false, false, false, false, false, false, false, false, false, false, false, false, false, false] rfl rfl (by kernel_rfl) (fun _ _ _ h => h) (Or.inl ⟨by rfl, ?_⟩) ?_ ?_
  rotate_left
  · intro w'
    go_simp
    with_reducible rfl
  rotate_left
  · simp only [Act.put, List.setIfInBounds_toArray, List.set_cons_zero, List.set_cons_succ, i64_w, i32_w]
    rfl
  refine pure_ (i := 5) (N := some 18) (v := ?_) (a' := ?_) #[true, true, true, true, true, true, false, false, false, false, false, false, false, false, false, false, false, false, false] rfl rfl (by kernel_rfl) (fun _ _ _ h => h) (Or.inl ⟨by rfl, ?_⟩) ?_ ?_
  rotate_left
  · intro w'
    go_simp
    with_reducible rfl
  rotate_left
  · simp only [Act.put, List.setIfInBounds_toArray, List.set_cons_zero, List.set_cons_succ, i64_w, i32_w]
    rfl
  refine pure_ (i := 6) (N := some 19) (v := ?_) (a' := ?_) #[true, true, true, true, true, true, true, false, false, false, false, false, false, false, false, false, false, false, false] rfl rfl (by kernel_rfl) (fun _ _ _ h => h) (Or.inl ⟨by rfl, ?_⟩) ?_ ?_
  rotate_left
  · intro w'
    go_simp
    with_reducible rfl
  rotate_left
  · simp only [Act.put, List.setIfInBounds_toArray, List.set_cons_zero, List.set_cons_succ, i64_w, i32_w]
    rfl
  refine take_ (i := 7) (N := some 20) (v := ?_) (a' := ?_) #[true, true, true, true, true, true, true, true, false, false, false, false, false, false, false, false, false, false, false] rfl rfl (by kernel_rfl) (fun _ _ _ h => h) (Or.inl ⟨by rfl, ?_⟩) hHeld ?_ ?_
  rotate_left
  · rintro w' ⟨s0, s1, s2, s3, s4, s5, s6, s7, s8, s9, s10, s11, s12, s13⟩
    go_simp
    with_reducible rfl
  rotate_left
  · simp only [Act.put, List.setIfInBounds_toArray, List.set_cons_zero, List.set_cons_succ, i64_w, i32_w]
    rfl
  refine one_ (i := 8) (N := some 21) #[true, true, true, true, true, true, true, true, true, false, false, false, false, false, false, false, false, false, false] rfl rfl (by kernel_rfl) (by decide) (fun K hK => ?_)
  refine goes_ Try.func25 (by kernel_rfl) rfl #[.agg #[.int .i64 y, .int .i64 m, .int .i64 d, .int .i64 h, .int .i64 i, .int .i64 s, .int .i64 u]] (by rfl) rfl rfl (by (try simp only [List.map_toArray, List.map_cons, List.map_nil]); first | done | rfl) ?_
  with_reducible refine (ref_Right_calls y m d h i s u _).mono ?_
  rintro e w5 ⟨rfl, hb5⟩
  refine ⟨_, rfl, ?_⟩
  rw [HR.out]
  refine hK.out _ _ ⟨(pw_cell_below hb5 hHeld.1), (pw_cell_below hb5 hHeld.2.1), (pw_cell_below hb5 hHeld.2.2.1), (pw_cell_below hb5 hHeld.2.2.2.1), (pw_cell_below hb5 hHeld.2.2.2.2.1), (pw_cell_below hb5 hHeld.2.2.2.2.2.1), (pw_cell_below hb5 hHeld.2.2.2.2.2.2.1), (pw_cell_below hb5 hHeld.2.2.2.2.2.2.2.1), (pw_cell_below hb5 hHeld.2.2.2.2.2.2.2.2.1), (pw_cell_below hb5 hHeld.2.2.2.2.2.2.2.2.2.1), (pw_cell_below hb5 hHeld.2.2.2.2.2.2.2.2.2.2.1), (pw_cell_below hb5 hHeld.2.2.2.2.2.2.2.2.2.2.2.1), (pw_cell_below hb5 hHeld.2.2.2.2.2.2.2.2.2.2.2.2.1), (pw_cell_below hb5 hHeld.2.2.2.2.2.2.2.2.2.2.2.2.2)⟩ (fun hHeld => ?_)
  clear hK K
  refine norm_ (a' := ?_) ?_ ?_
  rotate_left
  · show Act.put _ (some 21) _ = _
    simp only [Act.put, List.setIfInBounds_toArray, List.set_cons_zero, List.set_cons_succ, i64_w, i32_w]
    rfl
  refine pure_ (i := 9) (N := some 22) (v := ?_) (a' := ?_) #[true, true, true, true, true, true, true, true, true, true, false, false, false, false, false, false, false, false, false] rfl rfl (by kernel_rfl) (fun _ _ _ h => h) (Or.inl ⟨by rfl, ?_⟩) ?_ ?_
  rotate_left
  · intro w'
    go_simp
    with_reducible rfl
  rotate_left
  · simp only [Act.put, List.setIfInBounds_toArray, List.set_cons_zero, List.set_cons_succ, i64_w, i32_w]
    rfl
  refine pure_ (i := 10) (N := some 23) (v := ?_) (a' := ?_) #[true, true, true, true, true, true, true, true, true, true, true, false, false, false, false, false, false, false, false] rfl rfl (by kernel_rfl) (fun _ _ _ h => h) (Or.inl ⟨by rfl, ?_⟩) ?_ ?_
  rotate_left
  · intro w'
    go_simp
    with_reducible rfl
  rotate_left
  · simp only [Act.put, List.setIfInBounds_toArray, List.set_cons_zero, List.set_cons_succ, i64_w, i32_w]
    rfl
  refine pure_ (i := 11) (N := some 24) (v := ?_) (a' := ?_) #[true, true, true, true, true, true, true, true, true, true, true, true, false, false, false, false, false, false, false] rfl rfl (by kernel_rfl) (fun _ _ _ h => h) (Or.inl ⟨by rfl, ?_⟩) ?_ ?_
  rotate_left
  · intro w'
    go_simp
    with_reducible rfl
  rotate_left
  · simp only [Act.put, List.setIfInBounds_toArray, List.set_cons_zero, List.set_cons_succ, i64_w, i32_w]
    rfl
  refine pure_ (i := 12) (N := some 25) (v := ?_) (a' := ?_) #[true, true, true, true, true, true, true, true, true, true, true, true, true, false, false, false, false, false, false] rfl rfl (by kernel_rfl) (fun _ _ _ h => h) (Or.inl ⟨by rfl, ?_⟩) ?_ ?_
  rotate_left
  · intro w'
    go_simp
    with_reducible rfl
  rotate_left
  · simp only [Act.put, List.setIfInBounds_toArray, List.set_cons_zero, List.set_cons_succ, i64_w, i32_w]
    rfl
  refine pure_ (i := 13) (N := some 26) (v := ?_) (a' := ?_) #[true, true, true, true, true, true, true, true, true, true, true, true, true, true, false, false, false, false, false] rfl rfl (by kernel_rfl) (fun _ _ _ h => h) (Or.inl ⟨by rfl, ?_⟩) ?_ ?_
  rotate_left
  · intro w'
    go_simp
    with_reducible rfl
  rotate_left
  · simp only [Act.put, List.setIfInBounds_toArray, List.set_cons_zero, List.set_cons_succ, i64_w, i32_w]
    rfl
  refine pure_ (i := 14) (N := some 27) (v := ?_) (a' := ?_) #[true, true, true, true, true, true, true, true, true, true, true, true, true, true, true, false, false, false, false] rfl rfl (by kernel_rfl) (fun _ _ _ h => h) (Or.inl ⟨by rfl, ?_⟩) ?_ ?_
  rotate_left
  · intro w'
    go_simp
    with_reducible rfl
  rotate_left
  · simp only [Act.put, List.setIfInBounds_toArray, List.set_cons_zero, List.set_cons_succ, i64_w, i32_w]
    rfl
  refine pure_ (i := 15) (N := some 28) (v := ?_) (a' := ?_) #[true, true, true, true, true, true, true, true, true, true, true, true, true, true, true, true, false, false, false] rfl rfl (by kernel_rfl) (fun _ _ _ h => h) (Or.inl ⟨by rfl, ?_⟩) ?_ ?_
  rotate_left
  · intro w'
    go_simp
    with_reducible rfl
  rotate_left
  · simp only [Act.put, List.setIfInBounds_toArray, List.set_cons_zero, List.set_cons_succ, i64_w, i32_w]
    rfl
  refine pure_ (i := 16) (N := some 29) (v := ?_) (a' := ?_) #[true, true, true, true, true, true, true, true, true, true, true, true, true, true, true, true, true, false, false] rfl rfl (by kernel_rfl) (fun _ _ _ h => h) (Or.inl ⟨by rfl, ?_⟩) ?_ ?_
  rotate_left
  · intro w'
    go_simp
    with_reducible rfl
  rotate_left
  · simp only [Act.put, List.setIfInBounds_toArray, List.set_cons_zero, List.set_cons_succ, i64_w, i32_w]
    rfl
  refine pure_ (i := 17) (N := some 30) (v := ?_) (a' := ?_) #[true, true, true, true, true, true, true, true, true, true, true, true, true, true, true, true, true, true, false] rfl rfl (by kernel_rfl) (fun _ _ _ h => h) (Or.inl ⟨by rfl, ?_⟩) ?_ ?_
  rotate_left
  · intro w'
    go_simp
    with_reducible rfl
  rotate_left
  · simp only [Act.put, List.setIfInBounds_toArray, List.set_cons_zero, List.set_cons_succ, i64_w, i32_w]
    rfl
  refine pure_ (i := 18) (N := some 31) (v := ?_) (a' := ?_) #[true, true, true, true, true, true, true, true, true, true, true, true, true, true, true, true, true, true, true] rfl rfl (by kernel_rfl) (fun _ _ _ h => h) (Or.inl ⟨by rfl, ?_⟩) ?_ ?_
  rotate_left
  · intro w'
    go_simp
    with_reducible rfl
  rotate_left
  · simp only [Act.put, List.setIfInBounds_toArray, List.set_cons_zero, List.set_cons_succ, i64_w, i32_w]
    rfl
  refine done_ (by kernel_rfl) ?_
  have HB5 := Aside0.mk (below_step (below_step (below_step (below_drew HB2.out) hb3) hb4) hb5)
  have HA5 := Aside0.mk (blk_below (blk_below (blk_below (blk_drew HA2.out) hb3) hb4) hb5)
  have HX5 := Aside0.mk (blk_below (blk_below (blk_below (blk_drew HX2.out) hb3) hb4) hb5)
  clear hb3 hb4 hb5 a0 a1 a2 a3 a4 a5 a6 c0 c1 c2 c3 c4 c5 c6
  go_wp2_with fail
  refine (civ_awake_calls _).mono ?_
  rintro e w6 ⟨rfl, hb⟩
  have HB6 := Aside0.mk (below_step HB5.out hb)
  clear hb
  go_wp2
  go_ret
  exact ⟨rfl, HB6.out⟩

theorem CivilCounts_walk (y m d h i s u : Int) (w : World) : Calls Try.prog 5 #[.agg #[.int .i64 y, .int .i64 m, .int .i64 d, .int .i64 h, .int .i64 i, .int .i64 s, .int .i64 u]] w fun e w' => e = .returned (.bool true) ∧ Below w.heap.size w w' := by
  cases hr : rightB y m d h i s u
  · exact CivilCounts_no y m d h i s u w hr
  · exact CivilCounts_yes y m d h i s u w hr
end Go.Proofs.Ytekbidjfddanhaa
