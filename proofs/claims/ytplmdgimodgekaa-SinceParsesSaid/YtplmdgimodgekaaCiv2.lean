/- Contracts of package civil, and of its reference: right times, counts, the time behind a number. -/
import Derived.Test.YtplmdgimodgekaaCiv
namespace Go.Proofs.Ytplmdgimodgekaa
open Go.RowKit Go.Proofs.YtplmdgimodgekaaW.PrintWords Go.Proofs.YtplmdgimodgekaaW.PrintLast Go.Proofs.YtplmdgimodgekaaW.PrintMore
attribute [local go_sem] max2_int min2_int max_two min_two max_three min_three max_four min_four   -- for this text's walks alone
set_option linter.unusedVariables false
set_option linter.unusedSimpArgs false

set_option maxHeartbeats 8000000 in
set_option maxRecDepth 100000 in
theorem civil_Right_0 (y m d h i s u : Int) (w : World) (h0 : inB 1970 y 9999 = false) : Calls Try.prog 111 #[.agg #[.int .i64 y, .int .i64 m, .int .i64 d, .int .i64 h, .int .i64 i, .int .i64 s, .int .i64 u]] w fun e w' => e = .returned (.bool false) ∧ Below w.heap.size w w' := by
  go_enter Try.func111, Try.ntmps111
  go_wp2
  go_quiet ((first | (go_at_call 136; with_reducible exact within_quiet _ _ _ _ h0 _ _) | (go_at_call 137; with_reducible exact Days_quiet _ _ _ _)))
  go_wp2
  go_ret
  exact ⟨rfl, by apply pw_below_drewN; exact below_alloc (Below.refl _ _) _⟩
set_option maxHeartbeats 8000000 in
set_option maxRecDepth 100000 in
theorem civil_Right_1 (y m d h i s u : Int) (w : World) (h0 : inB 1970 y 9999 = true) (h1 : inB 1 m 12 = false) : Calls Try.prog 111 #[.agg #[.int .i64 y, .int .i64 m, .int .i64 d, .int .i64 h, .int .i64 i, .int .i64 s, .int .i64 u]] w fun e w' => e = .returned (.bool false) ∧ Below w.heap.size w w' := by
  go_enter Try.func111, Try.ntmps111
  go_wp2
  go_quiet ((first | (go_at_call 136; with_reducible exact within_quiet _ _ _ _ h0 _ _) | (go_at_call 136; with_reducible exact within_quiet _ _ _ _ h1 _ _) | (go_at_call 137; with_reducible exact Days_quiet _ _ _ _)))
  go_wp2
  go_ret
  exact ⟨rfl, by apply pw_below_drewN; exact below_alloc (Below.refl _ _) _⟩
set_option maxHeartbeats 8000000 in
set_option maxRecDepth 100000 in
theorem civil_Right_2 (y m d h i s u : Int) (w : World) (h0 : inB 1970 y 9999 = true) (h1 : inB 1 m 12 = true) (h2 : inB 1 d (dimZ y m) = false) : Calls Try.prog 111 #[.agg #[.int .i64 y, .int .i64 m, .int .i64 d, .int .i64 h, .int .i64 i, .int .i64 s, .int .i64 u]] w fun e w' => e = .returned (.bool false) ∧ Below w.heap.size w w' := by
  go_enter Try.func111, Try.ntmps111
  go_wp2
  go_quiet ((first | (go_at_call 136; with_reducible exact within_quiet _ _ _ _ h0 _ _) | (go_at_call 136; with_reducible exact within_quiet _ _ _ _ h1 _ _) | (go_at_call 136; with_reducible exact within_quiet _ _ _ _ h2 _ _) | (go_at_call 137; with_reducible exact Days_quiet _ _ _ _)))
  go_wp2
  go_ret
  exact ⟨rfl, by apply pw_below_drewN; exact below_alloc (Below.refl _ _) _⟩
set_option maxHeartbeats 8000000 in
set_option maxRecDepth 100000 in
theorem civil_Right_3 (y m d h i s u : Int) (w : World) (h0 : inB 1970 y 9999 = true) (h1 : inB 1 m 12 = true) (h2 : inB 1 d (dimZ y m) = true) (h3 : inB 0 h 23 = false) : Calls Try.prog 111 #[.agg #[.int .i64 y, .int .i64 m, .int .i64 d, .int .i64 h, .int .i64 i, .int .i64 s, .int .i64 u]] w fun e w' => e = .returned (.bool false) ∧ Below w.heap.size w w' := by
  go_enter Try.func111, Try.ntmps111
  go_wp2
  go_quiet ((first | (go_at_call 136; with_reducible exact within_quiet _ _ _ _ h0 _ _) | (go_at_call 136; with_reducible exact within_quiet _ _ _ _ h1 _ _) | (go_at_call 136; with_reducible exact within_quiet _ _ _ _ h2 _ _) | (go_at_call 136; with_reducible exact within_quiet _ _ _ _ h3 _ _) | (go_at_call 137; with_reducible exact Days_quiet _ _ _ _)))
  go_wp2
  go_ret
  exact ⟨rfl, by apply pw_below_drewN; exact below_alloc (Below.refl _ _) _⟩
set_option maxHeartbeats 8000000 in
set_option maxRecDepth 100000 in
theorem civil_Right_4 (y m d h i s u : Int) (w : World) (h0 : inB 1970 y 9999 = true) (h1 : inB 1 m 12 = true) (h2 : inB 1 d (dimZ y m) = true) (h3 : inB 0 h 23 = true) (h4 : inB 0 i 59 = false) : Calls Try.prog 111 #[.agg #[.int .i64 y, .int .i64 m, .int .i64 d, .int .i64 h, .int .i64 i, .int .i64 s, .int .i64 u]] w fun e w' => e = .returned (.bool false) ∧ Below w.heap.size w w' := by
  go_enter Try.func111, Try.ntmps111
  go_wp2
  go_quiet ((first | (go_at_call 136; with_reducible exact within_quiet _ _ _ _ h0 _ _) | (go_at_call 136; with_reducible exact within_quiet _ _ _ _ h1 _ _) | (go_at_call 136; with_reducible exact within_quiet _ _ _ _ h2 _ _) | (go_at_call 136; with_reducible exact within_quiet _ _ _ _ h3 _ _) | (go_at_call 136; with_reducible exact within_quiet _ _ _ _ h4 _ _) | (go_at_call 137; with_reducible exact Days_quiet _ _ _ _)))
  go_wp2
  go_ret
  exact ⟨rfl, by apply pw_below_drewN; exact below_alloc (Below.refl _ _) _⟩
set_option maxHeartbeats 8000000 in
set_option maxRecDepth 100000 in
theorem civil_Right_5 (y m d h i s u : Int) (w : World) (h0 : inB 1970 y 9999 = true) (h1 : inB 1 m 12 = true) (h2 : inB 1 d (dimZ y m) = true) (h3 : inB 0 h 23 = true) (h4 : inB 0 i 59 = true) (h5 : inB 0 s 59 = false) : Calls Try.prog 111 #[.agg #[.int .i64 y, .int .i64 m, .int .i64 d, .int .i64 h, .int .i64 i, .int .i64 s, .int .i64 u]] w fun e w' => e = .returned (.bool false) ∧ Below w.heap.size w w' := by
  go_enter Try.func111, Try.ntmps111
  go_wp2
  go_quiet ((first | (go_at_call 136; with_reducible exact within_quiet _ _ _ _ h0 _ _) | (go_at_call 136; with_reducible exact within_quiet _ _ _ _ h1 _ _) | (go_at_call 136; with_reducible exact within_quiet _ _ _ _ h2 _ _) | (go_at_call 136; with_reducible exact within_quiet _ _ _ _ h3 _ _) | (go_at_call 136; with_reducible exact within_quiet _ _ _ _ h4 _ _) | (go_at_call 136; with_reducible exact within_quiet _ _ _ _ h5 _ _) | (go_at_call 137; with_reducible exact Days_quiet _ _ _ _)))
  go_wp2
  go_ret
  exact ⟨rfl, by apply pw_below_drewN; exact below_alloc (Below.refl _ _) _⟩
set_option maxHeartbeats 8000000 in
set_option maxRecDepth 100000 in
theorem civil_Right_6 (y m d h i s u : Int) (w : World) (h0 : inB 1970 y 9999 = true) (h1 : inB 1 m 12 = true) (h2 : inB 1 d (dimZ y m) = true) (h3 : inB 0 h 23 = true) (h4 : inB 0 i 59 = true) (h5 : inB 0 s 59 = true) (h6 : inB 0 u 999999 = false) : Calls Try.prog 111 #[.agg #[.int .i64 y, .int .i64 m, .int .i64 d, .int .i64 h, .int .i64 i, .int .i64 s, .int .i64 u]] w fun e w' => e = .returned (.bool false) ∧ Below w.heap.size w w' := by
  go_enter Try.func111, Try.ntmps111
  go_wp2
  go_quiet ((first | (go_at_call 136; with_reducible exact within_quiet _ _ _ _ h0 _ _) | (go_at_call 136; with_reducible exact within_quiet _ _ _ _ h1 _ _) | (go_at_call 136; with_reducible exact within_quiet _ _ _ _ h2 _ _) | (go_at_call 136; with_reducible exact within_quiet _ _ _ _ h3 _ _) | (go_at_call 136; with_reducible exact within_quiet _ _ _ _ h4 _ _) | (go_at_call 136; with_reducible exact within_quiet _ _ _ _ h5 _ _) | (go_at_call 136; with_reducible exact within_quiet _ _ _ _ h6 _ _) | (go_at_call 137; with_reducible exact Days_quiet _ _ _ _)))
  go_wp2
  go_ret
  exact ⟨rfl, by apply pw_below_drewN; exact below_alloc (Below.refl _ _) _⟩
set_option maxHeartbeats 8000000 in
set_option maxRecDepth 100000 in
theorem civil_Right_7 (y m d h i s u : Int) (w : World) (h0 : inB 1970 y 9999 = true) (h1 : inB 1 m 12 = true) (h2 : inB 1 d (dimZ y m) = true) (h3 : inB 0 h 23 = true) (h4 : inB 0 i 59 = true) (h5 : inB 0 s 59 = true) (h6 : inB 0 u 999999 = true) : Calls Try.prog 111 #[.agg #[.int .i64 y, .int .i64 m, .int .i64 d, .int .i64 h, .int .i64 i, .int .i64 s, .int .i64 u]] w fun e w' => e = .returned (.bool true) ∧ Below w.heap.size w w' := by
  go_enter Try.func111, Try.ntmps111
  go_wp2
  go_quiet ((first | (go_at_call 136; with_reducible exact within_quiet _ _ _ _ h0 _ _) | (go_at_call 136; with_reducible exact within_quiet _ _ _ _ h1 _ _) | (go_at_call 136; with_reducible exact within_quiet _ _ _ _ h2 _ _) | (go_at_call 136; with_reducible exact within_quiet _ _ _ _ h3 _ _) | (go_at_call 136; with_reducible exact within_quiet _ _ _ _ h4 _ _) | (go_at_call 136; with_reducible exact within_quiet _ _ _ _ h5 _ _) | (go_at_call 136; with_reducible exact within_quiet _ _ _ _ h6 _ _) | (go_at_call 137; with_reducible exact Days_quiet _ _ _ _)))
  go_wp2
  go_ret
  exact ⟨rfl, by apply pw_below_drewN; exact below_alloc (Below.refl _ _) _⟩
theorem civil_Right_calls (y m d h i s u : Int) (w : World) : Calls Try.prog 111 #[.agg #[.int .i64 y, .int .i64 m, .int .i64 d, .int .i64 h, .int .i64 i, .int .i64 s, .int .i64 u]] w fun e w' => e = .returned (.bool (rightB y m d h i s u)) ∧ Below w.heap.size w w' := by
  rw [← rightC_eq]
  cases h0 : inB 1970 y 9999 with
  | false => rw [show rightC y m d h i s u = false by simp [rightC, h0]]; exact civil_Right_0 y m d h i s u w h0
  | true =>
  cases h1 : inB 1 m 12 with
  | false => rw [show rightC y m d h i s u = false by simp [rightC, h0, h1]]; exact civil_Right_1 y m d h i s u w h0 h1
  | true =>
  cases h2 : inB 1 d (dimZ y m) with
  | false => rw [show rightC y m d h i s u = false by simp [rightC, h0, h1, h2]]; exact civil_Right_2 y m d h i s u w h0 h1 h2
  | true =>
  cases h3 : inB 0 h 23 with
  | false => rw [show rightC y m d h i s u = false by simp [rightC, h0, h1, h2, h3]]; exact civil_Right_3 y m d h i s u w h0 h1 h2 h3
  | true =>
  cases h4 : inB 0 i 59 with
  | false => rw [show rightC y m d h i s u = false by simp [rightC, h0, h1, h2, h3, h4]]; exact civil_Right_4 y m d h i s u w h0 h1 h2 h3 h4
  | true =>
  cases h5 : inB 0 s 59 with
  | false => rw [show rightC y m d h i s u = false by simp [rightC, h0, h1, h2, h3, h4, h5]]; exact civil_Right_5 y m d h i s u w h0 h1 h2 h3 h4 h5
  | true =>
  cases h6 : inB 0 u 999999 with
  | false => rw [show rightC y m d h i s u = false by simp [rightC, h0, h1, h2, h3, h4, h5, h6]]; exact civil_Right_6 y m d h i s u w h0 h1 h2 h3 h4 h5 h6
  | true =>
  rw [show rightC y m d h i s u = true by simp [rightC, h0, h1, h2, h3, h4, h5, h6]]
  exact civil_Right_7 y m d h i s u w h0 h1 h2 h3 h4 h5 h6

theorem ret_int {k : IntKind} {a b : Int} (h : a = b) : Ending.returned (.int k a) = .returned (.int k b) := by rw [h]
set_option maxHeartbeats 8000000 in
set_option maxRecDepth 100000 in
theorem count_calls (y m d : Int) (w : World) (y0 : 1970 ≤ y) (y1 : y ≤ 9999) (m0 : 1 ≤ m) (m1 : m ≤ 12) (d0 : 1 ≤ d) (d1 : d ≤ 31) : Calls Try.prog 112 #[.int .i64 y, .int .i64 m, .int .i64 d] w fun e w' => e = .returned (.int .i64 (countZ y m d)) ∧ w' = w := by
  by_cases c : m < 3
  · have HE := Aside0.mk (show countZ y m d = _ by rw [countZ, if_pos c])
    go_enter Try.func112, Try.ntmps112
    go_wp2
    go_ret
    exact ⟨ret_int (by have := HE.out; omega), rfl⟩
  · have HE := Aside0.mk (show countZ y m d = _ by rw [countZ, if_neg c])
    go_enter Try.func112, Try.ntmps112
    go_wp2
    go_ret
    exact ⟨ret_int (by have := HE.out; omega), rfl⟩
theorem count_quiet (y m d : Int) (w : World) (k : Nat) (y0 : 1970 ≤ y) (y1 : y ≤ 9999) (m0 : 1 ≤ m) (m1 : m ≤ 12) (d0 : 1 ≤ d) (d1 : d ≤ 31) : Calls Try.prog 112 #[.int .i64 y, .int .i64 m, .int .i64 d] (w.drewN k) fun e w' => e = .returned (.int .i64 (countZ y m d)) ∧ ∃ m, w' = w.drewN m := Calls.quiet_of_same (count_calls y m d _ y0 y1 m0 m1 d0 d1)
theorem ret_u64_true {a b : Int} (h : a = b) : Ending.returned (.tuple #[.int .u64 a, .bool true]) = .returned (.tuple #[.int .u64 b, .bool true]) := by rw [h]
set_option maxHeartbeats 8000000 in
set_option maxRecDepth 100000 in
theorem civil_Micros_yes (y m d h i s u : Int) (w : World) (hr : rightB y m d h i s u = true) : Calls Try.prog 76 #[.agg #[.int .i64 y, .int .i64 m, .int .i64 d, .int .i64 h, .int .i64 i, .int .i64 s, .int .i64 u]] w fun e w' => e = .returned (.tuple #[.int .u64 (microsZ y m d h i s u), .bool true]) ∧ Below w.heap.size w w' := by
  have HR := Aside0.mk hr
  obtain ⟨⟨y0, y1⟩, ⟨m0, m1⟩, ⟨d0, d1⟩, ⟨h0, h1⟩, ⟨i0, i1⟩, ⟨s0, s1⟩, ⟨u0, u1⟩⟩ := rightB_yes hr
  have hd := dimZ_bd y m
  have d2 : d ≤ 31 := by omega
  have hb := dayZ_bd y0 y1 ⟨m0, m1, d0, d1⟩
  have hc := countZ_eq y m d m0 m1
  obtain ⟨c, hcc⟩ : ∃ c, countZ y m d - 719468 = c := ⟨_, rfl⟩
  rw [hcc] at hc
  have HE := Aside0.mk (show microsZ y m d h i s u = c * 86400000000 + (60 * (60 * h + i) + s) * 1000000 + u by unfold microsZ dayZ; rw [hc])
  rw [show dayZ y m d = c from hc.symm] at hb
  obtain ⟨c0, c1⟩ := hb
  have hw0 : IntKind.i64.wrap (countZ y m d - 719468) = c := by rw [hcc]; exact IntWalk.i64_in _ (by omega)
  have hw1 : IntKind.u64.wrap c = c := IntWalk.u64_in _ (by omega)
  have hw2 : IntKind.u64.wrap (c * 86400000000) = c * 86400000000 := IntWalk.u64_in _ (by omega)
  clear hr hd d1 hc hcc
  go_enter Try.func76, Try.ntmps76
  go_wp2_with fail
  refine (civil_Right_calls y m d h i s u _).mono ?_
  rintro e w1 ⟨rfl, hb⟩
  have HB := Aside0.mk (below_step (below_alloc (Below.refl _ _) _) hb)
  have H1 := blk_below (blk_new w _) hb
  have g0 := blk_cell H1 0
  have g1 := blk_cell H1 1
  have g2 := blk_cell H1 2
  have g3 := blk_cell H1 3
  have g4 := blk_cell H1 4
  have g5 := blk_cell H1 5
  have g6 := blk_cell H1 6
  clear H1 hb
  rw [HR.out]
  go_wp2_with fail
  go_quiet ((go_at_call 112; exact count_quiet _ _ _ _ _ y0 y1 m0 m1 d0 d2))
  go_wp2
  go_ret2
  exact ⟨ret_u64_true (by have := HE.out; omega), by apply pw_below_drewN; exact HB.out⟩
set_option maxHeartbeats 8000000 in
set_option maxRecDepth 100000 in
theorem civil_Micros_no (y m d h i s u : Int) (w : World) (hr : rightB y m d h i s u = false) : Calls Try.prog 76 #[.agg #[.int .i64 y, .int .i64 m, .int .i64 d, .int .i64 h, .int .i64 i, .int .i64 s, .int .i64 u]] w fun e w' => e = .returned (.tuple #[.int .u64 0, .bool false]) ∧ Below w.heap.size w w' := by
  have HR := Aside0.mk hr
  clear hr
  go_enter Try.func76, Try.ntmps76
  go_wp2_with fail
  refine (civil_Right_calls y m d h i s u _).mono ?_
  rintro e w1 ⟨rfl, hb⟩
  have HB := Aside0.mk (below_step (below_alloc (Below.refl _ _) _) hb)
  clear hb
  rw [HR.out]
  go_wp2
  go_ret2
  exact ⟨rfl, HB.out⟩
end Go.Proofs.Ytplmdgimodgekaa
