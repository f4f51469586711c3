/- The choice between two slots; the law's helpers; SlotWrites. -/
import Derived.Test.YtigdchfjcfljjaaSlotR
namespace Go.Proofs.Ytigdchfjcfljjaa
open Go.RowKit Go.Proofs.YtigdchfjcfljjaaW.PrintWords Go.Proofs.YtigdchfjcfljjaaW.PrintLast Go.Proofs.YtigdchfjcfljjaaW.PrintMore
attribute [local go_sem] max2_int min2_int max_two min_two max_three min_three max_four min_four   -- for this text's walks alone
set_option linter.unusedVariables false
set_option linter.unusedSimpArgs false


def sdL (D : List Int) : List Int := [sdN D 0, sdN D 1, sdN D 2, sdN D 3, sdN D 4, sdN D 5]
/-- What k slots leave: was one found, and which. -/
def chS (l : List Int) : Nat → Bool × List Int
  | 0 => (false, [0, 0, 0, 0, 0, 0])
  | k + 1 => bif sdOk (l.drop (64 * (k + 1))) && (!(chS l k).1 || decide ((chS l k).2.getD 0 0 < sdN (l.drop (64 * (k + 1))) 0)) then (true, sdL (l.drop (64 * (k + 1)))) else chS l k
def chR (p : Bool × List Int) : Value := .tuple #[.agg #[.int .u64 (p.2.getD 0 0), .int .u64 (p.2.getD 1 0), .int .u64 (p.2.getD 2 0), .int .u64 (p.2.getD 3 0), .int .u64 (p.2.getD 4 0), .int .u64 (p.2.getD 5 0)], .bool p.1]
theorem sdOk_short {D : List Int} (h : D.length < 64) : sdOk D = false := by simp [sdOk]; omega
theorem sdV_list (D : List Int) : ∃ y0 y1 y2 y3 y4 y5 : Int, sdL D = [y0, y1, y2, y3, y4, y5] ∧ sdN D 0 = y0 ∧ sdV D = .tuple #[.agg #[.int .u64 y0, .int .u64 y1, .int .u64 y2, .int .u64 y3, .int .u64 y4, .int .u64 y5], .bool (sdOk D)] := ⟨_, _, _, _, _, _, rfl, rfl, sdV_eq D⟩
set_option maxHeartbeats 8000000 in
set_option maxRecDepth 100000 in
theorem slot_Choose_calls (v : Value) (l : List Int) (w : World) (T : Nat) (hT : CrcT w T) (hr : Rd w .u8 v l) (hb : isB l) (hlen : l.length ≤ 100000) :
    Calls Try.prog 26 #[.pointer (some ⟨T, 0, none⟩), v] w fun e w' => e = .returned (chR (chS l 2)) ∧ Below w.heap.size w w' := by
  have HT := Aside0.mk hT
  have HV := Aside0.mk hr
  have HIB := Aside0.mk hb
  obtain ⟨A, c, ev, hc, hm, hrd⟩ := hr.mid
  clear hr hb hrd hT
  have HB0 := Aside0.mk (show Below w.heap.size w ((w.alloc (.cells #[.int .u64 0, .int .u64 0, .int .u64 0, .int .u64 0, .int .u64 0, .int .u64 0] 38)).alloc (.cells #[.int .u64 0, .int .u64 0, .int .u64 0, .int .u64 0, .int .u64 0, .int .u64 0] 38)) from below_alloc (below_alloc (Below.refl _ _) _) _)
  have HZ0 := Aside0.mk (show ((w.alloc (.cells #[.int .u64 0, .int .u64 0, .int .u64 0, .int .u64 0, .int .u64 0, .int .u64 0] 38)).alloc (.cells #[.int .u64 0, .int .u64 0, .int .u64 0, .int .u64 0, .int .u64 0, .int .u64 0] 38)).heap[w.heap.size]? = some (.cells #[.int .u64 0, .int .u64 0, .int .u64 0, .int .u64 0, .int .u64 0, .int .u64 0] 38 (0, 0)) from blk_alloc (blk_new _ _) _)
  have HY0 := Aside0.mk (show ((w.alloc (.cells #[.int .u64 0, .int .u64 0, .int .u64 0, .int .u64 0, .int .u64 0, .int .u64 0] 38)).alloc (.cells #[.int .u64 0, .int .u64 0, .int .u64 0, .int .u64 0, .int .u64 0, .int .u64 0] 38)).heap[w.heap.size + 1]? = some (.cells #[.int .u64 0, .int .u64 0, .int .u64 0, .int .u64 0, .int .u64 0, .int .u64 0] 38 (0, 0)) by have := blk_new (w.alloc (.cells #[.int .u64 0, .int .u64 0, .int .u64 0, .int .u64 0, .int .u64 0, .int .u64 0] 38)) (.cells #[.int .u64 0, .int .u64 0, .int .u64 0, .int .u64 0, .int .u64 0, .int .u64 0] 38); simpa using this)
  subst ev
  go_enter Try.func26, Try.ntmps26
  go_wp2_with fail
  go_loopw [7, 8, 9, 10, 11, 12] (fun v7 v8 v9 v10 v11 v12 w' => ∃ (k : Nat) (fd : Bool) (x0 x1 x2 x3 x4 x5 : Int), k ≤ 2 ∧ v12 = .int .i64 k ∧ v7 = .bool fd ∧ Aside0 (chS l k = (fd, [x0, x1, x2, x3, x4, x5])) ∧ Aside0 (Below w.heap.size w w') ∧ Aside0 (w'.heap[w.heap.size]? = some (.cells #[.int .u64 0, .int .u64 0, .int .u64 0, .int .u64 0, .int .u64 0, .int .u64 0] 38 (0, 0))) ∧ Aside0 (w'.heap[w.heap.size + 1]? = some (.cells #[.int .u64 x0, .int .u64 x1, .int .u64 x2, .int .u64 x3, .int .u64 x4, .int .u64 x5] 38 (0, 0)))) (fun _ _ _ _ _ v12 _ => 2 - (intOf v12).toNat)
  case atStart => exact ⟨0, false, 0, 0, 0, 0, 0, 0, by omega, rfl, rfl, ⟨rfl⟩, HB0, HZ0, HY0⟩
  case round =>
    obtain ⟨k, fd, x0, x1, x2, x3, x4, x5, hk, rfl, rfl, HS, HB, HZ, HY⟩ := hrel
    by_cases c1 : k < 2
    · go_wp2_with fail
      with_reducible refine (slot_hSlot_calls (k : Int) _ (by omega) (by omega)).mono ?_
      rintro e w1 ⟨rfl, rfl⟩
      by_cases c2 : (l.length : Int) < 64 * (1 + (k : Int))
      · have HN := Aside0.mk (show chS l (k + 1) = (fd, [x0, x1, x2, x3, x4, x5]) by rw [chS, sdOk_short (by rw [List.length_drop]; omega), Bool.false_and]; exact HS.out)
        go_wp2_with fail
        go_roundw
        case rel => exact ⟨k + 1, fd, x0, x1, x2, x3, x4, x5, by omega, by go_num, rfl, HN, HB, HZ, HY⟩
        case measure => simp [intOf]; omega
      · obtain ⟨i5, hi5, hz5⟩ := infoU8'
        obtain ⟨v', hcut, hrd⟩ := Rd.dropFrom 22 5 Try.underlying22 hi5 hz5 HV.out (64 * (1 + (k : Int))) (by omega) (by omega)
        have hd : (64 * (1 + (k : Int))).toNat = 64 * (k + 1) := by omega
        rw [hd] at hrd
        have HRD := Aside0.mk (show ∀ w1 : World, Rd w1 .u8 (.slice A l.length c) l → Rd w1 .u8 v' (l.drop (64 * (k + 1))) from hrd)
        obtain ⟨y0, y1, y2, y3, y4, y5, hy, hy0, hv⟩ := sdV_list (l.drop (64 * (k + 1)))
        have HVV := Aside0.mk hv
        have HSN := Aside0.mk (show chS l (k + 1) = bif sdOk (l.drop (64 * (k + 1))) && (!fd || decide (x0 < y0)) then (true, [y0, y1, y2, y3, y4, y5]) else (fd, [x0, x1, x2, x3, x4, x5]) by rw [chS, HS.out, hy, hy0]; rfl)
        clear hrd hi5 hz5 hd hy hy0 hv
        go_wp2_with fail
        with_reducible refine (slot_Decode_calls v' (l.drop (64 * (k + 1))) _ T (HT.out.below HB.out) (HRD.out _ (HV.out.below HB.out)) (HIB.out.drop _) (by rw [List.length_drop]; omega)).mono ?_
        rintro e w2 ⟨rfl, hb2⟩
        have HB2 := Aside0.mk (below_alloc (below_step HB.out hb2) (.cells #[.int .u64 y0, .int .u64 y1, .int .u64 y2, .int .u64 y3, .int .u64 y4, .int .u64 y5] 38))
        have HZ2 := Aside0.mk (blk_alloc (blk_below HZ.out hb2) (.cells #[.int .u64 y0, .int .u64 y1, .int .u64 y2, .int .u64 y3, .int .u64 y4, .int .u64 y5] 38))
        have HY2 := Aside0.mk (blk_alloc (blk_below HY.out hb2) (.cells #[.int .u64 y0, .int .u64 y1, .int .u64 y2, .int .u64 y3, .int .u64 y4, .int .u64 y5] 38))
        have HN2 := Aside0.mk (blk_new w2 (.cells #[.int .u64 y0, .int .u64 y1, .int .u64 y2, .int .u64 y3, .int .u64 y4, .int .u64 y5] 38))
        clear hb2
        rw [HVV.out]
        have H0 := HY2.out
        have H1 := HN2.out
        have r0 := blk_cell H0 0
        have r1 := blk_cell H0 1
        have r2 := blk_cell H0 2
        have r3 := blk_cell H0 3
        have r4 := blk_cell H0 4
        have r5 := blk_cell H0 5
        have f0 := blk_frozen H0 0
        have f1 := blk_frozen H0 1
        have f2 := blk_frozen H0 2
        have f3 := blk_frozen H0 3
        have f4 := blk_frozen H0 4
        have f5 := blk_frozen H0 5

        have n0 := blk_cell H1 0
        have n1 := blk_cell H1 1
        have n2 := blk_cell H1 2
        have n3 := blk_cell H1 3
        have n4 := blk_cell H1 4
        have n5 := blk_cell H1 5

        clear H0 H1
        obtain ⟨ok, hok⟩ : ∃ b, sdOk (l.drop (64 * (k + 1))) = b := ⟨_, rfl⟩
        rw [hok] at HSN ⊢
        clear hok
        obtain ⟨ls, hls⟩ : ∃ b, decide (x0 < y0) = b := ⟨_, rfl⟩
        rw [hls] at HSN
        cases ok <;> cases fd <;> cases ls
        all_goals simp only [Bool.false_and, Bool.true_and, Bool.not_false, Bool.not_true, Bool.true_or, Bool.false_or, Bool.or_true, Bool.or_false, cond_true, cond_false] at HSN
        · go_wp2_with fail
          go_roundw
          case rel => exact ⟨k + 1, false, x0, x1, x2, x3, x4, x5, by omega, by go_num, rfl, HSN, HB2, HZ2, HY2⟩
          case measure => simp [intOf]; omega
        · go_wp2_with fail
          go_roundw
          case rel => exact ⟨k + 1, false, x0, x1, x2, x3, x4, x5, by omega, by go_num, rfl, HSN, HB2, HZ2, HY2⟩
          case measure => simp [intOf]; omega
        · go_wp2_with fail
          go_roundw
          case rel => exact ⟨k + 1, true, x0, x1, x2, x3, x4, x5, by omega, by go_num, rfl, HSN, HB2, HZ2, HY2⟩
          case measure => simp [intOf]; omega
        · go_wp2_with fail
          go_roundw
          case rel => exact ⟨k + 1, true, x0, x1, x2, x3, x4, x5, by omega, by go_num, rfl, HSN, HB2, HZ2, HY2⟩
          case measure => simp [intOf]; omega
        · go_wp2_with fail
          go_roundw
          case rel => exact ⟨k + 1, true, y0, y1, y2, y3, y4, y5, by omega, by go_num, rfl, HSN, ⟨sbelow_set (sbelow_set (sbelow_set (sbelow_set (sbelow_set (sbelow_set HB2.out _ (Nat.le_succ _) _) _ (Nat.le_succ _) _) _ (Nat.le_succ _) _) _ (Nat.le_succ _) _) _ (Nat.le_succ _) _) _ (Nat.le_succ _) _⟩, ⟨blk_far (blk_far (blk_far (blk_far (blk_far (blk_far HZ2.out (by simp) _) (by simp) _) (by simp) _) (by simp) _) (by simp) _) (by simp) _⟩, ⟨set6 HY2.out _ _ _ _ _ _⟩⟩
          case measure => simp [intOf]; omega
        · go_wp2_with fail
          go_roundw
          case rel => exact ⟨k + 1, true, y0, y1, y2, y3, y4, y5, by omega, by go_num, rfl, HSN, ⟨sbelow_set (sbelow_set (sbelow_set (sbelow_set (sbelow_set (sbelow_set HB2.out _ (Nat.le_succ _) _) _ (Nat.le_succ _) _) _ (Nat.le_succ _) _) _ (Nat.le_succ _) _) _ (Nat.le_succ _) _) _ (Nat.le_succ _) _⟩, ⟨blk_far (blk_far (blk_far (blk_far (blk_far (blk_far HZ2.out (by simp) _) (by simp) _) (by simp) _) (by simp) _) (by simp) _) (by simp) _⟩, ⟨set6 HY2.out _ _ _ _ _ _⟩⟩
          case measure => simp [intOf]; omega
        · go_wp2_with fail
          go_roundw
          case rel => exact ⟨k + 1, true, x0, x1, x2, x3, x4, x5, by omega, by go_num, rfl, HSN, HB2, HZ2, HY2⟩
          case measure => simp [intOf]; omega
        · go_wp2_with fail
          go_roundw
          case rel => exact ⟨k + 1, true, y0, y1, y2, y3, y4, y5, by omega, by go_num, rfl, HSN, ⟨sbelow_set (sbelow_set (sbelow_set (sbelow_set (sbelow_set (sbelow_set HB2.out _ (Nat.le_succ _) _) _ (Nat.le_succ _) _) _ (Nat.le_succ _) _) _ (Nat.le_succ _) _) _ (Nat.le_succ _) _) _ (Nat.le_succ _) _⟩, ⟨blk_far (blk_far (blk_far (blk_far (blk_far (blk_far HZ2.out (by simp) _) (by simp) _) (by simp) _) (by simp) _) (by simp) _) (by simp) _⟩, ⟨set6 HY2.out _ _ _ _ _ _⟩⟩
          case measure => simp [intOf]; omega

    · obtain rfl : k = 2 := by omega
      have HE := Aside0.mk (show chR (chS l 2) = .tuple #[.agg #[.int .u64 x0, .int .u64 x1, .int .u64 x2, .int .u64 x3, .int .u64 x4, .int .u64 x5], .bool fd] by rw [HS.out]; rfl)
      have H0 := HZ.out
      have H1 := HY.out
      have r0 := blk_cell H0 0
      have r1 := blk_cell H0 1
      have r2 := blk_cell H0 2
      have r3 := blk_cell H0 3
      have r4 := blk_cell H0 4
      have r5 := blk_cell H0 5
      have f0 := blk_frozen H0 0
      have f1 := blk_frozen H0 1
      have f2 := blk_frozen H0 2
      have f3 := blk_frozen H0 3
      have f4 := blk_frozen H0 4
      have f5 := blk_frozen H0 5

      have n0 := blk_cell H1 0
      have n1 := blk_cell H1 1
      have n2 := blk_cell H1 2
      have n3 := blk_cell H1 3
      have n4 := blk_cell H1 4
      have n5 := blk_cell H1 5

      clear H0 H1
      go_wp2_with fail
      refine bodyPost_ret (v := .tuple #[.agg #[.int .u64 x0, .int .u64 x1, .int .u64 x2, .int .u64 x3, .int .u64 x4, .int .u64 x5], .bool fd]) (by simp [results, Try.results26, go_sem, r0, r1, r2, r3, r4, r5]) rfl ⟨by rw [HE.out], ?_⟩
      exact below_set6 HB.out _ (Nat.le_refl _) _ _ _ _ _ _
set_option maxHeartbeats 8000000 in
set_option maxRecDepth 100000 in
theorem slot_to_calls (turn tail count first last state : Int) (w : World) : Calls Try.prog 23 #[.agg #[.int .u64 turn, .int .u64 tail, .int .u64 count, .int .u64 first, .int .u64 last, .int .u64 state]] w fun e w' => e = .returned (.agg #[.int .u64 turn, .int .u64 tail, .int .u64 count, .int .u64 first, .int .u64 last, .int .u64 state]) ∧ Below w.heap.size w w' := by
  go_enter Try.func23, Try.ntmps23
  go_wp2
  exact bodyPost_ret (v := .agg #[.int .u64 turn, .int .u64 tail, .int .u64 count, .int .u64 first, .int .u64 last, .int .u64 state]) (by simp [results, Try.results23, go_sem]) rfl ⟨rfl, below_alloc (below_alloc (Below.refl _ _) _) _⟩
set_option maxHeartbeats 8000000 in
set_option maxRecDepth 100000 in
theorem slot_of_calls (turn tail count first last state : Int) (w : World) : Calls Try.prog 27 #[.agg #[.int .u64 turn, .int .u64 tail, .int .u64 count, .int .u64 first, .int .u64 last, .int .u64 state]] w fun e w' => e = .returned (.agg #[.int .u64 turn, .int .u64 tail, .int .u64 count, .int .u64 first, .int .u64 last, .int .u64 state]) ∧ Below w.heap.size w w' := by
  go_enter Try.func27, Try.ntmps27
  go_wp2
  exact bodyPost_ret (v := .agg #[.int .u64 turn, .int .u64 tail, .int .u64 count, .int .u64 first, .int .u64 last, .int .u64 state]) (by simp [results, Try.results27, go_sem]) rfl ⟨rfl, below_alloc (below_alloc (Below.refl _ _) _) _⟩

set_option maxHeartbeats 8000000 in
set_option maxRecDepth 100000 in
theorem slot_Place_calls (turn tail count first last state : Int) (w : World) (t0 : 0 ≤ turn) (t1 : turn ≤ 18446744073709551615) : Calls Try.prog 24 #[.agg #[.int .u64 turn, .int .u64 tail, .int .u64 count, .int .u64 first, .int .u64 last, .int .u64 state]] w fun e w' => e = .returned (.int .i64 (64 * (1 + turn % 2))) ∧ Below w.heap.size w w' := by
  have h0 : 0 ≤ turn % 2 := by omega
  have h1 : turn % 2 ≤ 1 := by omega
  obtain ⟨m, hm⟩ : ∃ m, turn % 2 = m := ⟨_, rfl⟩
  rw [hm] at h0 h1
  have HM := Aside0.mk hm
  go_enter Try.func24, Try.ntmps24
  go_wp2_with fail
  refine (slot_hSlot_calls m _ h0 h1).mono ?_
  rintro e w1 ⟨rfl, rfl⟩
  go_wp2_with fail
  go_ret
  exact ⟨by first | rfl | (rw [HM.out]; rfl), below_alloc (Below.refl _ _) _⟩
end Go.Proofs.Ytigdchfjcfljjaa
