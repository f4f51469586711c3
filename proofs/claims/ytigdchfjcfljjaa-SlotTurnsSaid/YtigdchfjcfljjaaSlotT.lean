/- SlotTurns: of two slots the later one counts. -/
import Derived.Test.YtigdchfjcfljjaaSlotD
import Derived.Test.YtigdchfjcfljjaaCpy
namespace Go.Proofs.Ytigdchfjcfljjaa
open Go.RowKit Go.Proofs.YtigdchfjcfljjaaW.PrintWords Go.Proofs.YtigdchfjcfljjaaW.PrintLast Go.Proofs.YtigdchfjcfljjaaW.PrintMore
attribute [local go_sem] max2_int min2_int max_two min_two max_three min_three max_four min_four   -- for this text's walks alone
set_option linter.unusedVariables false
set_option linter.unusedSimpArgs false

theorem getN_z (r : List Int) : getN (List.replicate 64 0 ++ r) 0 8 = 0 := by
  have h := getN_front (List.replicate 64 0) r 0 (by simp)
  rw [show ((0 : Nat) : Int) = 0 from rfl] at h
  rw [h]
  decide
theorem sd_zero (r : List Int) : sdOk (List.replicate 64 0 ++ r) = false := by
  rw [sdOk, getN_z]
  simp [sR]
theorem sd_yes (turn tail count first last state : Int) (r : List Int) (hr : sR turn state tail = true) (hw : isW [turn, tail, count, first, last, state]) : sdOk (encZ [] [turn, tail, count, first, last, state] ++ r) = true ∧ sdL (encZ [] [turn, tail, count, first, last, state] ++ r) = [turn, tail, count, first, last, state] ∧ sdN (encZ [] [turn, tail, count, first, last, state] ++ r) 0 = turn := by
  have hl : (encZ [] [turn, tail, count, first, last, state]).length = 64 := by rw [encZ, List.length_append, encC_len, List.length_replicate]; rfl
  have g := fun i hi a x => getN_enc [] [turn, tail, count, first, last, state] r hw i hi a x
  have hW : sdW (encZ [] [turn, tail, count, first, last, state] ++ r) = [turn, tail, count, first, last, state] := by
    rw [sdW, g 0 (by simp) 0 _ (by simp) rfl, g 1 (by simp) 8 _ (by simp) rfl, g 2 (by simp) 16 _ (by simp) rfl, g 3 (by simp) 24 _ (by simp) rfl, g 4 (by simp) 32 _ (by simp) rfl, g 5 (by simp) 40 _ (by simp) rfl]
    rfl
  have hok : sdOk (encZ [] [turn, tail, count, first, last, state] ++ r) = true := by
    rw [sdOk, hW, g 0 (by simp) 0 _ (by simp) rfl, g 5 (by simp) 40 _ (by simp) rfl, g 1 (by simp) 8 _ (by simp) rfl]
    show (decide _ && sR turn state tail && decide _) = true
    rw [hr, decide_eq_true (by rw [List.length_append]; omega), decide_eq_true (by rw [← hl]; exact List.take_left.symm)]
    rfl
  refine ⟨hok, ?_, ?_⟩
  · simp only [sdL, sdN, hok, hW]; rfl
  · simp only [sdN, hok, hW]; rfl
theorem spl0 (X : List Int) (h : X.length = 64) : splice (List.replicate 256 0) 64 X = List.replicate 64 0 ++ (X ++ List.replicate 128 0) := by
  rw [splice, h, List.drop_replicate, List.take_replicate]; rfl
theorem spl1 (X : List Int) (h : X.length = 64) : splice (List.replicate 256 0) 128 X = List.replicate 128 0 ++ (X ++ List.replicate 64 0) := by
  rw [splice, h, List.drop_replicate, List.take_replicate]; rfl
theorem spl01 (X Y : List Int) (h : X.length = 64) (h2 : Y.length = 64) : splice (List.replicate 64 0 ++ (X ++ List.replicate 128 0)) 128 Y = List.replicate 64 0 ++ (X ++ (Y ++ List.replicate 64 0)) := by
  rw [splice, h2]
  have e : (List.replicate 64 (0 : Int) ++ (X ++ List.replicate 128 0)) = (List.replicate 64 0 ++ X) ++ (List.replicate 64 0 ++ List.replicate 64 0) := by rw [List.replicate_append_replicate, List.append_assoc]
  have l1 : (List.replicate 64 (0 : Int) ++ X).length = 128 := by rw [List.length_append, h]; rfl
  rw [e, List.take_append_of_le_length (by omega), List.take_of_length_le (by omega), List.drop_append, l1, List.drop_of_length_le (by omega), List.append_assoc]
  rfl
theorem spl10 (X Y : List Int) (h : X.length = 64) (h2 : Y.length = 64) : splice (List.replicate 128 0 ++ (X ++ List.replicate 64 0)) 64 Y = List.replicate 64 0 ++ (Y ++ (X ++ List.replicate 64 0)) := by
  rw [splice, h2]
  have e : (List.replicate 128 (0 : Int) ++ (X ++ List.replicate 64 0)) = List.replicate 64 0 ++ (List.replicate 64 0 ++ (X ++ List.replicate 64 0)) := by rw [← List.append_assoc (List.replicate 64 0), List.replicate_append_replicate]
  rw [e, List.take_append_of_le_length (by simp), List.take_of_length_le (by simp), List.drop_append, List.drop_of_length_le (by simp)]
  simp [List.drop_append]
theorem dr64 (X r : List Int) (h : X.length = 64) : (X ++ r).drop 64 = r := by rw [← h, List.drop_left]
theorem dr128 (X Y r : List Int) (h : X.length = 64) (h2 : Y.length = 64) : (X ++ (Y ++ r)).drop 128 = r := by
  rw [show 128 = 64 + 64 from rfl, ← List.drop_drop, dr64 X _ h, dr64 Y _ h2]

theorem ch_00 (turn tail count first last state u tail2 count2 first2 last2 state2 : Int) (h1 : sR turn state tail = true) (h2 : sR u state2 tail2 = true) (hu : u = turn + 1) (w1 : isW [turn, tail, count, first, last, state]) (w2 : isW [u, tail2, count2, first2, last2, state2]) : chS (List.replicate 64 0 ++ (encZ [] [turn, tail, count, first, last, state] ++ List.replicate 128 0)) 2 = (true, [turn, tail, count, first, last, state]) := by
  have ls : (encZ [] [turn, tail, count, first, last, state]).length = 64 := by rw [encZ, List.length_append, encC_len, List.length_replicate]; rfl
  have lr : (encZ [] [u, tail2, count2, first2, last2, state2]).length = 64 := by rw [encZ, List.length_append, encC_len, List.length_replicate]; rfl
  have lz : (List.replicate 64 (0 : Int)).length = 64 := rfl
  rw [chS_two]
  rw [dr64 _ _ lz, dr128 _ _ _ lz ls, show List.replicate 128 (0 : Int) = List.replicate 64 0 ++ List.replicate 64 0 by rw [List.replicate_append_replicate], sd_zero]
  obtain ⟨a, b, c⟩ := sd_yes turn tail count first last state (List.replicate 64 0 ++ List.replicate 64 0) h1 w1
  rw [a, b]; rfl
theorem ch_10 (turn tail count first last state u tail2 count2 first2 last2 state2 : Int) (h1 : sR turn state tail = true) (h2 : sR u state2 tail2 = true) (hu : u = turn + 1) (w1 : isW [turn, tail, count, first, last, state]) (w2 : isW [u, tail2, count2, first2, last2, state2]) : chS (List.replicate 128 0 ++ (encZ [] [turn, tail, count, first, last, state] ++ List.replicate 64 0)) 2 = (true, [turn, tail, count, first, last, state]) := by
  have ls : (encZ [] [turn, tail, count, first, last, state]).length = 64 := by rw [encZ, List.length_append, encC_len, List.length_replicate]; rfl
  have lr : (encZ [] [u, tail2, count2, first2, last2, state2]).length = 64 := by rw [encZ, List.length_append, encC_len, List.length_replicate]; rfl
  have lz : (List.replicate 64 (0 : Int)).length = 64 := rfl
  rw [chS_two]
  rw [show List.replicate 128 (0 : Int) ++ (encZ [] [turn, tail, count, first, last, state] ++ List.replicate 64 0) = List.replicate 64 0 ++ (List.replicate 64 0 ++ (encZ [] [turn, tail, count, first, last, state] ++ List.replicate 64 0)) by rw [← List.append_assoc (List.replicate 64 0), List.replicate_append_replicate], dr64 _ _ lz, dr128 _ _ _ lz lz, sd_zero]
  obtain ⟨a, b, c⟩ := sd_yes turn tail count first last state (List.replicate 64 0) h1 w1
  rw [a, b]; rfl
theorem ch_01 (turn tail count first last state u tail2 count2 first2 last2 state2 : Int) (h1 : sR turn state tail = true) (h2 : sR u state2 tail2 = true) (hu : u = turn + 1) (w1 : isW [turn, tail, count, first, last, state]) (w2 : isW [u, tail2, count2, first2, last2, state2]) : chS (List.replicate 64 0 ++ (encZ [] [turn, tail, count, first, last, state] ++ (encZ [] [u, tail2, count2, first2, last2, state2] ++ List.replicate 64 0))) 2 = (true, [u, tail2, count2, first2, last2, state2]) := by
  have ls : (encZ [] [turn, tail, count, first, last, state]).length = 64 := by rw [encZ, List.length_append, encC_len, List.length_replicate]; rfl
  have lr : (encZ [] [u, tail2, count2, first2, last2, state2]).length = 64 := by rw [encZ, List.length_append, encC_len, List.length_replicate]; rfl
  have lz : (List.replicate 64 (0 : Int)).length = 64 := rfl
  rw [chS_two]
  rw [dr64 _ _ lz, dr128 _ _ _ lz ls]
  obtain ⟨a, b, c⟩ := sd_yes turn tail count first last state (encZ [] [u, tail2, count2, first2, last2, state2] ++ List.replicate 64 0) h1 w1
  obtain ⟨a2, b2, c2⟩ := sd_yes u tail2 count2 first2 last2 state2 (List.replicate 64 0) h2 w2
  rw [a, a2, c, c2, b2, decide_eq_true (by omega)]; rfl
theorem ch_11 (turn tail count first last state u tail2 count2 first2 last2 state2 : Int) (h1 : sR turn state tail = true) (h2 : sR u state2 tail2 = true) (hu : u = turn + 1) (w1 : isW [turn, tail, count, first, last, state]) (w2 : isW [u, tail2, count2, first2, last2, state2]) : chS (List.replicate 64 0 ++ (encZ [] [u, tail2, count2, first2, last2, state2] ++ (encZ [] [turn, tail, count, first, last, state] ++ List.replicate 64 0))) 2 = (true, [u, tail2, count2, first2, last2, state2]) := by
  have ls : (encZ [] [turn, tail, count, first, last, state]).length = 64 := by rw [encZ, List.length_append, encC_len, List.length_replicate]; rfl
  have lr : (encZ [] [u, tail2, count2, first2, last2, state2]).length = 64 := by rw [encZ, List.length_append, encC_len, List.length_replicate]; rfl
  have lz : (List.replicate 64 (0 : Int)).length = 64 := rfl
  rw [chS_two]
  rw [dr64 _ _ lz, dr128 _ _ _ lz lr]
  obtain ⟨a, b, c⟩ := sd_yes turn tail count first last state (List.replicate 64 0) h1 w1
  obtain ⟨a2, b2, c2⟩ := sd_yes u tail2 count2 first2 last2 state2 (encZ [] [turn, tail, count, first, last, state] ++ List.replicate 64 0) h2 w2
  rw [a, a2, c, c2, b2, decide_eq_false (by omega)]; rfl



set_option maxHeartbeats 8000000 in
set_option maxRecDepth 100000 in
theorem SlotTurns_00 (turn tail count first last state turn2 tail2 count2 first2 last2 state2 : Int) (w : World) (hs : sR turn state tail = true) (hq : sR turn2 state2 tail2 = true) (hp : turn % 2 = 0) (tail0 : 0 ≤ tail) (tail1 : tail ≤ 18446744073709551615) (count0 : 0 ≤ count) (count1 : count ≤ 18446744073709551615) (first0 : 0 ≤ first) (first1 : first ≤ 18446744073709551615) (last0 : 0 ≤ last) (last1 : last ≤ 18446744073709551615) (state0 : 0 ≤ state) (state1 : state ≤ 18446744073709551615) (turn0 : 0 ≤ turn) (turn1 : turn ≤ 18446744073709551614) (turn20 : 0 ≤ turn2) (turn21 : turn2 ≤ 18446744073709551615) (tail20 : 0 ≤ tail2) (tail21 : tail2 ≤ 18446744073709551615) (count20 : 0 ≤ count2) (count21 : count2 ≤ 18446744073709551615) (first20 : 0 ≤ first2) (first21 : first2 ≤ 18446744073709551615) (last20 : 0 ≤ last2) (last21 : last2 ≤ 18446744073709551615) (state20 : 0 ≤ state2) (state21 : state2 ≤ 18446744073709551615) :
    Calls Try.prog 4 #[.agg #[.int .u64 turn, .int .u64 tail, .int .u64 count, .int .u64 first, .int .u64 last, .int .u64 state], .agg #[.int .u64 turn2, .int .u64 tail2, .int .u64 count2, .int .u64 first2, .int .u64 last2, .int .u64 state2], .bool false] w fun e w' => e = .returned (.bool true) ∧ Below w.heap.size w w' := by
  obtain ⟨u, hu⟩ : ∃ u, turn + 1 = u := ⟨_, rfl⟩
  have hR2 : sR u state2 tail2 = true := by
    rw [sR] at hq ⊢
    have h1 := Bool.and_eq_true_iff.1 hq
    have h2 := Bool.and_eq_true_iff.1 h1.1
    rw [h1.2, h2.2, decide_eq_true (by omega)]; rfl
  have hw1 : isW [turn, tail, count, first, last, state] := by intro x hx; simp only [List.mem_cons, List.not_mem_nil, or_false] at hx; rcases hx with rfl | rfl | rfl | rfl | rfl | rfl <;> exact ⟨by assumption, by omega⟩
  have hw2 : isW [u, tail2, count2, first2, last2, state2] := by intro x hx; simp only [List.mem_cons, List.not_mem_nil, or_false] at hx; rcases hx with rfl | rfl | rfl | rfl | rfl | rfl <;> exact ⟨by omega, by omega⟩
  have HCH := Aside0.mk (ch_00 turn tail count first last state u tail2 count2 first2 last2 state2 hs hR2 hu.symm hw1 hw2)
  have HLS := Aside0.mk (show (encZ [] [turn, tail, count, first, last, state]).length = 64 by rw [encZ, List.length_append, encC_len, List.length_replicate]; rfl)
  have HLR := Aside0.mk (show (encZ [] [u, tail2, count2, first2, last2, state2]).length = 64 by rw [encZ, List.length_append, encC_len, List.length_replicate]; rfl)
  have CP1 := Aside0.mk (fun w => slot_Place_calls turn tail count first last state w (by omega) (by omega))
  have CP2 := Aside0.mk (fun w => slot_Place_calls u tail2 count2 first2 last2 state2 w (by omega) (by omega))
  rw [hp, show (64 * (1 + (0 : Int))) = 64 from rfl] at CP1
  rw [show u % 2 = 1 by omega, show (64 * (1 + (1 : Int))) = 128 from rfl] at CP2
  have C1 := Aside0.mk (fun w => ref_sRight_calls turn tail count first last state w (by omega) (by omega))
  have C2 := Aside0.mk (fun w => ref_sRight_calls turn2 tail2 count2 first2 last2 state2 w (by omega) (by omega))
  rw [hs] at C1
  rw [hq] at C2
  have HS1 := Aside0.mk hs
  have HS2 := Aside0.mk hR2
  have HU := Aside0.mk hu
  have hne : (turn == 18446744073709551615) = false := by rw [beq_eq_false_iff_ne]; omega
  have hwu : IntKind.u64.wrap (turn + 1) = u := by rw [IntKind.wrap_u64]; omega
  have hmk : ∀ w : World, (Instr.makeSlice 22 (.int .i64 256) (.int .i64 256)).run Try.prog w = .ok (.slice (some ⟨w.heap.size, 0, none⟩) 256 256) (w.alloc (.cells (nums .u8 (List.replicate 256 0)).toArray 5)) := fun _ => by kernel_rfl
  obtain ⟨zs, hzs⟩ : ∃ zs, (nums .u8 (List.replicate 256 0)).toArray = zs := ⟨_, rfl⟩
  rw [hzs] at hmk
  have HZS := Aside0.mk hzs
  have HTU := Aside0.mk turn1
  clear hs hq hR2 hu hw1 hw2 hzs turn1 hp
  go_enter Try.func4, Try.ntmps4
  go_wp2_with fail
  refine (C1.out _).mono ?_
  rintro _ w1 ⟨rfl, hb⟩
  have HS := Aside0.mk (blk_below (blk_alloc (blk_new w (.cells #[.int .u64 turn, .int .u64 tail, .int .u64 count, .int .u64 first, .int .u64 last, .int .u64 state] 34)) (.cells #[.int .u64 turn2, .int .u64 tail2, .int .u64 count2, .int .u64 first2, .int .u64 last2, .int .u64 state2] 34)) hb)
  have HR := Aside0.mk (blk_below (show ((w.alloc (.cells #[.int .u64 turn, .int .u64 tail, .int .u64 count, .int .u64 first, .int .u64 last, .int .u64 state] 34)).alloc (.cells #[.int .u64 turn2, .int .u64 tail2, .int .u64 count2, .int .u64 first2, .int .u64 last2, .int .u64 state2] 34)).heap[w.heap.size + 1]? = some (.cells #[.int .u64 turn2, .int .u64 tail2, .int .u64 count2, .int .u64 first2, .int .u64 last2, .int .u64 state2] 34 (0, 0)) by have := blk_new (w.alloc (.cells #[.int .u64 turn, .int .u64 tail, .int .u64 count, .int .u64 first, .int .u64 last, .int .u64 state] 34)) (.cells #[.int .u64 turn2, .int .u64 tail2, .int .u64 count2, .int .u64 first2, .int .u64 last2, .int .u64 state2] 34); simpa using this) hb)
  have HB := Aside0.mk (below_step (below_alloc (below_alloc (Below.refl w.heap.size w) (.cells #[.int .u64 turn, .int .u64 tail, .int .u64 count, .int .u64 first, .int .u64 last, .int .u64 state] 34)) (.cells #[.int .u64 turn2, .int .u64 tail2, .int .u64 count2, .int .u64 first2, .int .u64 last2, .int .u64 state2] 34)) hb)
  clear hb
  have r0 := blk_cell HR.out 0
  have r1 := blk_cell HR.out 1
  have r2 := blk_cell HR.out 2
  have r3 := blk_cell HR.out 3
  have r4 := blk_cell HR.out 4
  have r5 := blk_cell HR.out 5
  have f0 := blk_frozen HR.out 0
  have f1 := blk_frozen HR.out 1
  have f2 := blk_frozen HR.out 2
  have f3 := blk_frozen HR.out 3
  have f4 := blk_frozen HR.out 4
  have f5 := blk_frozen HR.out 5
  go_wp2_with fail
  refine (C2.out _).mono ?_
  rintro _ w2 ⟨rfl, hb⟩
  replace HS := Aside0.mk (blk_below HS.out hb)
  replace HR := Aside0.mk (blk_below HR.out hb)
  replace HB := Aside0.mk (below_step HB.out hb)
  clear hb r0 r1 r2 r3 r4 r5 f0 f1 f2 f3 f4 f5
  have r0 := blk_cell HS.out 0
  have r1 := blk_cell HS.out 1
  have r2 := blk_cell HS.out 2
  have r3 := blk_cell HS.out 3
  have r4 := blk_cell HS.out 4
  have r5 := blk_cell HS.out 5
  have f0 := blk_frozen HS.out 0
  have f1 := blk_frozen HS.out 1
  have f2 := blk_frozen HS.out 2
  have f3 := blk_frozen HS.out 3
  have f4 := blk_frozen HS.out 4
  have f5 := blk_frozen HS.out 5
  go_wp2_with fail
  refine (crc_Make_calls _).mono ?_
  rintro _ w3 ⟨rfl, hT, hb⟩
  have HBT := Aside0.mk HB.out.size
  have HTR := Aside0.mk (blk_lt HR.out)
  replace HS := Aside0.mk (blk_below HS.out hb)
  replace HR := Aside0.mk (blk_below HR.out hb)
  replace HB := Aside0.mk (below_step HB.out hb)
  have HT := Aside0.mk hT
  obtain ⟨T, hTT⟩ : ∃ T, w2.heap.size = T := ⟨_, rfl⟩
  rw [hTT] at HT HBT HTR ⊢
  clear hb hT hTT r0 r1 r2 r3 r4 r5 f0 f1 f2 f3 f4 f5
  have r0 := blk_cell HR.out 0
  have r1 := blk_cell HR.out 1
  have r2 := blk_cell HR.out 2
  have r3 := blk_cell HR.out 3
  have r4 := blk_cell HR.out 4
  have r5 := blk_cell HR.out 5
  have f0 := blk_frozen HR.out 0
  have f1 := blk_frozen HR.out 1
  have f2 := blk_frozen HR.out 2
  have f3 := blk_frozen HR.out 3
  have f4 := blk_frozen HR.out 4
  have f5 := blk_frozen HR.out 5
  have s0 := blk_cell HS.out 0
  have s1 := blk_cell HS.out 1
  have s2 := blk_cell HS.out 2
  have s3 := blk_cell HS.out 3
  have s4 := blk_cell HS.out 4
  have s5 := blk_cell HS.out 5
  have g0 := blk_frozen HS.out 0
  have g1 := blk_frozen HS.out 1
  have g2 := blk_frozen HS.out 2
  have g3 := blk_frozen HS.out 3
  have g4 := blk_frozen HS.out 4
  have g5 := blk_frozen HS.out 5
  go_upto_region 6 with fail
  have hx := blk_set HR.out 0 (.int .u64 u)
  replace HR := Aside0.mk (show (w3.setCell ⟨w.heap.size + 1, 0, none⟩ (.int .u64 u)).heap[w.heap.size + 1]? = some (.cells #[.int .u64 u, .int .u64 tail2, .int .u64 count2, .int .u64 first2, .int .u64 last2, .int .u64 state2] 34 (0, 0)) by simpa using hx)
  replace HS := Aside0.mk (show (w3.setCell ⟨w.heap.size + 1, 0, none⟩ (.int .u64 u)).heap[w.heap.size]? = some (.cells #[.int .u64 turn, .int .u64 tail, .int .u64 count, .int .u64 first, .int .u64 last, .int .u64 state] 34 (0, 0)) from blk_far HS.out (by simp) _)
  have hTne : w.heap.size + 1 ≠ T := by have := HTR.out; omega
  replace HT := Aside0.mk (show CrcT (w3.setCell ⟨w.heap.size + 1, 0, none⟩ (.int .u64 u)) T from blk_far HT.out (by show T ≠ w.heap.size + 1; omega) _)
  replace HB := Aside0.mk (show Below w.heap.size w (w3.setCell ⟨w.heap.size + 1, 0, none⟩ (.int .u64 u)) from sbelow_set HB.out _ (Nat.le_succ _) _)
  have HZ := Aside0.mk (blk_new (w3.setCell ⟨w.heap.size + 1, 0, none⟩ (.int .u64 u)) (.cells zs 5))
  have HBG := Aside0.mk HB.out.size
  have HTB := Aside0.mk (blk_lt HT.out)
  have HRB := Aside0.mk (blk_lt HR.out)
  replace HR := Aside0.mk (blk_alloc HR.out (.cells zs 5))
  replace HS := Aside0.mk (blk_alloc HS.out (.cells zs 5))
  replace HT := Aside0.mk (CrcT.below HT.out (below_alloc (Below.refl _ _) (.cells zs 5)))
  replace HB := Aside0.mk (below_alloc HB.out (.cells zs 5))
  obtain ⟨wb, hwb⟩ : ∃ wb, (w3.setCell ⟨w.heap.size + 1, 0, none⟩ (.int .u64 u)) = wb := ⟨_, rfl⟩
  rw [hwb] at HZ HR HS HT HB HBG HTB HRB ⊢
  have hsz : wb.heap.size = w3.heap.size := by rw [← hwb]; simp
  rw [hsz] at HZ HBG HTB HRB
  obtain ⟨b, hb⟩ : ∃ b, w3.heap.size = b := ⟨_, rfl⟩
  rw [hb] at HZ HBG HTB HRB
  first | rw [hb] | skip
  obtain ⟨wa, hwa⟩ : ∃ wa, wb.alloc (.cells zs 5) = wa := ⟨_, rfl⟩
  rw [hwa] at HZ HR HS HT HB ⊢
  rw [← HZS.out] at HZ
  clear hb hsz hwb hwa hx hTne r0 r1 r2 r3 r4 r5 f0 f1 f2 f3 f4 f5 s0 s1 s2 s3 s4 s5 g0 g1 g2 g3 g4 g5
  have r0 := blk_cell HS.out 0
  have r1 := blk_cell HS.out 1
  have r2 := blk_cell HS.out 2
  have r3 := blk_cell HS.out 3
  have r4 := blk_cell HS.out 4
  have r5 := blk_cell HS.out 5
  refine start_ (n := 10) (S := fun w' => w'.cell? ⟨w.heap.size, 0, none⟩ = some (.int .u64 turn) ∧ w'.cell? ⟨w.heap.size, 1, none⟩ = some (.int .u64 tail) ∧ w'.cell? ⟨w.heap.size, 2, none⟩ = some (.int .u64 count) ∧ w'.cell? ⟨w.heap.size, 3, none⟩ = some (.int .u64 first) ∧ w'.cell? ⟨w.heap.size, 4, none⟩ = some (.int .u64 last) ∧ w'.cell? ⟨w.heap.size, 5, none⟩ = some (.int .u64 state)) (ds := [9]) #[false, false, false, false, false, false, false, false, false, false] (by kernel_rfl) rfl rfl ⟨r0, r1, r2, r3, r4, r5⟩ (fun hHeld => ?_)
  refine pure_ (i := 0) (N := some 32) (v := ?_) (a' := ?_) #[true, false, false, false, false, false, false, false, false, false] rfl rfl (by kernel_rfl) (fun _ _ _ h => h) (Or.inl ⟨by rfl, ?_⟩) ?_ ?_
  rotate_left
  · intro w'
    go_simp
    with_reducible rfl
  rotate_left
  · simp only [Act.put, List.setIfInBounds_toArray, List.set_cons_zero, List.set_cons_succ, i64_w, i32_w]
    rfl
  refine pure_ (i := 7) (N := some 39) (v := ?_) (a' := ?_) #[true, false, false, false, false, false, false, true, false, false] rfl rfl (by kernel_rfl) (fun _ _ _ h => h) (Or.inl ⟨by rfl, ?_⟩) ?_ ?_
  rotate_left
  · intro w'
    go_simp
    with_reducible rfl
  rotate_left
  · simp only [Act.put, List.setIfInBounds_toArray, List.set_cons_zero, List.set_cons_succ, i64_w, i32_w]
    rfl
  refine take_ (i := 1) (N := some 33) (v := ?_) (a' := ?_) #[true, true, false, false, false, false, false, true, false, false] rfl rfl (by kernel_rfl) (fun _ _ _ h => h) (Or.inl ⟨by rfl, ?_⟩) hHeld ?_ ?_
  rotate_left
  · rintro w' ⟨s0, s1, s2, s3, s4, s5⟩
    go_simp
    with_reducible rfl
  rotate_left
  · simp only [Act.put, List.setIfInBounds_toArray, List.set_cons_zero, List.set_cons_succ, i64_w, i32_w]
    rfl
  refine take_ (i := 5) (N := some 37) (v := ?_) (a' := ?_) #[true, true, false, false, false, true, false, true, false, false] rfl rfl (by kernel_rfl) (fun _ _ _ h => h) (Or.inl ⟨by rfl, ?_⟩) hHeld ?_ ?_
  rotate_left
  · rintro w' ⟨s0, s1, s2, s3, s4, s5⟩
    go_simp
    with_reducible rfl
  rotate_left
  · simp only [Act.put, List.setIfInBounds_toArray, List.set_cons_zero, List.set_cons_succ, i64_w, i32_w]
    rfl
  refine one_ (i := 2) (N := some 34) #[true, true, true, false, false, true, false, true, false, false] rfl rfl (by kernel_rfl) (by decide) (fun K hK => ?_)
  refine goes_ Try.func23 (by kernel_rfl) rfl #[.agg #[.int .u64 turn, .int .u64 tail, .int .u64 count, .int .u64 first, .int .u64 last, .int .u64 state]] (by rfl) rfl rfl (by (try simp only [List.map_toArray, List.map_cons, List.map_nil]); first | done | rfl) ?_
  with_reducible refine (slot_to_calls turn tail count first last state _).mono ?_
  rintro e w5 ⟨rfl, hb5⟩
  refine ⟨_, rfl, ?_⟩
  refine hK.out _ _ ⟨(pw_cell_below hb5 hHeld.1), (pw_cell_below hb5 hHeld.2.1), (pw_cell_below hb5 hHeld.2.2.1), (pw_cell_below hb5 hHeld.2.2.2.1), (pw_cell_below hb5 hHeld.2.2.2.2.1), (pw_cell_below hb5 hHeld.2.2.2.2.2)⟩ (fun hHeld => ?_)
  clear hK K
  refine norm_ (a' := ?_) ?_ ?_
  rotate_left
  · show Act.put _ (some 34) _ = _
    simp only [Act.put, List.setIfInBounds_toArray, List.set_cons_zero, List.set_cons_succ, i64_w, i32_w]
    rfl
  refine one_ (i := 3) (N := some 35) #[true, true, true, true, false, true, false, true, false, false] rfl rfl (by kernel_rfl) (by decide) (fun K hK => ?_)
  refine goes_ Try.func24 (by kernel_rfl) rfl #[.agg #[.int .u64 turn, .int .u64 tail, .int .u64 count, .int .u64 first, .int .u64 last, .int .u64 state]] (by rfl) rfl rfl (by (try simp only [List.map_toArray, List.map_cons, List.map_nil]); first | done | rfl) ?_
  with_reducible refine (CP1.out _).mono ?_
  rintro e w6 ⟨rfl, hb6⟩
  refine ⟨_, rfl, ?_⟩
  refine hK.out _ _ ⟨(pw_cell_below hb6 hHeld.1), (pw_cell_below hb6 hHeld.2.1), (pw_cell_below hb6 hHeld.2.2.1), (pw_cell_below hb6 hHeld.2.2.2.1), (pw_cell_below hb6 hHeld.2.2.2.2.1), (pw_cell_below hb6 hHeld.2.2.2.2.2)⟩ (fun hHeld => ?_)
  clear hK K
  refine norm_ (a' := ?_) ?_ ?_
  rotate_left
  · show Act.put _ (some 35) _ = _
    simp only [Act.put, List.setIfInBounds_toArray, List.set_cons_zero, List.set_cons_succ, i64_w, i32_w]
    rfl
  refine pure_ (i := 4) (N := some 36) (v := ?_) (a' := ?_) #[true, true, true, true, true, true, false, true, false, false] rfl rfl (by kernel_rfl) (fun _ _ _ h => h) (Or.inl ⟨by rfl, ?_⟩) ?_ ?_
  rotate_left
  · intro w'
    go_simp
    with_reducible rfl
  rotate_left
  · simp only [Act.put, List.setIfInBounds_toArray, List.set_cons_zero, List.set_cons_succ, i64_w, i32_w]
    rfl
  refine one_ (i := 6) (N := some 38) #[true, true, true, true, true, true, true, true, false, false] rfl rfl (by kernel_rfl) (by decide) (fun K hK => ?_)
  refine goes_ Try.func23 (by kernel_rfl) rfl #[.agg #[.int .u64 turn, .int .u64 tail, .int .u64 count, .int .u64 first, .int .u64 last, .int .u64 state]] (by rfl) rfl rfl (by (try simp only [List.map_toArray, List.map_cons, List.map_nil]); first | done | rfl) ?_
  with_reducible refine (slot_to_calls turn tail count first last state _).mono ?_
  rintro e w7 ⟨rfl, hb7⟩
  refine ⟨_, rfl, ?_⟩
  refine hK.out _ _ ⟨(pw_cell_below hb7 hHeld.1), (pw_cell_below hb7 hHeld.2.1), (pw_cell_below hb7 hHeld.2.2.1), (pw_cell_below hb7 hHeld.2.2.2.1), (pw_cell_below hb7 hHeld.2.2.2.2.1), (pw_cell_below hb7 hHeld.2.2.2.2.2)⟩ (fun hHeld => ?_)
  clear hK K
  refine norm_ (a' := ?_) ?_ ?_
  rotate_left
  · show Act.put _ (some 38) _ = _
    simp only [Act.put, List.setIfInBounds_toArray, List.set_cons_zero, List.set_cons_succ, i64_w, i32_w]
    rfl
  refine one_ (i := 8) (N := some 40) #[true, true, true, true, true, true, true, true, true, false] rfl rfl (by kernel_rfl) (by decide) (fun K hK => ?_)
  refine goes_ Try.func25 (by kernel_rfl) rfl #[.agg #[.int .u64 turn, .int .u64 tail, .int .u64 count, .int .u64 first, .int .u64 last, .int .u64 state], .pointer (some ⟨T, 0, none⟩)] (by rfl) rfl rfl (by (try simp only [List.map_toArray, List.map_cons, List.map_nil]); first | done | rfl) ?_
  with_reducible refine (slot_Encode_yes turn tail count first last state _ T (((((CrcT.below HT.out (below_drew (Below.refl _ _))).below hb5).below hb6).below hb7)) HS1.out turn0 (by have := HTU.out; omega) tail0 tail1 count0 count1 first0 first1 last0 last1 state0 state1).mono ?_
  rintro e w8 ⟨v8, rfl, ho8, hb8⟩
  refine ⟨_, rfl, ?_⟩
  refine hK.out _ _ ⟨(pw_cell_below hb8 hHeld.1), (pw_cell_below hb8 hHeld.2.1), (pw_cell_below hb8 hHeld.2.2.1), (pw_cell_below hb8 hHeld.2.2.2.1), (pw_cell_below hb8 hHeld.2.2.2.2.1), (pw_cell_below hb8 hHeld.2.2.2.2.2)⟩ (fun hHeld => ?_)
  clear hK K
  refine norm_ (a' := ?_) ?_ ?_
  rotate_left
  · show Act.put _ (some 40) _ = _
    simp only [Act.put, List.setIfInBounds_toArray, List.set_cons_zero, List.set_cons_succ, i64_w, i32_w]
    rfl
  refine last_ (i := 9) (N := some 41) #[true, true, true, true, true, true, true, true, true, true] rfl rfl (by kernel_rfl) (by decide) (fun K hK => ?_)
  have hz := blk_below (blk_below (blk_below (blk_below (blk_drew HZ.out) hb5) hb6) hb7) hb8
  obtain ⟨ad8, c8, rfl, hc8⟩ := rd_slice (Own.rd ho8) (show (encZ [] [turn, tail, count, first, last, state]).length = 64 by rw [encZ, List.length_append, encC_len, List.length_replicate]; rfl) (by omega)
  refine copy_step (by rfl) (.tmp 36) (.tmp 40) (by rfl) Try.underlying22 (by kernel_rfl) rfl rfl (List.replicate 256 0) (encZ [] [turn, tail, count, first, last, state]) hz (show (encZ [] [turn, tail, count, first, last, state]).length = 64 by rw [encZ, List.length_append, encC_len, List.length_replicate]; rfl) rfl hc8 (by simp only [List.length_replicate, List.length_append, HLS.out, HLR.out]; omega) ?_
  intro w9 hg9 hk9
  refine hK.out _ _ ?_
  clear hK K
  refine norm_ (a' := ?_) ?_ ?_
  rotate_left
  · show Act.put _ (some 41) _ = _
    simp only [Act.put, List.setIfInBounds_toArray, List.set_cons_zero, List.set_cons_succ, i64_w, i32_w]
    rfl
  refine done_ (by kernel_rfl) ?_
  have HB4 := Aside0.mk (below_step (below_step (below_step (below_step (below_drew HB.out) hb5) hb6) hb7) hb8)
  replace HB := Aside0.mk (Kp.from HB4.out hk9 (fun k hk => by rw [hk]; exact HBG.out))
  replace HS := Aside0.mk (hk9.blk (blk_below (blk_below (blk_below (blk_below (blk_drew HS.out) hb5) hb6) hb7) hb8) (by have := HRB.out; omega))
  replace HR := Aside0.mk (hk9.blk (blk_below (blk_below (blk_below (blk_below (blk_drew HR.out) hb5) hb6) hb7) hb8) (by have := HRB.out; omega))
  replace HT := Aside0.mk (hk9.blk (blk_below (blk_below (blk_below (blk_below (blk_drew HT.out) hb5) hb6) hb7) hb8) (by have := HTB.out; omega))
  replace HZ := Aside0.mk hg9
  clear HB4 hb5 hb6 hb7 hb8 hk9 hg9 hc8 ho8 r0 r1 r2 r3 r4 r5
  rw [spl0 _ HLS.out] at HZ
  have r0 := blk_cell HS.out 0
  have r1 := blk_cell HS.out 1
  have r2 := blk_cell HS.out 2
  have r3 := blk_cell HS.out 3
  have r4 := blk_cell HS.out 4
  have r5 := blk_cell HS.out 5
  go_upto_region 8 with fail
  have HW := Aside0.mk (blk_new w9 (.cells #[.int .u64 turn, .int .u64 tail, .int .u64 count, .int .u64 first, .int .u64 last, .int .u64 state] 34))
  have HSW := Aside0.mk (blk_lt HR.out)
  have HBW := Aside0.mk HB.out.size
  have HZW := Aside0.mk (blk_lt HZ.out)
  replace HS := Aside0.mk (blk_alloc HS.out (.cells #[.int .u64 turn, .int .u64 tail, .int .u64 count, .int .u64 first, .int .u64 last, .int .u64 state] 34))
  replace HR := Aside0.mk (blk_alloc HR.out (.cells #[.int .u64 turn, .int .u64 tail, .int .u64 count, .int .u64 first, .int .u64 last, .int .u64 state] 34))
  replace HT := Aside0.mk (CrcT.below HT.out (below_alloc (Below.refl _ _) (.cells #[.int .u64 turn, .int .u64 tail, .int .u64 count, .int .u64 first, .int .u64 last, .int .u64 state] 34)))
  replace HB := Aside0.mk (below_alloc HB.out (.cells #[.int .u64 turn, .int .u64 tail, .int .u64 count, .int .u64 first, .int .u64 last, .int .u64 state] 34))
  replace HZ := Aside0.mk (blk_alloc HZ.out (.cells #[.int .u64 turn, .int .u64 tail, .int .u64 count, .int .u64 first, .int .u64 last, .int .u64 state] 34))
  obtain ⟨g, hg⟩ : ∃ g, w9.heap.size = g := ⟨_, rfl⟩
  rw [hg] at HW HSW HZW HBW
  first | rw [hg] | skip
  obtain ⟨wc, hwc⟩ : ∃ wc, w9.alloc (.cells #[.int .u64 turn, .int .u64 tail, .int .u64 count, .int .u64 first, .int .u64 last, .int .u64 state] 34) = wc := ⟨_, rfl⟩
  rw [hwc] at HW HS HR HT HB HZ ⊢
  clear hg hwc r0 r1 r2 r3 r4 r5
  obtain ⟨wd, hwd⟩ : ∃ wd, wc = wd := ⟨_, rfl⟩
  rw [hwd] at HW HT HB HZ ⊢
  clear hwd
  go_upto_region 11 with fail
  obtain ⟨LL, hLL⟩ : ∃ LL, List.replicate 64 0 ++ (encZ [] [turn, tail, count, first, last, state] ++ List.replicate 128 0) = LL := ⟨_, rfl⟩
  have hLn : LL.length = 256 := by rw [← hLL]; simp only [List.length_append, List.length_replicate, HLS.out, HLR.out]
  have hLb : isB LL := by rw [← hLL]; exact (zeros_isB 64).app ((encZ_isB isB_nil _).app (zeros_isB 128))
  rw [hLL] at HZ HCH
  have hrd := Own.rd (own_blk (base := 0) HZ.out (Nat.zero_le _) (by omega))
  rw [hLn] at hrd
  have CC := Aside0.mk (slot_Choose_calls _ LL wd T HT.out hrd hLb (by omega))
  rw [HCH.out] at CC
  have HCC := CC
  rw [show chR (true, [turn, tail, count, first, last, state]) = .tuple #[.agg #[.int .u64 turn, .int .u64 tail, .int .u64 count, .int .u64 first, .int .u64 last, .int .u64 state], .bool true] from rfl] at HCC
  clear hLL hLn hLb hrd CC
  go_wp2_with fail
  refine (HCC.out).mono ?_
  rintro _ wf ⟨rfl, hb⟩
  have HX := Aside0.mk (blk_new wf (.cells #[.int .u64 turn, .int .u64 tail, .int .u64 count, .int .u64 first, .int .u64 last, .int .u64 state] 38))
  replace HW := Aside0.mk (blk_alloc (blk_below HW.out hb) (.cells #[.int .u64 turn, .int .u64 tail, .int .u64 count, .int .u64 first, .int .u64 last, .int .u64 state] 38))
  replace HB := Aside0.mk (below_alloc (below_step HB.out hb) (.cells #[.int .u64 turn, .int .u64 tail, .int .u64 count, .int .u64 first, .int .u64 last, .int .u64 state] 38))
  clear hb
  go_upto_region 12 with fail
  obtain ⟨d, hd⟩ : ∃ d, wf.heap.size = d := ⟨_, rfl⟩
  rw [hd] at HX
  first | rw [hd] | skip
  obtain ⟨we, hwe⟩ : ∃ we, wf.alloc (.cells #[.int .u64 turn, .int .u64 tail, .int .u64 count, .int .u64 first, .int .u64 last, .int .u64 state] 38) = we := ⟨_, rfl⟩
  rw [hwe] at HW HB HX ⊢
  clear hd hwe HCC
  have r0 := blk_cell HX.out 0
  have r1 := blk_cell HX.out 1
  have r2 := blk_cell HX.out 2
  have r3 := blk_cell HX.out 3
  have r4 := blk_cell HX.out 4
  have r5 := blk_cell HX.out 5
  have s0 := blk_cell HW.out 0
  have s1 := blk_cell HW.out 1
  have s2 := blk_cell HW.out 2
  have s3 := blk_cell HW.out 3
  have s4 := blk_cell HW.out 4
  have s5 := blk_cell HW.out 5
  refine start_ (n := 11) (S := fun w' => w'.cell? ⟨d, 0, none⟩ = some (.int .u64 turn) ∧ w'.cell? ⟨d, 1, none⟩ = some (.int .u64 tail) ∧ w'.cell? ⟨d, 2, none⟩ = some (.int .u64 count) ∧ w'.cell? ⟨d, 3, none⟩ = some (.int .u64 first) ∧ w'.cell? ⟨d, 4, none⟩ = some (.int .u64 last) ∧ w'.cell? ⟨d, 5, none⟩ = some (.int .u64 state) ∧ w'.cell? ⟨g, 0, none⟩ = some (.int .u64 turn) ∧ w'.cell? ⟨g, 1, none⟩ = some (.int .u64 tail) ∧ w'.cell? ⟨g, 2, none⟩ = some (.int .u64 count) ∧ w'.cell? ⟨g, 3, none⟩ = some (.int .u64 first) ∧ w'.cell? ⟨g, 4, none⟩ = some (.int .u64 last) ∧ w'.cell? ⟨g, 5, none⟩ = some (.int .u64 state)) (ds := []) #[false, false, false, false, false, false, false, false, false, false, false] (by kernel_rfl) rfl rfl ⟨r0, r1, r2, r3, r4, r5, s0, s1, s2, s3, s4, s5⟩ (fun hHeld => ?_)
  refine pure_ (i := 0) (N := some 61) (v := ?_) (a' := ?_) #[true, false, false, false, false, false, false, false, false, false, false] rfl rfl (by kernel_rfl) (fun _ _ _ h => h) (Or.inl ⟨by rfl, ?_⟩) ?_ ?_
  rotate_left
  · intro w'
    go_simp
    with_reducible rfl
  rotate_left
  · simp only [Act.put, List.setIfInBounds_toArray, List.set_cons_zero, List.set_cons_succ, i64_w, i32_w]
    rfl
  refine pure_ (i := 1) (N := some 62) (v := ?_) (a' := ?_) #[true, true, false, false, false, false, false, false, false, false, false] rfl rfl (by kernel_rfl) (fun _ _ _ h => h) (Or.inl ⟨by rfl, ?_⟩) ?_ ?_
  rotate_left
  · intro w'
    go_simp
    with_reducible rfl
  rotate_left
  · simp only [Act.put, List.setIfInBounds_toArray, List.set_cons_zero, List.set_cons_succ, i64_w, i32_w]
    rfl
  refine take_ (i := 2) (N := some 63) (v := ?_) (a' := ?_) #[true, true, true, false, false, false, false, false, false, false, false] rfl rfl (by kernel_rfl) (fun _ _ _ h => h) (Or.inl ⟨by rfl, ?_⟩) hHeld ?_ ?_
  rotate_left
  · rintro w' ⟨s0, s1, s2, s3, s4, s5, s6, s7, s8, s9, s10, s11⟩
    go_simp
    with_reducible rfl
  rotate_left
  · simp only [Act.put, List.setIfInBounds_toArray, List.set_cons_zero, List.set_cons_succ, i64_w, i32_w]
    rfl
  refine take_ (i := 4) (N := some 65) (v := ?_) (a' := ?_) #[true, true, true, false, true, false, false, false, false, false, false] rfl rfl (by kernel_rfl) (fun _ _ _ h => h) (Or.inl ⟨by rfl, ?_⟩) hHeld ?_ ?_
  rotate_left
  · rintro w' ⟨s0, s1, s2, s3, s4, s5, s6, s7, s8, s9, s10, s11⟩
    go_simp
    with_reducible rfl
  rotate_left
  · simp only [Act.put, List.setIfInBounds_toArray, List.set_cons_zero, List.set_cons_succ, i64_w, i32_w]
    rfl
  refine one_ (i := 3) (N := some 64) #[true, true, true, true, true, false, false, false, false, false, false] rfl rfl (by kernel_rfl) (by decide) (fun K hK => ?_)
  refine goes_ Try.func27 (by kernel_rfl) rfl #[.agg #[.int .u64 turn, .int .u64 tail, .int .u64 count, .int .u64 first, .int .u64 last, .int .u64 state]] (by rfl) rfl rfl (by (try simp only [List.map_toArray, List.map_cons, List.map_nil]); first | done | rfl) ?_
  with_reducible refine (slot_of_calls turn tail count first last state _).mono ?_
  rintro e w15 ⟨rfl, hb15⟩
  refine ⟨_, rfl, ?_⟩
  refine hK.out _ _ ⟨(pw_cell_below hb15 hHeld.1), (pw_cell_below hb15 hHeld.2.1), (pw_cell_below hb15 hHeld.2.2.1), (pw_cell_below hb15 hHeld.2.2.2.1), (pw_cell_below hb15 hHeld.2.2.2.2.1), (pw_cell_below hb15 hHeld.2.2.2.2.2.1), (pw_cell_below hb15 hHeld.2.2.2.2.2.2.1), (pw_cell_below hb15 hHeld.2.2.2.2.2.2.2.1), (pw_cell_below hb15 hHeld.2.2.2.2.2.2.2.2.1), (pw_cell_below hb15 hHeld.2.2.2.2.2.2.2.2.2.1), (pw_cell_below hb15 hHeld.2.2.2.2.2.2.2.2.2.2.1), (pw_cell_below hb15 hHeld.2.2.2.2.2.2.2.2.2.2.2)⟩ (fun hHeld => ?_)
  clear hK K
  refine norm_ (a' := ?_) ?_ ?_
  rotate_left
  · show Act.put _ (some 64) _ = _
    simp only [Act.put, List.setIfInBounds_toArray, List.set_cons_zero, List.set_cons_succ, i64_w, i32_w]
    rfl
  refine pure_ (i := 5) (N := some 66) (v := ?_) (a' := ?_) #[true, true, true, true, true, true, false, false, false, false, false] rfl rfl (by kernel_rfl) (fun _ _ _ h => h) (Or.inl ⟨by rfl, ?_⟩) ?_ ?_
  rotate_left
  · intro w'
    go_simp
    with_reducible rfl
  rotate_left
  · simp only [Act.put, List.setIfInBounds_toArray, List.set_cons_zero, List.set_cons_succ, i64_w, i32_w]
    rfl
  refine pure_ (i := 6) (N := some 67) (v := ?_) (a' := ?_) #[true, true, true, true, true, true, true, false, false, false, false] rfl rfl (by kernel_rfl) (fun _ _ _ h => h) (Or.inl ⟨by rfl, ?_⟩) ?_ ?_
  rotate_left
  · intro w'
    go_simp
    with_reducible rfl
  rotate_left
  · simp only [Act.put, List.setIfInBounds_toArray, List.set_cons_zero, List.set_cons_succ, i64_w, i32_w]
    rfl
  refine pure_ (i := 7) (N := some 68) (v := ?_) (a' := ?_) #[true, true, true, true, true, true, true, true, false, false, false] rfl rfl (by kernel_rfl) (fun _ _ _ h => h) (Or.inl ⟨by rfl, ?_⟩) ?_ ?_
  rotate_left
  · intro w'
    go_simp
    with_reducible rfl
  rotate_left
  · simp only [Act.put, List.setIfInBounds_toArray, List.set_cons_zero, List.set_cons_succ, i64_w, i32_w]
    rfl
  refine one_ (i := 8) (N := some 69) #[true, true, true, true, true, true, true, true, true, false, false] rfl rfl (by kernel_rfl) (by decide) (fun K hK => ?_)
  refine goes_ Try.func21 (by kernel_rfl) rfl #[] (by rfl) rfl rfl (by (try simp only [List.map_toArray, List.map_cons, List.map_nil]); first | done | rfl) ?_
  with_reducible refine (slot_awake_calls _).mono ?_
  rintro e w16 ⟨rfl, hb16⟩
  refine ⟨_, rfl, ?_⟩
  refine hK.out _ _ ⟨(pw_cell_below hb16 hHeld.1), (pw_cell_below hb16 hHeld.2.1), (pw_cell_below hb16 hHeld.2.2.1), (pw_cell_below hb16 hHeld.2.2.2.1), (pw_cell_below hb16 hHeld.2.2.2.2.1), (pw_cell_below hb16 hHeld.2.2.2.2.2.1), (pw_cell_below hb16 hHeld.2.2.2.2.2.2.1), (pw_cell_below hb16 hHeld.2.2.2.2.2.2.2.1), (pw_cell_below hb16 hHeld.2.2.2.2.2.2.2.2.1), (pw_cell_below hb16 hHeld.2.2.2.2.2.2.2.2.2.1), (pw_cell_below hb16 hHeld.2.2.2.2.2.2.2.2.2.2.1), (pw_cell_below hb16 hHeld.2.2.2.2.2.2.2.2.2.2.2)⟩ (fun hHeld => ?_)
  clear hK K
  refine norm_ (a' := ?_) ?_ ?_
  rotate_left
  · show Act.put _ (some 69) _ = _
    simp only [Act.put, List.setIfInBounds_toArray, List.set_cons_zero, List.set_cons_succ, i64_w, i32_w]
    rfl
  refine pure_ (i := 9) (N := some 70) (v := ?_) (a' := ?_) #[true, true, true, true, true, true, true, true, true, true, false] rfl rfl (by kernel_rfl) (fun _ _ _ h => h) (Or.inl ⟨by rfl, ?_⟩) ?_ ?_
  rotate_left
  · intro w'
    go_simp
    with_reducible rfl
  rotate_left
  · simp only [Act.put, List.setIfInBounds_toArray, List.set_cons_zero, List.set_cons_succ, i64_w, i32_w]
    rfl
  refine pure_ (i := 10) (N := some 6) (v := ?_) (a' := ?_) #[true, true, true, true, true, true, true, true, true, true, true] rfl rfl (by kernel_rfl) (fun _ _ _ h => h) (Or.inl ⟨by rfl, ?_⟩) ?_ ?_
  rotate_left
  · intro w'
    go_simp
    with_reducible rfl
  rotate_left
  · simp only [Act.put, List.setIfInBounds_toArray, List.set_cons_zero, List.set_cons_succ, i64_w, i32_w]
    rfl
  refine done_ (by kernel_rfl) ?_
  replace HB := Aside0.mk (below_step (below_step (below_drew HB.out) hb15) hb16)
  clear hb15 hb16
  go_wp2_with fail
  go_ret
  exact ⟨rfl, HB.out⟩
set_option maxHeartbeats 8000000 in
set_option maxRecDepth 100000 in
theorem SlotTurns_01 (turn tail count first last state turn2 tail2 count2 first2 last2 state2 : Int) (w : World) (hs : sR turn state tail = true) (hq : sR turn2 state2 tail2 = true) (hp : turn % 2 = 0) (tail0 : 0 ≤ tail) (tail1 : tail ≤ 18446744073709551615) (count0 : 0 ≤ count) (count1 : count ≤ 18446744073709551615) (first0 : 0 ≤ first) (first1 : first ≤ 18446744073709551615) (last0 : 0 ≤ last) (last1 : last ≤ 18446744073709551615) (state0 : 0 ≤ state) (state1 : state ≤ 18446744073709551615) (turn0 : 0 ≤ turn) (turn1 : turn ≤ 18446744073709551614) (turn20 : 0 ≤ turn2) (turn21 : turn2 ≤ 18446744073709551615) (tail20 : 0 ≤ tail2) (tail21 : tail2 ≤ 18446744073709551615) (count20 : 0 ≤ count2) (count21 : count2 ≤ 18446744073709551615) (first20 : 0 ≤ first2) (first21 : first2 ≤ 18446744073709551615) (last20 : 0 ≤ last2) (last21 : last2 ≤ 18446744073709551615) (state20 : 0 ≤ state2) (state21 : state2 ≤ 18446744073709551615) :
    Calls Try.prog 4 #[.agg #[.int .u64 turn, .int .u64 tail, .int .u64 count, .int .u64 first, .int .u64 last, .int .u64 state], .agg #[.int .u64 turn2, .int .u64 tail2, .int .u64 count2, .int .u64 first2, .int .u64 last2, .int .u64 state2], .bool true] w fun e w' => e = .returned (.bool true) ∧ Below w.heap.size w w' := by
  obtain ⟨u, hu⟩ : ∃ u, turn + 1 = u := ⟨_, rfl⟩
  have hR2 : sR u state2 tail2 = true := by
    rw [sR] at hq ⊢
    have h1 := Bool.and_eq_true_iff.1 hq
    have h2 := Bool.and_eq_true_iff.1 h1.1
    rw [h1.2, h2.2, decide_eq_true (by omega)]; rfl
  have hw1 : isW [turn, tail, count, first, last, state] := by intro x hx; simp only [List.mem_cons, List.not_mem_nil, or_false] at hx; rcases hx with rfl | rfl | rfl | rfl | rfl | rfl <;> exact ⟨by assumption, by omega⟩
  have hw2 : isW [u, tail2, count2, first2, last2, state2] := by intro x hx; simp only [List.mem_cons, List.not_mem_nil, or_false] at hx; rcases hx with rfl | rfl | rfl | rfl | rfl | rfl <;> exact ⟨by omega, by omega⟩
  have HCH := Aside0.mk (ch_01 turn tail count first last state u tail2 count2 first2 last2 state2 hs hR2 hu.symm hw1 hw2)
  have HLS := Aside0.mk (show (encZ [] [turn, tail, count, first, last, state]).length = 64 by rw [encZ, List.length_append, encC_len, List.length_replicate]; rfl)
  have HLR := Aside0.mk (show (encZ [] [u, tail2, count2, first2, last2, state2]).length = 64 by rw [encZ, List.length_append, encC_len, List.length_replicate]; rfl)
  have CP1 := Aside0.mk (fun w => slot_Place_calls turn tail count first last state w (by omega) (by omega))
  have CP2 := Aside0.mk (fun w => slot_Place_calls u tail2 count2 first2 last2 state2 w (by omega) (by omega))
  rw [hp, show (64 * (1 + (0 : Int))) = 64 from rfl] at CP1
  rw [show u % 2 = 1 by omega, show (64 * (1 + (1 : Int))) = 128 from rfl] at CP2
  have C1 := Aside0.mk (fun w => ref_sRight_calls turn tail count first last state w (by omega) (by omega))
  have C2 := Aside0.mk (fun w => ref_sRight_calls turn2 tail2 count2 first2 last2 state2 w (by omega) (by omega))
  rw [hs] at C1
  rw [hq] at C2
  have HS1 := Aside0.mk hs
  have HS2 := Aside0.mk hR2
  have HU := Aside0.mk hu
  have hne : (turn == 18446744073709551615) = false := by rw [beq_eq_false_iff_ne]; omega
  have hwu : IntKind.u64.wrap (turn + 1) = u := by rw [IntKind.wrap_u64]; omega
  have hmk : ∀ w : World, (Instr.makeSlice 22 (.int .i64 256) (.int .i64 256)).run Try.prog w = .ok (.slice (some ⟨w.heap.size, 0, none⟩) 256 256) (w.alloc (.cells (nums .u8 (List.replicate 256 0)).toArray 5)) := fun _ => by kernel_rfl
  obtain ⟨zs, hzs⟩ : ∃ zs, (nums .u8 (List.replicate 256 0)).toArray = zs := ⟨_, rfl⟩
  rw [hzs] at hmk
  have HZS := Aside0.mk hzs
  have HTU := Aside0.mk turn1
  clear hs hq hR2 hu hw1 hw2 hzs turn1 hp
  go_enter Try.func4, Try.ntmps4
  go_wp2_with fail
  refine (C1.out _).mono ?_
  rintro _ w1 ⟨rfl, hb⟩
  have HS := Aside0.mk (blk_below (blk_alloc (blk_new w (.cells #[.int .u64 turn, .int .u64 tail, .int .u64 count, .int .u64 first, .int .u64 last, .int .u64 state] 34)) (.cells #[.int .u64 turn2, .int .u64 tail2, .int .u64 count2, .int .u64 first2, .int .u64 last2, .int .u64 state2] 34)) hb)
  have HR := Aside0.mk (blk_below (show ((w.alloc (.cells #[.int .u64 turn, .int .u64 tail, .int .u64 count, .int .u64 first, .int .u64 last, .int .u64 state] 34)).alloc (.cells #[.int .u64 turn2, .int .u64 tail2, .int .u64 count2, .int .u64 first2, .int .u64 last2, .int .u64 state2] 34)).heap[w.heap.size + 1]? = some (.cells #[.int .u64 turn2, .int .u64 tail2, .int .u64 count2, .int .u64 first2, .int .u64 last2, .int .u64 state2] 34 (0, 0)) by have := blk_new (w.alloc (.cells #[.int .u64 turn, .int .u64 tail, .int .u64 count, .int .u64 first, .int .u64 last, .int .u64 state] 34)) (.cells #[.int .u64 turn2, .int .u64 tail2, .int .u64 count2, .int .u64 first2, .int .u64 last2, .int .u64 state2] 34); simpa using this) hb)
  have HB := Aside0.mk (below_step (below_alloc (below_alloc (Below.refl w.heap.size w) (.cells #[.int .u64 turn, .int .u64 tail, .int .u64 count, .int .u64 first, .int .u64 last, .int .u64 state] 34)) (.cells #[.int .u64 turn2, .int .u64 tail2, .int .u64 count2, .int .u64 first2, .int .u64 last2, .int .u64 state2] 34)) hb)
  clear hb
  have r0 := blk_cell HR.out 0
  have r1 := blk_cell HR.out 1
  have r2 := blk_cell HR.out 2
  have r3 := blk_cell HR.out 3
  have r4 := blk_cell HR.out 4
  have r5 := blk_cell HR.out 5
  have f0 := blk_frozen HR.out 0
  have f1 := blk_frozen HR.out 1
  have f2 := blk_frozen HR.out 2
  have f3 := blk_frozen HR.out 3
  have f4 := blk_frozen HR.out 4
  have f5 := blk_frozen HR.out 5
  go_wp2_with fail
  refine (C2.out _).mono ?_
  rintro _ w2 ⟨rfl, hb⟩
  replace HS := Aside0.mk (blk_below HS.out hb)
  replace HR := Aside0.mk (blk_below HR.out hb)
  replace HB := Aside0.mk (below_step HB.out hb)
  clear hb r0 r1 r2 r3 r4 r5 f0 f1 f2 f3 f4 f5
  have r0 := blk_cell HS.out 0
  have r1 := blk_cell HS.out 1
  have r2 := blk_cell HS.out 2
  have r3 := blk_cell HS.out 3
  have r4 := blk_cell HS.out 4
  have r5 := blk_cell HS.out 5
  have f0 := blk_frozen HS.out 0
  have f1 := blk_frozen HS.out 1
  have f2 := blk_frozen HS.out 2
  have f3 := blk_frozen HS.out 3
  have f4 := blk_frozen HS.out 4
  have f5 := blk_frozen HS.out 5
  go_wp2_with fail
  refine (crc_Make_calls _).mono ?_
  rintro _ w3 ⟨rfl, hT, hb⟩
  have HBT := Aside0.mk HB.out.size
  have HTR := Aside0.mk (blk_lt HR.out)
  replace HS := Aside0.mk (blk_below HS.out hb)
  replace HR := Aside0.mk (blk_below HR.out hb)
  replace HB := Aside0.mk (below_step HB.out hb)
  have HT := Aside0.mk hT
  obtain ⟨T, hTT⟩ : ∃ T, w2.heap.size = T := ⟨_, rfl⟩
  rw [hTT] at HT HBT HTR ⊢
  clear hb hT hTT r0 r1 r2 r3 r4 r5 f0 f1 f2 f3 f4 f5
  have r0 := blk_cell HR.out 0
  have r1 := blk_cell HR.out 1
  have r2 := blk_cell HR.out 2
  have r3 := blk_cell HR.out 3
  have r4 := blk_cell HR.out 4
  have r5 := blk_cell HR.out 5
  have f0 := blk_frozen HR.out 0
  have f1 := blk_frozen HR.out 1
  have f2 := blk_frozen HR.out 2
  have f3 := blk_frozen HR.out 3
  have f4 := blk_frozen HR.out 4
  have f5 := blk_frozen HR.out 5
  have s0 := blk_cell HS.out 0
  have s1 := blk_cell HS.out 1
  have s2 := blk_cell HS.out 2
  have s3 := blk_cell HS.out 3
  have s4 := blk_cell HS.out 4
  have s5 := blk_cell HS.out 5
  have g0 := blk_frozen HS.out 0
  have g1 := blk_frozen HS.out 1
  have g2 := blk_frozen HS.out 2
  have g3 := blk_frozen HS.out 3
  have g4 := blk_frozen HS.out 4
  have g5 := blk_frozen HS.out 5
  go_upto_region 6 with fail
  have hx := blk_set HR.out 0 (.int .u64 u)
  replace HR := Aside0.mk (show (w3.setCell ⟨w.heap.size + 1, 0, none⟩ (.int .u64 u)).heap[w.heap.size + 1]? = some (.cells #[.int .u64 u, .int .u64 tail2, .int .u64 count2, .int .u64 first2, .int .u64 last2, .int .u64 state2] 34 (0, 0)) by simpa using hx)
  replace HS := Aside0.mk (show (w3.setCell ⟨w.heap.size + 1, 0, none⟩ (.int .u64 u)).heap[w.heap.size]? = some (.cells #[.int .u64 turn, .int .u64 tail, .int .u64 count, .int .u64 first, .int .u64 last, .int .u64 state] 34 (0, 0)) from blk_far HS.out (by simp) _)
  have hTne : w.heap.size + 1 ≠ T := by have := HTR.out; omega
  replace HT := Aside0.mk (show CrcT (w3.setCell ⟨w.heap.size + 1, 0, none⟩ (.int .u64 u)) T from blk_far HT.out (by show T ≠ w.heap.size + 1; omega) _)
  replace HB := Aside0.mk (show Below w.heap.size w (w3.setCell ⟨w.heap.size + 1, 0, none⟩ (.int .u64 u)) from sbelow_set HB.out _ (Nat.le_succ _) _)
  have HZ := Aside0.mk (blk_new (w3.setCell ⟨w.heap.size + 1, 0, none⟩ (.int .u64 u)) (.cells zs 5))
  have HBG := Aside0.mk HB.out.size
  have HTB := Aside0.mk (blk_lt HT.out)
  have HRB := Aside0.mk (blk_lt HR.out)
  replace HR := Aside0.mk (blk_alloc HR.out (.cells zs 5))
  replace HS := Aside0.mk (blk_alloc HS.out (.cells zs 5))
  replace HT := Aside0.mk (CrcT.below HT.out (below_alloc (Below.refl _ _) (.cells zs 5)))
  replace HB := Aside0.mk (below_alloc HB.out (.cells zs 5))
  obtain ⟨wb, hwb⟩ : ∃ wb, (w3.setCell ⟨w.heap.size + 1, 0, none⟩ (.int .u64 u)) = wb := ⟨_, rfl⟩
  rw [hwb] at HZ HR HS HT HB HBG HTB HRB ⊢
  have hsz : wb.heap.size = w3.heap.size := by rw [← hwb]; simp
  rw [hsz] at HZ HBG HTB HRB
  obtain ⟨b, hb⟩ : ∃ b, w3.heap.size = b := ⟨_, rfl⟩
  rw [hb] at HZ HBG HTB HRB
  first | rw [hb] | skip
  obtain ⟨wa, hwa⟩ : ∃ wa, wb.alloc (.cells zs 5) = wa := ⟨_, rfl⟩
  rw [hwa] at HZ HR HS HT HB ⊢
  rw [← HZS.out] at HZ
  clear hb hsz hwb hwa hx hTne r0 r1 r2 r3 r4 r5 f0 f1 f2 f3 f4 f5 s0 s1 s2 s3 s4 s5 g0 g1 g2 g3 g4 g5
  have r0 := blk_cell HS.out 0
  have r1 := blk_cell HS.out 1
  have r2 := blk_cell HS.out 2
  have r3 := blk_cell HS.out 3
  have r4 := blk_cell HS.out 4
  have r5 := blk_cell HS.out 5
  refine start_ (n := 10) (S := fun w' => w'.cell? ⟨w.heap.size, 0, none⟩ = some (.int .u64 turn) ∧ w'.cell? ⟨w.heap.size, 1, none⟩ = some (.int .u64 tail) ∧ w'.cell? ⟨w.heap.size, 2, none⟩ = some (.int .u64 count) ∧ w'.cell? ⟨w.heap.size, 3, none⟩ = some (.int .u64 first) ∧ w'.cell? ⟨w.heap.size, 4, none⟩ = some (.int .u64 last) ∧ w'.cell? ⟨w.heap.size, 5, none⟩ = some (.int .u64 state)) (ds := [9]) #[false, false, false, false, false, false, false, false, false, false] (by kernel_rfl) rfl rfl ⟨r0, r1, r2, r3, r4, r5⟩ (fun hHeld => ?_)
  refine pure_ (i := 0) (N := some 32) (v := ?_) (a' := ?_) #[true, false, false, false, false, false, false, false, false, false] rfl rfl (by kernel_rfl) (fun _ _ _ h => h) (Or.inl ⟨by rfl, ?_⟩) ?_ ?_
  rotate_left
  · intro w'
    go_simp
    with_reducible rfl
  rotate_left
  · simp only [Act.put, List.setIfInBounds_toArray, List.set_cons_zero, List.set_cons_succ, i64_w, i32_w]
    rfl
  refine pure_ (i := 7) (N := some 39) (v := ?_) (a' := ?_) #[true, false, false, false, false, false, false, true, false, false] rfl rfl (by kernel_rfl) (fun _ _ _ h => h) (Or.inl ⟨by rfl, ?_⟩) ?_ ?_
  rotate_left
  · intro w'
    go_simp
    with_reducible rfl
  rotate_left
  · simp only [Act.put, List.setIfInBounds_toArray, List.set_cons_zero, List.set_cons_succ, i64_w, i32_w]
    rfl
  refine take_ (i := 1) (N := some 33) (v := ?_) (a' := ?_) #[true, true, false, false, false, false, false, true, false, false] rfl rfl (by kernel_rfl) (fun _ _ _ h => h) (Or.inl ⟨by rfl, ?_⟩) hHeld ?_ ?_
  rotate_left
  · rintro w' ⟨s0, s1, s2, s3, s4, s5⟩
    go_simp
    with_reducible rfl
  rotate_left
  · simp only [Act.put, List.setIfInBounds_toArray, List.set_cons_zero, List.set_cons_succ, i64_w, i32_w]
    rfl
  refine take_ (i := 5) (N := some 37) (v := ?_) (a' := ?_) #[true, true, false, false, false, true, false, true, false, false] rfl rfl (by kernel_rfl) (fun _ _ _ h => h) (Or.inl ⟨by rfl, ?_⟩) hHeld ?_ ?_
  rotate_left
  · rintro w' ⟨s0, s1, s2, s3, s4, s5⟩
    go_simp
    with_reducible rfl
  rotate_left
  · simp only [Act.put, List.setIfInBounds_toArray, List.set_cons_zero, List.set_cons_succ, i64_w, i32_w]
    rfl
  refine one_ (i := 2) (N := some 34) #[true, true, true, false, false, true, false, true, false, false] rfl rfl (by kernel_rfl) (by decide) (fun K hK => ?_)
  refine goes_ Try.func23 (by kernel_rfl) rfl #[.agg #[.int .u64 turn, .int .u64 tail, .int .u64 count, .int .u64 first, .int .u64 last, .int .u64 state]] (by rfl) rfl rfl (by (try simp only [List.map_toArray, List.map_cons, List.map_nil]); first | done | rfl) ?_
  with_reducible refine (slot_to_calls turn tail count first last state _).mono ?_
  rintro e w5 ⟨rfl, hb5⟩
  refine ⟨_, rfl, ?_⟩
  refine hK.out _ _ ⟨(pw_cell_below hb5 hHeld.1), (pw_cell_below hb5 hHeld.2.1), (pw_cell_below hb5 hHeld.2.2.1), (pw_cell_below hb5 hHeld.2.2.2.1), (pw_cell_below hb5 hHeld.2.2.2.2.1), (pw_cell_below hb5 hHeld.2.2.2.2.2)⟩ (fun hHeld => ?_)
  clear hK K
  refine norm_ (a' := ?_) ?_ ?_
  rotate_left
  · show Act.put _ (some 34) _ = _
    simp only [Act.put, List.setIfInBounds_toArray, List.set_cons_zero, List.set_cons_succ, i64_w, i32_w]
    rfl
  refine one_ (i := 3) (N := some 35) #[true, true, true, true, false, true, false, true, false, false] rfl rfl (by kernel_rfl) (by decide) (fun K hK => ?_)
  refine goes_ Try.func24 (by kernel_rfl) rfl #[.agg #[.int .u64 turn, .int .u64 tail, .int .u64 count, .int .u64 first, .int .u64 last, .int .u64 state]] (by rfl) rfl rfl (by (try simp only [List.map_toArray, List.map_cons, List.map_nil]); first | done | rfl) ?_
  with_reducible refine (CP1.out _).mono ?_
  rintro e w6 ⟨rfl, hb6⟩
  refine ⟨_, rfl, ?_⟩
  refine hK.out _ _ ⟨(pw_cell_below hb6 hHeld.1), (pw_cell_below hb6 hHeld.2.1), (pw_cell_below hb6 hHeld.2.2.1), (pw_cell_below hb6 hHeld.2.2.2.1), (pw_cell_below hb6 hHeld.2.2.2.2.1), (pw_cell_below hb6 hHeld.2.2.2.2.2)⟩ (fun hHeld => ?_)
  clear hK K
  refine norm_ (a' := ?_) ?_ ?_
  rotate_left
  · show Act.put _ (some 35) _ = _
    simp only [Act.put, List.setIfInBounds_toArray, List.set_cons_zero, List.set_cons_succ, i64_w, i32_w]
    rfl
  refine pure_ (i := 4) (N := some 36) (v := ?_) (a' := ?_) #[true, true, true, true, true, true, false, true, false, false] rfl rfl (by kernel_rfl) (fun _ _ _ h => h) (Or.inl ⟨by rfl, ?_⟩) ?_ ?_
  rotate_left
  · intro w'
    go_simp
    with_reducible rfl
  rotate_left
  · simp only [Act.put, List.setIfInBounds_toArray, List.set_cons_zero, List.set_cons_succ, i64_w, i32_w]
    rfl
  refine one_ (i := 6) (N := some 38) #[true, true, true, true, true, true, true, true, false, false] rfl rfl (by kernel_rfl) (by decide) (fun K hK => ?_)
  refine goes_ Try.func23 (by kernel_rfl) rfl #[.agg #[.int .u64 turn, .int .u64 tail, .int .u64 count, .int .u64 first, .int .u64 last, .int .u64 state]] (by rfl) rfl rfl (by (try simp only [List.map_toArray, List.map_cons, List.map_nil]); first | done | rfl) ?_
  with_reducible refine (slot_to_calls turn tail count first last state _).mono ?_
  rintro e w7 ⟨rfl, hb7⟩
  refine ⟨_, rfl, ?_⟩
  refine hK.out _ _ ⟨(pw_cell_below hb7 hHeld.1), (pw_cell_below hb7 hHeld.2.1), (pw_cell_below hb7 hHeld.2.2.1), (pw_cell_below hb7 hHeld.2.2.2.1), (pw_cell_below hb7 hHeld.2.2.2.2.1), (pw_cell_below hb7 hHeld.2.2.2.2.2)⟩ (fun hHeld => ?_)
  clear hK K
  refine norm_ (a' := ?_) ?_ ?_
  rotate_left
  · show Act.put _ (some 38) _ = _
    simp only [Act.put, List.setIfInBounds_toArray, List.set_cons_zero, List.set_cons_succ, i64_w, i32_w]
    rfl
  refine one_ (i := 8) (N := some 40) #[true, true, true, true, true, true, true, true, true, false] rfl rfl (by kernel_rfl) (by decide) (fun K hK => ?_)
  refine goes_ Try.func25 (by kernel_rfl) rfl #[.agg #[.int .u64 turn, .int .u64 tail, .int .u64 count, .int .u64 first, .int .u64 last, .int .u64 state], .pointer (some ⟨T, 0, none⟩)] (by rfl) rfl rfl (by (try simp only [List.map_toArray, List.map_cons, List.map_nil]); first | done | rfl) ?_
  with_reducible refine (slot_Encode_yes turn tail count first last state _ T (((((CrcT.below HT.out (below_drew (Below.refl _ _))).below hb5).below hb6).below hb7)) HS1.out turn0 (by have := HTU.out; omega) tail0 tail1 count0 count1 first0 first1 last0 last1 state0 state1).mono ?_
  rintro e w8 ⟨v8, rfl, ho8, hb8⟩
  refine ⟨_, rfl, ?_⟩
  refine hK.out _ _ ⟨(pw_cell_below hb8 hHeld.1), (pw_cell_below hb8 hHeld.2.1), (pw_cell_below hb8 hHeld.2.2.1), (pw_cell_below hb8 hHeld.2.2.2.1), (pw_cell_below hb8 hHeld.2.2.2.2.1), (pw_cell_below hb8 hHeld.2.2.2.2.2)⟩ (fun hHeld => ?_)
  clear hK K
  refine norm_ (a' := ?_) ?_ ?_
  rotate_left
  · show Act.put _ (some 40) _ = _
    simp only [Act.put, List.setIfInBounds_toArray, List.set_cons_zero, List.set_cons_succ, i64_w, i32_w]
    rfl
  refine last_ (i := 9) (N := some 41) #[true, true, true, true, true, true, true, true, true, true] rfl rfl (by kernel_rfl) (by decide) (fun K hK => ?_)
  have hz := blk_below (blk_below (blk_below (blk_below (blk_drew HZ.out) hb5) hb6) hb7) hb8
  obtain ⟨ad8, c8, rfl, hc8⟩ := rd_slice (Own.rd ho8) (show (encZ [] [turn, tail, count, first, last, state]).length = 64 by rw [encZ, List.length_append, encC_len, List.length_replicate]; rfl) (by omega)
  refine copy_step (by rfl) (.tmp 36) (.tmp 40) (by rfl) Try.underlying22 (by kernel_rfl) rfl rfl (List.replicate 256 0) (encZ [] [turn, tail, count, first, last, state]) hz (show (encZ [] [turn, tail, count, first, last, state]).length = 64 by rw [encZ, List.length_append, encC_len, List.length_replicate]; rfl) rfl hc8 (by simp only [List.length_replicate, List.length_append, HLS.out, HLR.out]; omega) ?_
  intro w9 hg9 hk9
  refine hK.out _ _ ?_
  clear hK K
  refine norm_ (a' := ?_) ?_ ?_
  rotate_left
  · show Act.put _ (some 41) _ = _
    simp only [Act.put, List.setIfInBounds_toArray, List.set_cons_zero, List.set_cons_succ, i64_w, i32_w]
    rfl
  refine done_ (by kernel_rfl) ?_
  have HB4 := Aside0.mk (below_step (below_step (below_step (below_step (below_drew HB.out) hb5) hb6) hb7) hb8)
  replace HB := Aside0.mk (Kp.from HB4.out hk9 (fun k hk => by rw [hk]; exact HBG.out))
  replace HS := Aside0.mk (hk9.blk (blk_below (blk_below (blk_below (blk_below (blk_drew HS.out) hb5) hb6) hb7) hb8) (by have := HRB.out; omega))
  replace HR := Aside0.mk (hk9.blk (blk_below (blk_below (blk_below (blk_below (blk_drew HR.out) hb5) hb6) hb7) hb8) (by have := HRB.out; omega))
  replace HT := Aside0.mk (hk9.blk (blk_below (blk_below (blk_below (blk_below (blk_drew HT.out) hb5) hb6) hb7) hb8) (by have := HTB.out; omega))
  replace HZ := Aside0.mk hg9
  clear HB4 hb5 hb6 hb7 hb8 hk9 hg9 hc8 ho8 r0 r1 r2 r3 r4 r5
  rw [spl0 _ HLS.out] at HZ
  have r0 := blk_cell HS.out 0
  have r1 := blk_cell HS.out 1
  have r2 := blk_cell HS.out 2
  have r3 := blk_cell HS.out 3
  have r4 := blk_cell HS.out 4
  have r5 := blk_cell HS.out 5
  go_upto_region 8 with fail
  have HW := Aside0.mk (blk_new w9 (.cells #[.int .u64 turn, .int .u64 tail, .int .u64 count, .int .u64 first, .int .u64 last, .int .u64 state] 34))
  have HSW := Aside0.mk (blk_lt HR.out)
  have HBW := Aside0.mk HB.out.size
  have HZW := Aside0.mk (blk_lt HZ.out)
  replace HS := Aside0.mk (blk_alloc HS.out (.cells #[.int .u64 turn, .int .u64 tail, .int .u64 count, .int .u64 first, .int .u64 last, .int .u64 state] 34))
  replace HR := Aside0.mk (blk_alloc HR.out (.cells #[.int .u64 turn, .int .u64 tail, .int .u64 count, .int .u64 first, .int .u64 last, .int .u64 state] 34))
  replace HT := Aside0.mk (CrcT.below HT.out (below_alloc (Below.refl _ _) (.cells #[.int .u64 turn, .int .u64 tail, .int .u64 count, .int .u64 first, .int .u64 last, .int .u64 state] 34)))
  replace HB := Aside0.mk (below_alloc HB.out (.cells #[.int .u64 turn, .int .u64 tail, .int .u64 count, .int .u64 first, .int .u64 last, .int .u64 state] 34))
  replace HZ := Aside0.mk (blk_alloc HZ.out (.cells #[.int .u64 turn, .int .u64 tail, .int .u64 count, .int .u64 first, .int .u64 last, .int .u64 state] 34))
  obtain ⟨g, hg⟩ : ∃ g, w9.heap.size = g := ⟨_, rfl⟩
  rw [hg] at HW HSW HZW HBW
  first | rw [hg] | skip
  obtain ⟨wc, hwc⟩ : ∃ wc, w9.alloc (.cells #[.int .u64 turn, .int .u64 tail, .int .u64 count, .int .u64 first, .int .u64 last, .int .u64 state] 34) = wc := ⟨_, rfl⟩
  rw [hwc] at HW HS HR HT HB HZ ⊢
  clear hg hwc r0 r1 r2 r3 r4 r5
  have r0 := blk_cell HR.out 0
  have r1 := blk_cell HR.out 1
  have r2 := blk_cell HR.out 2
  have r3 := blk_cell HR.out 3
  have r4 := blk_cell HR.out 4
  have r5 := blk_cell HR.out 5
  go_upto_region 9 with fail
  refine start_ (n := 10) (S := fun w' => w'.cell? ⟨w.heap.size + 1, 0, none⟩ = some (.int .u64 u) ∧ w'.cell? ⟨w.heap.size + 1, 1, none⟩ = some (.int .u64 tail2) ∧ w'.cell? ⟨w.heap.size + 1, 2, none⟩ = some (.int .u64 count2) ∧ w'.cell? ⟨w.heap.size + 1, 3, none⟩ = some (.int .u64 first2) ∧ w'.cell? ⟨w.heap.size + 1, 4, none⟩ = some (.int .u64 last2) ∧ w'.cell? ⟨w.heap.size + 1, 5, none⟩ = some (.int .u64 state2)) (ds := [9]) #[false, false, false, false, false, false, false, false, false, false] (by kernel_rfl) rfl rfl ⟨r0, r1, r2, r3, r4, r5⟩ (fun hHeld => ?_)
  refine pure_ (i := 0) (N := some 44) (v := ?_) (a' := ?_) #[true, false, false, false, false, false, false, false, false, false] rfl rfl (by kernel_rfl) (fun _ _ _ h => h) (Or.inl ⟨by rfl, ?_⟩) ?_ ?_
  rotate_left
  · intro w'
    go_simp
    with_reducible rfl
  rotate_left
  · simp only [Act.put, List.setIfInBounds_toArray, List.set_cons_zero, List.set_cons_succ, i64_w, i32_w]
    rfl
  refine pure_ (i := 7) (N := some 51) (v := ?_) (a' := ?_) #[true, false, false, false, false, false, false, true, false, false] rfl rfl (by kernel_rfl) (fun _ _ _ h => h) (Or.inl ⟨by rfl, ?_⟩) ?_ ?_
  rotate_left
  · intro w'
    go_simp
    with_reducible rfl
  rotate_left
  · simp only [Act.put, List.setIfInBounds_toArray, List.set_cons_zero, List.set_cons_succ, i64_w, i32_w]
    rfl
  refine take_ (i := 1) (N := some 45) (v := ?_) (a' := ?_) #[true, true, false, false, false, false, false, true, false, false] rfl rfl (by kernel_rfl) (fun _ _ _ h => h) (Or.inl ⟨by rfl, ?_⟩) hHeld ?_ ?_
  rotate_left
  · rintro w' ⟨s0, s1, s2, s3, s4, s5⟩
    go_simp
    with_reducible rfl
  rotate_left
  · simp only [Act.put, List.setIfInBounds_toArray, List.set_cons_zero, List.set_cons_succ, i64_w, i32_w]
    rfl
  refine take_ (i := 5) (N := some 49) (v := ?_) (a' := ?_) #[true, true, false, false, false, true, false, true, false, false] rfl rfl (by kernel_rfl) (fun _ _ _ h => h) (Or.inl ⟨by rfl, ?_⟩) hHeld ?_ ?_
  rotate_left
  · rintro w' ⟨s0, s1, s2, s3, s4, s5⟩
    go_simp
    with_reducible rfl
  rotate_left
  · simp only [Act.put, List.setIfInBounds_toArray, List.set_cons_zero, List.set_cons_succ, i64_w, i32_w]
    rfl
  refine one_ (i := 2) (N := some 46) #[true, true, true, false, false, true, false, true, false, false] rfl rfl (by kernel_rfl) (by decide) (fun K hK => ?_)
  refine goes_ Try.func23 (by kernel_rfl) rfl #[.agg #[.int .u64 u, .int .u64 tail2, .int .u64 count2, .int .u64 first2, .int .u64 last2, .int .u64 state2]] (by rfl) rfl rfl (by (try simp only [List.map_toArray, List.map_cons, List.map_nil]); first | done | rfl) ?_
  with_reducible refine (slot_to_calls u tail2 count2 first2 last2 state2 _).mono ?_
  rintro e w5 ⟨rfl, hb5⟩
  refine ⟨_, rfl, ?_⟩
  refine hK.out _ _ ⟨(pw_cell_below hb5 hHeld.1), (pw_cell_below hb5 hHeld.2.1), (pw_cell_below hb5 hHeld.2.2.1), (pw_cell_below hb5 hHeld.2.2.2.1), (pw_cell_below hb5 hHeld.2.2.2.2.1), (pw_cell_below hb5 hHeld.2.2.2.2.2)⟩ (fun hHeld => ?_)
  clear hK K
  refine norm_ (a' := ?_) ?_ ?_
  rotate_left
  · show Act.put _ (some 46) _ = _
    simp only [Act.put, List.setIfInBounds_toArray, List.set_cons_zero, List.set_cons_succ, i64_w, i32_w]
    rfl
  refine one_ (i := 3) (N := some 47) #[true, true, true, true, false, true, false, true, false, false] rfl rfl (by kernel_rfl) (by decide) (fun K hK => ?_)
  refine goes_ Try.func24 (by kernel_rfl) rfl #[.agg #[.int .u64 u, .int .u64 tail2, .int .u64 count2, .int .u64 first2, .int .u64 last2, .int .u64 state2]] (by rfl) rfl rfl (by (try simp only [List.map_toArray, List.map_cons, List.map_nil]); first | done | rfl) ?_
  with_reducible refine (CP2.out _).mono ?_
  rintro e w6 ⟨rfl, hb6⟩
  refine ⟨_, rfl, ?_⟩
  refine hK.out _ _ ⟨(pw_cell_below hb6 hHeld.1), (pw_cell_below hb6 hHeld.2.1), (pw_cell_below hb6 hHeld.2.2.1), (pw_cell_below hb6 hHeld.2.2.2.1), (pw_cell_below hb6 hHeld.2.2.2.2.1), (pw_cell_below hb6 hHeld.2.2.2.2.2)⟩ (fun hHeld => ?_)
  clear hK K
  refine norm_ (a' := ?_) ?_ ?_
  rotate_left
  · show Act.put _ (some 47) _ = _
    simp only [Act.put, List.setIfInBounds_toArray, List.set_cons_zero, List.set_cons_succ, i64_w, i32_w]
    rfl
  refine pure_ (i := 4) (N := some 48) (v := ?_) (a' := ?_) #[true, true, true, true, true, true, false, true, false, false] rfl rfl (by kernel_rfl) (fun _ _ _ h => h) (Or.inl ⟨by rfl, ?_⟩) ?_ ?_
  rotate_left
  · intro w'
    go_simp
    with_reducible rfl
  rotate_left
  · simp only [Act.put, List.setIfInBounds_toArray, List.set_cons_zero, List.set_cons_succ, i64_w, i32_w]
    rfl
  refine one_ (i := 6) (N := some 50) #[true, true, true, true, true, true, true, true, false, false] rfl rfl (by kernel_rfl) (by decide) (fun K hK => ?_)
  refine goes_ Try.func23 (by kernel_rfl) rfl #[.agg #[.int .u64 u, .int .u64 tail2, .int .u64 count2, .int .u64 first2, .int .u64 last2, .int .u64 state2]] (by rfl) rfl rfl (by (try simp only [List.map_toArray, List.map_cons, List.map_nil]); first | done | rfl) ?_
  with_reducible refine (slot_to_calls u tail2 count2 first2 last2 state2 _).mono ?_
  rintro e w7 ⟨rfl, hb7⟩
  refine ⟨_, rfl, ?_⟩
  refine hK.out _ _ ⟨(pw_cell_below hb7 hHeld.1), (pw_cell_below hb7 hHeld.2.1), (pw_cell_below hb7 hHeld.2.2.1), (pw_cell_below hb7 hHeld.2.2.2.1), (pw_cell_below hb7 hHeld.2.2.2.2.1), (pw_cell_below hb7 hHeld.2.2.2.2.2)⟩ (fun hHeld => ?_)
  clear hK K
  refine norm_ (a' := ?_) ?_ ?_
  rotate_left
  · show Act.put _ (some 50) _ = _
    simp only [Act.put, List.setIfInBounds_toArray, List.set_cons_zero, List.set_cons_succ, i64_w, i32_w]
    rfl
  refine one_ (i := 8) (N := some 52) #[true, true, true, true, true, true, true, true, true, false] rfl rfl (by kernel_rfl) (by decide) (fun K hK => ?_)
  refine goes_ Try.func25 (by kernel_rfl) rfl #[.agg #[.int .u64 u, .int .u64 tail2, .int .u64 count2, .int .u64 first2, .int .u64 last2, .int .u64 state2], .pointer (some ⟨T, 0, none⟩)] (by rfl) rfl rfl (by (try simp only [List.map_toArray, List.map_cons, List.map_nil]); first | done | rfl) ?_
  with_reducible refine (slot_Encode_yes u tail2 count2 first2 last2 state2 _ T (((((CrcT.below HT.out (below_drew (Below.refl _ _))).below hb5).below hb6).below hb7)) HS2.out (by have := HU.out; omega) (by have := HU.out; have := HTU.out; omega) tail20 tail21 count20 count21 first20 first21 last20 last21 state20 state21).mono ?_
  rintro e w8 ⟨v8, rfl, ho8, hb8⟩
  refine ⟨_, rfl, ?_⟩
  refine hK.out _ _ ⟨(pw_cell_below hb8 hHeld.1), (pw_cell_below hb8 hHeld.2.1), (pw_cell_below hb8 hHeld.2.2.1), (pw_cell_below hb8 hHeld.2.2.2.1), (pw_cell_below hb8 hHeld.2.2.2.2.1), (pw_cell_below hb8 hHeld.2.2.2.2.2)⟩ (fun hHeld => ?_)
  clear hK K
  refine norm_ (a' := ?_) ?_ ?_
  rotate_left
  · show Act.put _ (some 52) _ = _
    simp only [Act.put, List.setIfInBounds_toArray, List.set_cons_zero, List.set_cons_succ, i64_w, i32_w]
    rfl
  refine last_ (i := 9) (N := some 53) #[true, true, true, true, true, true, true, true, true, true] rfl rfl (by kernel_rfl) (by decide) (fun K hK => ?_)
  have hz := blk_below (blk_below (blk_below (blk_below (blk_drew HZ.out) hb5) hb6) hb7) hb8
  obtain ⟨ad8, c8, rfl, hc8⟩ := rd_slice (Own.rd ho8) (show (encZ [] [u, tail2, count2, first2, last2, state2]).length = 64 by rw [encZ, List.length_append, encC_len, List.length_replicate]; rfl) (by omega)
  refine copy_step (by rfl) (.tmp 48) (.tmp 52) (by rfl) Try.underlying22 (by kernel_rfl) rfl rfl (List.replicate 64 0 ++ (encZ [] [turn, tail, count, first, last, state] ++ List.replicate 128 0)) (encZ [] [u, tail2, count2, first2, last2, state2]) hz (show (encZ [] [u, tail2, count2, first2, last2, state2]).length = 64 by rw [encZ, List.length_append, encC_len, List.length_replicate]; rfl) rfl hc8 (by simp only [List.length_replicate, List.length_append, HLS.out, HLR.out]; omega) ?_
  intro w9 hg9 hk9
  refine hK.out _ _ ?_
  clear hK K
  refine norm_ (a' := ?_) ?_ ?_
  rotate_left
  · show Act.put _ (some 53) _ = _
    simp only [Act.put, List.setIfInBounds_toArray, List.set_cons_zero, List.set_cons_succ, i64_w, i32_w]
    rfl
  refine done_ (by kernel_rfl) ?_
  have HB4 := Aside0.mk (below_step (below_step (below_step (below_step (below_drew HB.out) hb5) hb6) hb7) hb8)
  replace HB := Aside0.mk (Kp.from HB4.out hk9 (fun k hk => by rw [hk]; exact HBG.out))
  replace HS := Aside0.mk (hk9.blk (blk_below (blk_below (blk_below (blk_below (blk_drew HS.out) hb5) hb6) hb7) hb8) (by have := HRB.out; omega))
  replace HR := Aside0.mk (hk9.blk (blk_below (blk_below (blk_below (blk_below (blk_drew HR.out) hb5) hb6) hb7) hb8) (by have := HRB.out; omega))
  replace HT := Aside0.mk (hk9.blk (blk_below (blk_below (blk_below (blk_below (blk_drew HT.out) hb5) hb6) hb7) hb8) (by have := HTB.out; omega))
  replace HW := Aside0.mk (hk9.blk (blk_below (blk_below (blk_below (blk_below (blk_drew HW.out) hb5) hb6) hb7) hb8) (by have := HZW.out; omega))
  replace HZ := Aside0.mk hg9
  clear HB4 hb5 hb6 hb7 hb8 hk9 hg9 hc8 ho8 r0 r1 r2 r3 r4 r5
  rw [spl01 _ _ HLS.out HLR.out] at HZ
  have r0 := blk_cell HR.out 0
  have r1 := blk_cell HR.out 1
  have r2 := blk_cell HR.out 2
  have r3 := blk_cell HR.out 3
  have r4 := blk_cell HR.out 4
  have r5 := blk_cell HR.out 5
  have s0 := blk_cell HW.out 0
  have s1 := blk_cell HW.out 1
  have s2 := blk_cell HW.out 2
  have s3 := blk_cell HW.out 3
  have s4 := blk_cell HW.out 4
  have s5 := blk_cell HW.out 5
  have g0 := blk_frozen HW.out 0
  have g1 := blk_frozen HW.out 1
  have g2 := blk_frozen HW.out 2
  have g3 := blk_frozen HW.out 3
  have g4 := blk_frozen HW.out 4
  have g5 := blk_frozen HW.out 5
  go_upto_region 11 with fail
  have hx := set6 HW.out (.int .u64 u) (.int .u64 tail2) (.int .u64 count2) (.int .u64 first2) (.int .u64 last2) (.int .u64 state2)
  replace HB := Aside0.mk (show Below w.heap.size w ((((((w9.setCell ⟨g, 0, none⟩ (.int .u64 u)).setCell ⟨g, 1, none⟩ (.int .u64 tail2)).setCell ⟨g, 2, none⟩ (.int .u64 count2)).setCell ⟨g, 3, none⟩ (.int .u64 first2)).setCell ⟨g, 4, none⟩ (.int .u64 last2)).setCell ⟨g, 5, none⟩ (.int .u64 state2)) from below_set6 HB.out g HBW.out _ _ _ _ _ _)
  replace HZ := Aside0.mk (show ((((((w9.setCell ⟨g, 0, none⟩ (.int .u64 u)).setCell ⟨g, 1, none⟩ (.int .u64 tail2)).setCell ⟨g, 2, none⟩ (.int .u64 count2)).setCell ⟨g, 3, none⟩ (.int .u64 first2)).setCell ⟨g, 4, none⟩ (.int .u64 last2)).setCell ⟨g, 5, none⟩ (.int .u64 state2)).heap[b]? = some _ from (blk_far (blk_far (blk_far (blk_far (blk_far (blk_far HZ.out (p := ⟨g, 0, none⟩) (by show b ≠ g; have := HZW.out; omega) _) (p := ⟨g, 1, none⟩) (by show b ≠ g; have := HZW.out; omega) _) (p := ⟨g, 2, none⟩) (by show b ≠ g; have := HZW.out; omega) _) (p := ⟨g, 3, none⟩) (by show b ≠ g; have := HZW.out; omega) _) (p := ⟨g, 4, none⟩) (by show b ≠ g; have := HZW.out; omega) _) (p := ⟨g, 5, none⟩) (by show b ≠ g; have := HZW.out; omega) _))
  replace HT := Aside0.mk (show CrcT ((((((w9.setCell ⟨g, 0, none⟩ (.int .u64 u)).setCell ⟨g, 1, none⟩ (.int .u64 tail2)).setCell ⟨g, 2, none⟩ (.int .u64 count2)).setCell ⟨g, 3, none⟩ (.int .u64 first2)).setCell ⟨g, 4, none⟩ (.int .u64 last2)).setCell ⟨g, 5, none⟩ (.int .u64 state2)) T from (blk_far (blk_far (blk_far (blk_far (blk_far (blk_far HT.out (p := ⟨g, 0, none⟩) (by show T ≠ g; have := HTB.out; have := HZW.out; omega) _) (p := ⟨g, 1, none⟩) (by show T ≠ g; have := HTB.out; have := HZW.out; omega) _) (p := ⟨g, 2, none⟩) (by show T ≠ g; have := HTB.out; have := HZW.out; omega) _) (p := ⟨g, 3, none⟩) (by show T ≠ g; have := HTB.out; have := HZW.out; omega) _) (p := ⟨g, 4, none⟩) (by show T ≠ g; have := HTB.out; have := HZW.out; omega) _) (p := ⟨g, 5, none⟩) (by show T ≠ g; have := HTB.out; have := HZW.out; omega) _))
  replace HW := Aside0.mk hx
  obtain ⟨wd, hwd⟩ : ∃ wd, ((((((w9.setCell ⟨g, 0, none⟩ (.int .u64 u)).setCell ⟨g, 1, none⟩ (.int .u64 tail2)).setCell ⟨g, 2, none⟩ (.int .u64 count2)).setCell ⟨g, 3, none⟩ (.int .u64 first2)).setCell ⟨g, 4, none⟩ (.int .u64 last2)).setCell ⟨g, 5, none⟩ (.int .u64 state2)) = wd := ⟨_, rfl⟩
  rw [hwd] at HW HT HB HZ ⊢
  clear hx hwd r0 r1 r2 r3 r4 r5 s0 s1 s2 s3 s4 s5 g0 g1 g2 g3 g4 g5
  obtain ⟨LL, hLL⟩ : ∃ LL, List.replicate 64 0 ++ (encZ [] [turn, tail, count, first, last, state] ++ (encZ [] [u, tail2, count2, first2, last2, state2] ++ List.replicate 64 0)) = LL := ⟨_, rfl⟩
  have hLn : LL.length = 256 := by rw [← hLL]; simp only [List.length_append, List.length_replicate, HLS.out, HLR.out]
  have hLb : isB LL := by rw [← hLL]; exact (zeros_isB 64).app ((encZ_isB isB_nil _).app ((encZ_isB isB_nil _).app (zeros_isB 64)))
  rw [hLL] at HZ HCH
  have hrd := Own.rd (own_blk (base := 0) HZ.out (Nat.zero_le _) (by omega))
  rw [hLn] at hrd
  have CC := Aside0.mk (slot_Choose_calls _ LL wd T HT.out hrd hLb (by omega))
  rw [HCH.out] at CC
  have HCC := CC
  rw [show chR (true, [u, tail2, count2, first2, last2, state2]) = .tuple #[.agg #[.int .u64 u, .int .u64 tail2, .int .u64 count2, .int .u64 first2, .int .u64 last2, .int .u64 state2], .bool true] from rfl] at HCC
  clear hLL hLn hLb hrd CC
  go_wp2_with fail
  refine (HCC.out).mono ?_
  rintro _ wf ⟨rfl, hb⟩
  have HX := Aside0.mk (blk_new wf (.cells #[.int .u64 u, .int .u64 tail2, .int .u64 count2, .int .u64 first2, .int .u64 last2, .int .u64 state2] 38))
  replace HW := Aside0.mk (blk_alloc (blk_below HW.out hb) (.cells #[.int .u64 u, .int .u64 tail2, .int .u64 count2, .int .u64 first2, .int .u64 last2, .int .u64 state2] 38))
  replace HB := Aside0.mk (below_alloc (below_step HB.out hb) (.cells #[.int .u64 u, .int .u64 tail2, .int .u64 count2, .int .u64 first2, .int .u64 last2, .int .u64 state2] 38))
  clear hb
  go_upto_region 12 with fail
  obtain ⟨d, hd⟩ : ∃ d, wf.heap.size = d := ⟨_, rfl⟩
  rw [hd] at HX
  first | rw [hd] | skip
  obtain ⟨we, hwe⟩ : ∃ we, wf.alloc (.cells #[.int .u64 u, .int .u64 tail2, .int .u64 count2, .int .u64 first2, .int .u64 last2, .int .u64 state2] 38) = we := ⟨_, rfl⟩
  rw [hwe] at HW HB HX ⊢
  clear hd hwe HCC
  have r0 := blk_cell HX.out 0
  have r1 := blk_cell HX.out 1
  have r2 := blk_cell HX.out 2
  have r3 := blk_cell HX.out 3
  have r4 := blk_cell HX.out 4
  have r5 := blk_cell HX.out 5
  have s0 := blk_cell HW.out 0
  have s1 := blk_cell HW.out 1
  have s2 := blk_cell HW.out 2
  have s3 := blk_cell HW.out 3
  have s4 := blk_cell HW.out 4
  have s5 := blk_cell HW.out 5
  refine start_ (n := 11) (S := fun w' => w'.cell? ⟨d, 0, none⟩ = some (.int .u64 u) ∧ w'.cell? ⟨d, 1, none⟩ = some (.int .u64 tail2) ∧ w'.cell? ⟨d, 2, none⟩ = some (.int .u64 count2) ∧ w'.cell? ⟨d, 3, none⟩ = some (.int .u64 first2) ∧ w'.cell? ⟨d, 4, none⟩ = some (.int .u64 last2) ∧ w'.cell? ⟨d, 5, none⟩ = some (.int .u64 state2) ∧ w'.cell? ⟨g, 0, none⟩ = some (.int .u64 u) ∧ w'.cell? ⟨g, 1, none⟩ = some (.int .u64 tail2) ∧ w'.cell? ⟨g, 2, none⟩ = some (.int .u64 count2) ∧ w'.cell? ⟨g, 3, none⟩ = some (.int .u64 first2) ∧ w'.cell? ⟨g, 4, none⟩ = some (.int .u64 last2) ∧ w'.cell? ⟨g, 5, none⟩ = some (.int .u64 state2)) (ds := []) #[false, false, false, false, false, false, false, false, false, false, false] (by kernel_rfl) rfl rfl ⟨r0, r1, r2, r3, r4, r5, s0, s1, s2, s3, s4, s5⟩ (fun hHeld => ?_)
  refine pure_ (i := 0) (N := some 61) (v := ?_) (a' := ?_) #[true, false, false, false, false, false, false, false, false, false, false] rfl rfl (by kernel_rfl) (fun _ _ _ h => h) (Or.inl ⟨by rfl, ?_⟩) ?_ ?_
  rotate_left
  · intro w'
    go_simp
    with_reducible rfl
  rotate_left
  · simp only [Act.put, List.setIfInBounds_toArray, List.set_cons_zero, List.set_cons_succ, i64_w, i32_w]
    rfl
  refine pure_ (i := 1) (N := some 62) (v := ?_) (a' := ?_) #[true, true, false, false, false, false, false, false, false, false, false] rfl rfl (by kernel_rfl) (fun _ _ _ h => h) (Or.inl ⟨by rfl, ?_⟩) ?_ ?_
  rotate_left
  · intro w'
    go_simp
    with_reducible rfl
  rotate_left
  · simp only [Act.put, List.setIfInBounds_toArray, List.set_cons_zero, List.set_cons_succ, i64_w, i32_w]
    rfl
  refine take_ (i := 2) (N := some 63) (v := ?_) (a' := ?_) #[true, true, true, false, false, false, false, false, false, false, false] rfl rfl (by kernel_rfl) (fun _ _ _ h => h) (Or.inl ⟨by rfl, ?_⟩) hHeld ?_ ?_
  rotate_left
  · rintro w' ⟨s0, s1, s2, s3, s4, s5, s6, s7, s8, s9, s10, s11⟩
    go_simp
    with_reducible rfl
  rotate_left
  · simp only [Act.put, List.setIfInBounds_toArray, List.set_cons_zero, List.set_cons_succ, i64_w, i32_w]
    rfl
  refine take_ (i := 4) (N := some 65) (v := ?_) (a' := ?_) #[true, true, true, false, true, false, false, false, false, false, false] rfl rfl (by kernel_rfl) (fun _ _ _ h => h) (Or.inl ⟨by rfl, ?_⟩) hHeld ?_ ?_
  rotate_left
  · rintro w' ⟨s0, s1, s2, s3, s4, s5, s6, s7, s8, s9, s10, s11⟩
    go_simp
    with_reducible rfl
  rotate_left
  · simp only [Act.put, List.setIfInBounds_toArray, List.set_cons_zero, List.set_cons_succ, i64_w, i32_w]
    rfl
  refine one_ (i := 3) (N := some 64) #[true, true, true, true, true, false, false, false, false, false, false] rfl rfl (by kernel_rfl) (by decide) (fun K hK => ?_)
  refine goes_ Try.func27 (by kernel_rfl) rfl #[.agg #[.int .u64 u, .int .u64 tail2, .int .u64 count2, .int .u64 first2, .int .u64 last2, .int .u64 state2]] (by rfl) rfl rfl (by (try simp only [List.map_toArray, List.map_cons, List.map_nil]); first | done | rfl) ?_
  with_reducible refine (slot_of_calls u tail2 count2 first2 last2 state2 _).mono ?_
  rintro e w15 ⟨rfl, hb15⟩
  refine ⟨_, rfl, ?_⟩
  refine hK.out _ _ ⟨(pw_cell_below hb15 hHeld.1), (pw_cell_below hb15 hHeld.2.1), (pw_cell_below hb15 hHeld.2.2.1), (pw_cell_below hb15 hHeld.2.2.2.1), (pw_cell_below hb15 hHeld.2.2.2.2.1), (pw_cell_below hb15 hHeld.2.2.2.2.2.1), (pw_cell_below hb15 hHeld.2.2.2.2.2.2.1), (pw_cell_below hb15 hHeld.2.2.2.2.2.2.2.1), (pw_cell_below hb15 hHeld.2.2.2.2.2.2.2.2.1), (pw_cell_below hb15 hHeld.2.2.2.2.2.2.2.2.2.1), (pw_cell_below hb15 hHeld.2.2.2.2.2.2.2.2.2.2.1), (pw_cell_below hb15 hHeld.2.2.2.2.2.2.2.2.2.2.2)⟩ (fun hHeld => ?_)
  clear hK K
  refine norm_ (a' := ?_) ?_ ?_
  rotate_left
  · show Act.put _ (some 64) _ = _
    simp only [Act.put, List.setIfInBounds_toArray, List.set_cons_zero, List.set_cons_succ, i64_w, i32_w]
    rfl
  refine pure_ (i := 5) (N := some 66) (v := ?_) (a' := ?_) #[true, true, true, true, true, true, false, false, false, false, false] rfl rfl (by kernel_rfl) (fun _ _ _ h => h) (Or.inl ⟨by rfl, ?_⟩) ?_ ?_
  rotate_left
  · intro w'
    go_simp
    with_reducible rfl
  rotate_left
  · simp only [Act.put, List.setIfInBounds_toArray, List.set_cons_zero, List.set_cons_succ, i64_w, i32_w]
    rfl
  refine pure_ (i := 6) (N := some 67) (v := ?_) (a' := ?_) #[true, true, true, true, true, true, true, false, false, false, false] rfl rfl (by kernel_rfl) (fun _ _ _ h => h) (Or.inl ⟨by rfl, ?_⟩) ?_ ?_
  rotate_left
  · intro w'
    go_simp
    with_reducible rfl
  rotate_left
  · simp only [Act.put, List.setIfInBounds_toArray, List.set_cons_zero, List.set_cons_succ, i64_w, i32_w]
    rfl
  refine pure_ (i := 7) (N := some 68) (v := ?_) (a' := ?_) #[true, true, true, true, true, true, true, true, false, false, false] rfl rfl (by kernel_rfl) (fun _ _ _ h => h) (Or.inl ⟨by rfl, ?_⟩) ?_ ?_
  rotate_left
  · intro w'
    go_simp
    with_reducible rfl
  rotate_left
  · simp only [Act.put, List.setIfInBounds_toArray, List.set_cons_zero, List.set_cons_succ, i64_w, i32_w]
    rfl
  refine one_ (i := 8) (N := some 69) #[true, true, true, true, true, true, true, true, true, false, false] rfl rfl (by kernel_rfl) (by decide) (fun K hK => ?_)
  refine goes_ Try.func21 (by kernel_rfl) rfl #[] (by rfl) rfl rfl (by (try simp only [List.map_toArray, List.map_cons, List.map_nil]); first | done | rfl) ?_
  with_reducible refine (slot_awake_calls _).mono ?_
  rintro e w16 ⟨rfl, hb16⟩
  refine ⟨_, rfl, ?_⟩
  refine hK.out _ _ ⟨(pw_cell_below hb16 hHeld.1), (pw_cell_below hb16 hHeld.2.1), (pw_cell_below hb16 hHeld.2.2.1), (pw_cell_below hb16 hHeld.2.2.2.1), (pw_cell_below hb16 hHeld.2.2.2.2.1), (pw_cell_below hb16 hHeld.2.2.2.2.2.1), (pw_cell_below hb16 hHeld.2.2.2.2.2.2.1), (pw_cell_below hb16 hHeld.2.2.2.2.2.2.2.1), (pw_cell_below hb16 hHeld.2.2.2.2.2.2.2.2.1), (pw_cell_below hb16 hHeld.2.2.2.2.2.2.2.2.2.1), (pw_cell_below hb16 hHeld.2.2.2.2.2.2.2.2.2.2.1), (pw_cell_below hb16 hHeld.2.2.2.2.2.2.2.2.2.2.2)⟩ (fun hHeld => ?_)
  clear hK K
  refine norm_ (a' := ?_) ?_ ?_
  rotate_left
  · show Act.put _ (some 69) _ = _
    simp only [Act.put, List.setIfInBounds_toArray, List.set_cons_zero, List.set_cons_succ, i64_w, i32_w]
    rfl
  refine pure_ (i := 9) (N := some 70) (v := ?_) (a' := ?_) #[true, true, true, true, true, true, true, true, true, true, false] rfl rfl (by kernel_rfl) (fun _ _ _ h => h) (Or.inl ⟨by rfl, ?_⟩) ?_ ?_
  rotate_left
  · intro w'
    go_simp
    with_reducible rfl
  rotate_left
  · simp only [Act.put, List.setIfInBounds_toArray, List.set_cons_zero, List.set_cons_succ, i64_w, i32_w]
    rfl
  refine pure_ (i := 10) (N := some 6) (v := ?_) (a' := ?_) #[true, true, true, true, true, true, true, true, true, true, true] rfl rfl (by kernel_rfl) (fun _ _ _ h => h) (Or.inl ⟨by rfl, ?_⟩) ?_ ?_
  rotate_left
  · intro w'
    go_simp
    with_reducible rfl
  rotate_left
  · simp only [Act.put, List.setIfInBounds_toArray, List.set_cons_zero, List.set_cons_succ, i64_w, i32_w]
    rfl
  refine done_ (by kernel_rfl) ?_
  replace HB := Aside0.mk (below_step (below_step (below_drew HB.out) hb15) hb16)
  clear hb15 hb16
  go_wp2_with fail
  go_ret
  exact ⟨rfl, HB.out⟩
set_option maxHeartbeats 8000000 in
set_option maxRecDepth 100000 in
theorem SlotTurns_10 (turn tail count first last state turn2 tail2 count2 first2 last2 state2 : Int) (w : World) (hs : sR turn state tail = true) (hq : sR turn2 state2 tail2 = true) (hp : turn % 2 = 1) (tail0 : 0 ≤ tail) (tail1 : tail ≤ 18446744073709551615) (count0 : 0 ≤ count) (count1 : count ≤ 18446744073709551615) (first0 : 0 ≤ first) (first1 : first ≤ 18446744073709551615) (last0 : 0 ≤ last) (last1 : last ≤ 18446744073709551615) (state0 : 0 ≤ state) (state1 : state ≤ 18446744073709551615) (turn0 : 0 ≤ turn) (turn1 : turn ≤ 18446744073709551614) (turn20 : 0 ≤ turn2) (turn21 : turn2 ≤ 18446744073709551615) (tail20 : 0 ≤ tail2) (tail21 : tail2 ≤ 18446744073709551615) (count20 : 0 ≤ count2) (count21 : count2 ≤ 18446744073709551615) (first20 : 0 ≤ first2) (first21 : first2 ≤ 18446744073709551615) (last20 : 0 ≤ last2) (last21 : last2 ≤ 18446744073709551615) (state20 : 0 ≤ state2) (state21 : state2 ≤ 18446744073709551615) :
    Calls Try.prog 4 #[.agg #[.int .u64 turn, .int .u64 tail, .int .u64 count, .int .u64 first, .int .u64 last, .int .u64 state], .agg #[.int .u64 turn2, .int .u64 tail2, .int .u64 count2, .int .u64 first2, .int .u64 last2, .int .u64 state2], .bool false] w fun e w' => e = .returned (.bool true) ∧ Below w.heap.size w w' := by
  obtain ⟨u, hu⟩ : ∃ u, turn + 1 = u := ⟨_, rfl⟩
  have hR2 : sR u state2 tail2 = true := by
    rw [sR] at hq ⊢
    have h1 := Bool.and_eq_true_iff.1 hq
    have h2 := Bool.and_eq_true_iff.1 h1.1
    rw [h1.2, h2.2, decide_eq_true (by omega)]; rfl
  have hw1 : isW [turn, tail, count, first, last, state] := by intro x hx; simp only [List.mem_cons, List.not_mem_nil, or_false] at hx; rcases hx with rfl | rfl | rfl | rfl | rfl | rfl <;> exact ⟨by assumption, by omega⟩
  have hw2 : isW [u, tail2, count2, first2, last2, state2] := by intro x hx; simp only [List.mem_cons, List.not_mem_nil, or_false] at hx; rcases hx with rfl | rfl | rfl | rfl | rfl | rfl <;> exact ⟨by omega, by omega⟩
  have HCH := Aside0.mk (ch_10 turn tail count first last state u tail2 count2 first2 last2 state2 hs hR2 hu.symm hw1 hw2)
  have HLS := Aside0.mk (show (encZ [] [turn, tail, count, first, last, state]).length = 64 by rw [encZ, List.length_append, encC_len, List.length_replicate]; rfl)
  have HLR := Aside0.mk (show (encZ [] [u, tail2, count2, first2, last2, state2]).length = 64 by rw [encZ, List.length_append, encC_len, List.length_replicate]; rfl)
  have CP1 := Aside0.mk (fun w => slot_Place_calls turn tail count first last state w (by omega) (by omega))
  have CP2 := Aside0.mk (fun w => slot_Place_calls u tail2 count2 first2 last2 state2 w (by omega) (by omega))
  rw [hp, show (64 * (1 + (1 : Int))) = 128 from rfl] at CP1
  rw [show u % 2 = 0 by omega, show (64 * (1 + (0 : Int))) = 64 from rfl] at CP2
  have C1 := Aside0.mk (fun w => ref_sRight_calls turn tail count first last state w (by omega) (by omega))
  have C2 := Aside0.mk (fun w => ref_sRight_calls turn2 tail2 count2 first2 last2 state2 w (by omega) (by omega))
  rw [hs] at C1
  rw [hq] at C2
  have HS1 := Aside0.mk hs
  have HS2 := Aside0.mk hR2
  have HU := Aside0.mk hu
  have hne : (turn == 18446744073709551615) = false := by rw [beq_eq_false_iff_ne]; omega
  have hwu : IntKind.u64.wrap (turn + 1) = u := by rw [IntKind.wrap_u64]; omega
  have hmk : ∀ w : World, (Instr.makeSlice 22 (.int .i64 256) (.int .i64 256)).run Try.prog w = .ok (.slice (some ⟨w.heap.size, 0, none⟩) 256 256) (w.alloc (.cells (nums .u8 (List.replicate 256 0)).toArray 5)) := fun _ => by kernel_rfl
  obtain ⟨zs, hzs⟩ : ∃ zs, (nums .u8 (List.replicate 256 0)).toArray = zs := ⟨_, rfl⟩
  rw [hzs] at hmk
  have HZS := Aside0.mk hzs
  have HTU := Aside0.mk turn1
  clear hs hq hR2 hu hw1 hw2 hzs turn1 hp
  go_enter Try.func4, Try.ntmps4
  go_wp2_with fail
  refine (C1.out _).mono ?_
  rintro _ w1 ⟨rfl, hb⟩
  have HS := Aside0.mk (blk_below (blk_alloc (blk_new w (.cells #[.int .u64 turn, .int .u64 tail, .int .u64 count, .int .u64 first, .int .u64 last, .int .u64 state] 34)) (.cells #[.int .u64 turn2, .int .u64 tail2, .int .u64 count2, .int .u64 first2, .int .u64 last2, .int .u64 state2] 34)) hb)
  have HR := Aside0.mk (blk_below (show ((w.alloc (.cells #[.int .u64 turn, .int .u64 tail, .int .u64 count, .int .u64 first, .int .u64 last, .int .u64 state] 34)).alloc (.cells #[.int .u64 turn2, .int .u64 tail2, .int .u64 count2, .int .u64 first2, .int .u64 last2, .int .u64 state2] 34)).heap[w.heap.size + 1]? = some (.cells #[.int .u64 turn2, .int .u64 tail2, .int .u64 count2, .int .u64 first2, .int .u64 last2, .int .u64 state2] 34 (0, 0)) by have := blk_new (w.alloc (.cells #[.int .u64 turn, .int .u64 tail, .int .u64 count, .int .u64 first, .int .u64 last, .int .u64 state] 34)) (.cells #[.int .u64 turn2, .int .u64 tail2, .int .u64 count2, .int .u64 first2, .int .u64 last2, .int .u64 state2] 34); simpa using this) hb)
  have HB := Aside0.mk (below_step (below_alloc (below_alloc (Below.refl w.heap.size w) (.cells #[.int .u64 turn, .int .u64 tail, .int .u64 count, .int .u64 first, .int .u64 last, .int .u64 state] 34)) (.cells #[.int .u64 turn2, .int .u64 tail2, .int .u64 count2, .int .u64 first2, .int .u64 last2, .int .u64 state2] 34)) hb)
  clear hb
  have r0 := blk_cell HR.out 0
  have r1 := blk_cell HR.out 1
  have r2 := blk_cell HR.out 2
  have r3 := blk_cell HR.out 3
  have r4 := blk_cell HR.out 4
  have r5 := blk_cell HR.out 5
  have f0 := blk_frozen HR.out 0
  have f1 := blk_frozen HR.out 1
  have f2 := blk_frozen HR.out 2
  have f3 := blk_frozen HR.out 3
  have f4 := blk_frozen HR.out 4
  have f5 := blk_frozen HR.out 5
  go_wp2_with fail
  refine (C2.out _).mono ?_
  rintro _ w2 ⟨rfl, hb⟩
  replace HS := Aside0.mk (blk_below HS.out hb)
  replace HR := Aside0.mk (blk_below HR.out hb)
  replace HB := Aside0.mk (below_step HB.out hb)
  clear hb r0 r1 r2 r3 r4 r5 f0 f1 f2 f3 f4 f5
  have r0 := blk_cell HS.out 0
  have r1 := blk_cell HS.out 1
  have r2 := blk_cell HS.out 2
  have r3 := blk_cell HS.out 3
  have r4 := blk_cell HS.out 4
  have r5 := blk_cell HS.out 5
  have f0 := blk_frozen HS.out 0
  have f1 := blk_frozen HS.out 1
  have f2 := blk_frozen HS.out 2
  have f3 := blk_frozen HS.out 3
  have f4 := blk_frozen HS.out 4
  have f5 := blk_frozen HS.out 5
  go_wp2_with fail
  refine (crc_Make_calls _).mono ?_
  rintro _ w3 ⟨rfl, hT, hb⟩
  have HBT := Aside0.mk HB.out.size
  have HTR := Aside0.mk (blk_lt HR.out)
  replace HS := Aside0.mk (blk_below HS.out hb)
  replace HR := Aside0.mk (blk_below HR.out hb)
  replace HB := Aside0.mk (below_step HB.out hb)
  have HT := Aside0.mk hT
  obtain ⟨T, hTT⟩ : ∃ T, w2.heap.size = T := ⟨_, rfl⟩
  rw [hTT] at HT HBT HTR ⊢
  clear hb hT hTT r0 r1 r2 r3 r4 r5 f0 f1 f2 f3 f4 f5
  have r0 := blk_cell HR.out 0
  have r1 := blk_cell HR.out 1
  have r2 := blk_cell HR.out 2
  have r3 := blk_cell HR.out 3
  have r4 := blk_cell HR.out 4
  have r5 := blk_cell HR.out 5
  have f0 := blk_frozen HR.out 0
  have f1 := blk_frozen HR.out 1
  have f2 := blk_frozen HR.out 2
  have f3 := blk_frozen HR.out 3
  have f4 := blk_frozen HR.out 4
  have f5 := blk_frozen HR.out 5
  have s0 := blk_cell HS.out 0
  have s1 := blk_cell HS.out 1
  have s2 := blk_cell HS.out 2
  have s3 := blk_cell HS.out 3
  have s4 := blk_cell HS.out 4
  have s5 := blk_cell HS.out 5
  have g0 := blk_frozen HS.out 0
  have g1 := blk_frozen HS.out 1
  have g2 := blk_frozen HS.out 2
  have g3 := blk_frozen HS.out 3
  have g4 := blk_frozen HS.out 4
  have g5 := blk_frozen HS.out 5
  go_upto_region 6 with fail
  have hx := blk_set HR.out 0 (.int .u64 u)
  replace HR := Aside0.mk (show (w3.setCell ⟨w.heap.size + 1, 0, none⟩ (.int .u64 u)).heap[w.heap.size + 1]? = some (.cells #[.int .u64 u, .int .u64 tail2, .int .u64 count2, .int .u64 first2, .int .u64 last2, .int .u64 state2] 34 (0, 0)) by simpa using hx)
  replace HS := Aside0.mk (show (w3.setCell ⟨w.heap.size + 1, 0, none⟩ (.int .u64 u)).heap[w.heap.size]? = some (.cells #[.int .u64 turn, .int .u64 tail, .int .u64 count, .int .u64 first, .int .u64 last, .int .u64 state] 34 (0, 0)) from blk_far HS.out (by simp) _)
  have hTne : w.heap.size + 1 ≠ T := by have := HTR.out; omega
  replace HT := Aside0.mk (show CrcT (w3.setCell ⟨w.heap.size + 1, 0, none⟩ (.int .u64 u)) T from blk_far HT.out (by show T ≠ w.heap.size + 1; omega) _)
  replace HB := Aside0.mk (show Below w.heap.size w (w3.setCell ⟨w.heap.size + 1, 0, none⟩ (.int .u64 u)) from sbelow_set HB.out _ (Nat.le_succ _) _)
  have HZ := Aside0.mk (blk_new (w3.setCell ⟨w.heap.size + 1, 0, none⟩ (.int .u64 u)) (.cells zs 5))
  have HBG := Aside0.mk HB.out.size
  have HTB := Aside0.mk (blk_lt HT.out)
  have HRB := Aside0.mk (blk_lt HR.out)
  replace HR := Aside0.mk (blk_alloc HR.out (.cells zs 5))
  replace HS := Aside0.mk (blk_alloc HS.out (.cells zs 5))
  replace HT := Aside0.mk (CrcT.below HT.out (below_alloc (Below.refl _ _) (.cells zs 5)))
  replace HB := Aside0.mk (below_alloc HB.out (.cells zs 5))
  obtain ⟨wb, hwb⟩ : ∃ wb, (w3.setCell ⟨w.heap.size + 1, 0, none⟩ (.int .u64 u)) = wb := ⟨_, rfl⟩
  rw [hwb] at HZ HR HS HT HB HBG HTB HRB ⊢
  have hsz : wb.heap.size = w3.heap.size := by rw [← hwb]; simp
  rw [hsz] at HZ HBG HTB HRB
  obtain ⟨b, hb⟩ : ∃ b, w3.heap.size = b := ⟨_, rfl⟩
  rw [hb] at HZ HBG HTB HRB
  first | rw [hb] | skip
  obtain ⟨wa, hwa⟩ : ∃ wa, wb.alloc (.cells zs 5) = wa := ⟨_, rfl⟩
  rw [hwa] at HZ HR HS HT HB ⊢
  rw [← HZS.out] at HZ
  clear hb hsz hwb hwa hx hTne r0 r1 r2 r3 r4 r5 f0 f1 f2 f3 f4 f5 s0 s1 s2 s3 s4 s5 g0 g1 g2 g3 g4 g5
  have r0 := blk_cell HS.out 0
  have r1 := blk_cell HS.out 1
  have r2 := blk_cell HS.out 2
  have r3 := blk_cell HS.out 3
  have r4 := blk_cell HS.out 4
  have r5 := blk_cell HS.out 5
  refine start_ (n := 10) (S := fun w' => w'.cell? ⟨w.heap.size, 0, none⟩ = some (.int .u64 turn) ∧ w'.cell? ⟨w.heap.size, 1, none⟩ = some (.int .u64 tail) ∧ w'.cell? ⟨w.heap.size, 2, none⟩ = some (.int .u64 count) ∧ w'.cell? ⟨w.heap.size, 3, none⟩ = some (.int .u64 first) ∧ w'.cell? ⟨w.heap.size, 4, none⟩ = some (.int .u64 last) ∧ w'.cell? ⟨w.heap.size, 5, none⟩ = some (.int .u64 state)) (ds := [9]) #[false, false, false, false, false, false, false, false, false, false] (by kernel_rfl) rfl rfl ⟨r0, r1, r2, r3, r4, r5⟩ (fun hHeld => ?_)
  refine pure_ (i := 0) (N := some 32) (v := ?_) (a' := ?_) #[true, false, false, false, false, false, false, false, false, false] rfl rfl (by kernel_rfl) (fun _ _ _ h => h) (Or.inl ⟨by rfl, ?_⟩) ?_ ?_
  rotate_left
  · intro w'
    go_simp
    with_reducible rfl
  rotate_left
  · simp only [Act.put, List.setIfInBounds_toArray, List.set_cons_zero, List.set_cons_succ, i64_w, i32_w]
    rfl
  refine pure_ (i := 7) (N := some 39) (v := ?_) (a' := ?_) #[true, false, false, false, false, false, false, true, false, false] rfl rfl (by kernel_rfl) (fun _ _ _ h => h) (Or.inl ⟨by rfl, ?_⟩) ?_ ?_
  rotate_left
  · intro w'
    go_simp
    with_reducible rfl
  rotate_left
  · simp only [Act.put, List.setIfInBounds_toArray, List.set_cons_zero, List.set_cons_succ, i64_w, i32_w]
    rfl
  refine take_ (i := 1) (N := some 33) (v := ?_) (a' := ?_) #[true, true, false, false, false, false, false, true, false, false] rfl rfl (by kernel_rfl) (fun _ _ _ h => h) (Or.inl ⟨by rfl, ?_⟩) hHeld ?_ ?_
  rotate_left
  · rintro w' ⟨s0, s1, s2, s3, s4, s5⟩
    go_simp
    with_reducible rfl
  rotate_left
  · simp only [Act.put, List.setIfInBounds_toArray, List.set_cons_zero, List.set_cons_succ, i64_w, i32_w]
    rfl
  refine take_ (i := 5) (N := some 37) (v := ?_) (a' := ?_) #[true, true, false, false, false, true, false, true, false, false] rfl rfl (by kernel_rfl) (fun _ _ _ h => h) (Or.inl ⟨by rfl, ?_⟩) hHeld ?_ ?_
  rotate_left
  · rintro w' ⟨s0, s1, s2, s3, s4, s5⟩
    go_simp
    with_reducible rfl
  rotate_left
  · simp only [Act.put, List.setIfInBounds_toArray, List.set_cons_zero, List.set_cons_succ, i64_w, i32_w]
    rfl
  refine one_ (i := 2) (N := some 34) #[true, true, true, false, false, true, false, true, false, false] rfl rfl (by kernel_rfl) (by decide) (fun K hK => ?_)
  refine goes_ Try.func23 (by kernel_rfl) rfl #[.agg #[.int .u64 turn, .int .u64 tail, .int .u64 count, .int .u64 first, .int .u64 last, .int .u64 state]] (by rfl) rfl rfl (by (try simp only [List.map_toArray, List.map_cons, List.map_nil]); first | done | rfl) ?_
  with_reducible refine (slot_to_calls turn tail count first last state _).mono ?_
  rintro e w5 ⟨rfl, hb5⟩
  refine ⟨_, rfl, ?_⟩
  refine hK.out _ _ ⟨(pw_cell_below hb5 hHeld.1), (pw_cell_below hb5 hHeld.2.1), (pw_cell_below hb5 hHeld.2.2.1), (pw_cell_below hb5 hHeld.2.2.2.1), (pw_cell_below hb5 hHeld.2.2.2.2.1), (pw_cell_below hb5 hHeld.2.2.2.2.2)⟩ (fun hHeld => ?_)
  clear hK K
  refine norm_ (a' := ?_) ?_ ?_
  rotate_left
  · show Act.put _ (some 34) _ = _
    simp only [Act.put, List.setIfInBounds_toArray, List.set_cons_zero, List.set_cons_succ, i64_w, i32_w]
    rfl
  refine one_ (i := 3) (N := some 35) #[true, true, true, true, false, true, false, true, false, false] rfl rfl (by kernel_rfl) (by decide) (fun K hK => ?_)
  refine goes_ Try.func24 (by kernel_rfl) rfl #[.agg #[.int .u64 turn, .int .u64 tail, .int .u64 count, .int .u64 first, .int .u64 last, .int .u64 state]] (by rfl) rfl rfl (by (try simp only [List.map_toArray, List.map_cons, List.map_nil]); first | done | rfl) ?_
  with_reducible refine (CP1.out _).mono ?_
  rintro e w6 ⟨rfl, hb6⟩
  refine ⟨_, rfl, ?_⟩
  refine hK.out _ _ ⟨(pw_cell_below hb6 hHeld.1), (pw_cell_below hb6 hHeld.2.1), (pw_cell_below hb6 hHeld.2.2.1), (pw_cell_below hb6 hHeld.2.2.2.1), (pw_cell_below hb6 hHeld.2.2.2.2.1), (pw_cell_below hb6 hHeld.2.2.2.2.2)⟩ (fun hHeld => ?_)
  clear hK K
  refine norm_ (a' := ?_) ?_ ?_
  rotate_left
  · show Act.put _ (some 35) _ = _
    simp only [Act.put, List.setIfInBounds_toArray, List.set_cons_zero, List.set_cons_succ, i64_w, i32_w]
    rfl
  refine pure_ (i := 4) (N := some 36) (v := ?_) (a' := ?_) #[true, true, true, true, true, true, false, true, false, false] rfl rfl (by kernel_rfl) (fun _ _ _ h => h) (Or.inl ⟨by rfl, ?_⟩) ?_ ?_
  rotate_left
  · intro w'
    go_simp
    with_reducible rfl
  rotate_left
  · simp only [Act.put, List.setIfInBounds_toArray, List.set_cons_zero, List.set_cons_succ, i64_w, i32_w]
    rfl
  refine one_ (i := 6) (N := some 38) #[true, true, true, true, true, true, true, true, false, false] rfl rfl (by kernel_rfl) (by decide) (fun K hK => ?_)
  refine goes_ Try.func23 (by kernel_rfl) rfl #[.agg #[.int .u64 turn, .int .u64 tail, .int .u64 count, .int .u64 first, .int .u64 last, .int .u64 state]] (by rfl) rfl rfl (by (try simp only [List.map_toArray, List.map_cons, List.map_nil]); first | done | rfl) ?_
  with_reducible refine (slot_to_calls turn tail count first last state _).mono ?_
  rintro e w7 ⟨rfl, hb7⟩
  refine ⟨_, rfl, ?_⟩
  refine hK.out _ _ ⟨(pw_cell_below hb7 hHeld.1), (pw_cell_below hb7 hHeld.2.1), (pw_cell_below hb7 hHeld.2.2.1), (pw_cell_below hb7 hHeld.2.2.2.1), (pw_cell_below hb7 hHeld.2.2.2.2.1), (pw_cell_below hb7 hHeld.2.2.2.2.2)⟩ (fun hHeld => ?_)
  clear hK K
  refine norm_ (a' := ?_) ?_ ?_
  rotate_left
  · show Act.put _ (some 38) _ = _
    simp only [Act.put, List.setIfInBounds_toArray, List.set_cons_zero, List.set_cons_succ, i64_w, i32_w]
    rfl
  refine one_ (i := 8) (N := some 40) #[true, true, true, true, true, true, true, true, true, false] rfl rfl (by kernel_rfl) (by decide) (fun K hK => ?_)
  refine goes_ Try.func25 (by kernel_rfl) rfl #[.agg #[.int .u64 turn, .int .u64 tail, .int .u64 count, .int .u64 first, .int .u64 last, .int .u64 state], .pointer (some ⟨T, 0, none⟩)] (by rfl) rfl rfl (by (try simp only [List.map_toArray, List.map_cons, List.map_nil]); first | done | rfl) ?_
  with_reducible refine (slot_Encode_yes turn tail count first last state _ T (((((CrcT.below HT.out (below_drew (Below.refl _ _))).below hb5).below hb6).below hb7)) HS1.out turn0 (by have := HTU.out; omega) tail0 tail1 count0 count1 first0 first1 last0 last1 state0 state1).mono ?_
  rintro e w8 ⟨v8, rfl, ho8, hb8⟩
  refine ⟨_, rfl, ?_⟩
  refine hK.out _ _ ⟨(pw_cell_below hb8 hHeld.1), (pw_cell_below hb8 hHeld.2.1), (pw_cell_below hb8 hHeld.2.2.1), (pw_cell_below hb8 hHeld.2.2.2.1), (pw_cell_below hb8 hHeld.2.2.2.2.1), (pw_cell_below hb8 hHeld.2.2.2.2.2)⟩ (fun hHeld => ?_)
  clear hK K
  refine norm_ (a' := ?_) ?_ ?_
  rotate_left
  · show Act.put _ (some 40) _ = _
    simp only [Act.put, List.setIfInBounds_toArray, List.set_cons_zero, List.set_cons_succ, i64_w, i32_w]
    rfl
  refine last_ (i := 9) (N := some 41) #[true, true, true, true, true, true, true, true, true, true] rfl rfl (by kernel_rfl) (by decide) (fun K hK => ?_)
  have hz := blk_below (blk_below (blk_below (blk_below (blk_drew HZ.out) hb5) hb6) hb7) hb8
  obtain ⟨ad8, c8, rfl, hc8⟩ := rd_slice (Own.rd ho8) (show (encZ [] [turn, tail, count, first, last, state]).length = 64 by rw [encZ, List.length_append, encC_len, List.length_replicate]; rfl) (by omega)
  refine copy_step (by rfl) (.tmp 36) (.tmp 40) (by rfl) Try.underlying22 (by kernel_rfl) rfl rfl (List.replicate 256 0) (encZ [] [turn, tail, count, first, last, state]) hz (show (encZ [] [turn, tail, count, first, last, state]).length = 64 by rw [encZ, List.length_append, encC_len, List.length_replicate]; rfl) rfl hc8 (by simp only [List.length_replicate, List.length_append, HLS.out, HLR.out]; omega) ?_
  intro w9 hg9 hk9
  refine hK.out _ _ ?_
  clear hK K
  refine norm_ (a' := ?_) ?_ ?_
  rotate_left
  · show Act.put _ (some 41) _ = _
    simp only [Act.put, List.setIfInBounds_toArray, List.set_cons_zero, List.set_cons_succ, i64_w, i32_w]
    rfl
  refine done_ (by kernel_rfl) ?_
  have HB4 := Aside0.mk (below_step (below_step (below_step (below_step (below_drew HB.out) hb5) hb6) hb7) hb8)
  replace HB := Aside0.mk (Kp.from HB4.out hk9 (fun k hk => by rw [hk]; exact HBG.out))
  replace HS := Aside0.mk (hk9.blk (blk_below (blk_below (blk_below (blk_below (blk_drew HS.out) hb5) hb6) hb7) hb8) (by have := HRB.out; omega))
  replace HR := Aside0.mk (hk9.blk (blk_below (blk_below (blk_below (blk_below (blk_drew HR.out) hb5) hb6) hb7) hb8) (by have := HRB.out; omega))
  replace HT := Aside0.mk (hk9.blk (blk_below (blk_below (blk_below (blk_below (blk_drew HT.out) hb5) hb6) hb7) hb8) (by have := HTB.out; omega))
  replace HZ := Aside0.mk hg9
  clear HB4 hb5 hb6 hb7 hb8 hk9 hg9 hc8 ho8 r0 r1 r2 r3 r4 r5
  rw [spl1 _ HLS.out] at HZ
  have r0 := blk_cell HS.out 0
  have r1 := blk_cell HS.out 1
  have r2 := blk_cell HS.out 2
  have r3 := blk_cell HS.out 3
  have r4 := blk_cell HS.out 4
  have r5 := blk_cell HS.out 5
  go_upto_region 8 with fail
  have HW := Aside0.mk (blk_new w9 (.cells #[.int .u64 turn, .int .u64 tail, .int .u64 count, .int .u64 first, .int .u64 last, .int .u64 state] 34))
  have HSW := Aside0.mk (blk_lt HR.out)
  have HBW := Aside0.mk HB.out.size
  have HZW := Aside0.mk (blk_lt HZ.out)
  replace HS := Aside0.mk (blk_alloc HS.out (.cells #[.int .u64 turn, .int .u64 tail, .int .u64 count, .int .u64 first, .int .u64 last, .int .u64 state] 34))
  replace HR := Aside0.mk (blk_alloc HR.out (.cells #[.int .u64 turn, .int .u64 tail, .int .u64 count, .int .u64 first, .int .u64 last, .int .u64 state] 34))
  replace HT := Aside0.mk (CrcT.below HT.out (below_alloc (Below.refl _ _) (.cells #[.int .u64 turn, .int .u64 tail, .int .u64 count, .int .u64 first, .int .u64 last, .int .u64 state] 34)))
  replace HB := Aside0.mk (below_alloc HB.out (.cells #[.int .u64 turn, .int .u64 tail, .int .u64 count, .int .u64 first, .int .u64 last, .int .u64 state] 34))
  replace HZ := Aside0.mk (blk_alloc HZ.out (.cells #[.int .u64 turn, .int .u64 tail, .int .u64 count, .int .u64 first, .int .u64 last, .int .u64 state] 34))
  obtain ⟨g, hg⟩ : ∃ g, w9.heap.size = g := ⟨_, rfl⟩
  rw [hg] at HW HSW HZW HBW
  first | rw [hg] | skip
  obtain ⟨wc, hwc⟩ : ∃ wc, w9.alloc (.cells #[.int .u64 turn, .int .u64 tail, .int .u64 count, .int .u64 first, .int .u64 last, .int .u64 state] 34) = wc := ⟨_, rfl⟩
  rw [hwc] at HW HS HR HT HB HZ ⊢
  clear hg hwc r0 r1 r2 r3 r4 r5
  obtain ⟨wd, hwd⟩ : ∃ wd, wc = wd := ⟨_, rfl⟩
  rw [hwd] at HW HT HB HZ ⊢
  clear hwd
  go_upto_region 11 with fail
  obtain ⟨LL, hLL⟩ : ∃ LL, List.replicate 128 0 ++ (encZ [] [turn, tail, count, first, last, state] ++ List.replicate 64 0) = LL := ⟨_, rfl⟩
  have hLn : LL.length = 256 := by rw [← hLL]; simp only [List.length_append, List.length_replicate, HLS.out, HLR.out]
  have hLb : isB LL := by rw [← hLL]; exact (zeros_isB 128).app ((encZ_isB isB_nil _).app (zeros_isB 64))
  rw [hLL] at HZ HCH
  have hrd := Own.rd (own_blk (base := 0) HZ.out (Nat.zero_le _) (by omega))
  rw [hLn] at hrd
  have CC := Aside0.mk (slot_Choose_calls _ LL wd T HT.out hrd hLb (by omega))
  rw [HCH.out] at CC
  have HCC := CC
  rw [show chR (true, [turn, tail, count, first, last, state]) = .tuple #[.agg #[.int .u64 turn, .int .u64 tail, .int .u64 count, .int .u64 first, .int .u64 last, .int .u64 state], .bool true] from rfl] at HCC
  clear hLL hLn hLb hrd CC
  go_wp2_with fail
  refine (HCC.out).mono ?_
  rintro _ wf ⟨rfl, hb⟩
  have HX := Aside0.mk (blk_new wf (.cells #[.int .u64 turn, .int .u64 tail, .int .u64 count, .int .u64 first, .int .u64 last, .int .u64 state] 38))
  replace HW := Aside0.mk (blk_alloc (blk_below HW.out hb) (.cells #[.int .u64 turn, .int .u64 tail, .int .u64 count, .int .u64 first, .int .u64 last, .int .u64 state] 38))
  replace HB := Aside0.mk (below_alloc (below_step HB.out hb) (.cells #[.int .u64 turn, .int .u64 tail, .int .u64 count, .int .u64 first, .int .u64 last, .int .u64 state] 38))
  clear hb
  go_upto_region 12 with fail
  obtain ⟨d, hd⟩ : ∃ d, wf.heap.size = d := ⟨_, rfl⟩
  rw [hd] at HX
  first | rw [hd] | skip
  obtain ⟨we, hwe⟩ : ∃ we, wf.alloc (.cells #[.int .u64 turn, .int .u64 tail, .int .u64 count, .int .u64 first, .int .u64 last, .int .u64 state] 38) = we := ⟨_, rfl⟩
  rw [hwe] at HW HB HX ⊢
  clear hd hwe HCC
  have r0 := blk_cell HX.out 0
  have r1 := blk_cell HX.out 1
  have r2 := blk_cell HX.out 2
  have r3 := blk_cell HX.out 3
  have r4 := blk_cell HX.out 4
  have r5 := blk_cell HX.out 5
  have s0 := blk_cell HW.out 0
  have s1 := blk_cell HW.out 1
  have s2 := blk_cell HW.out 2
  have s3 := blk_cell HW.out 3
  have s4 := blk_cell HW.out 4
  have s5 := blk_cell HW.out 5
  refine start_ (n := 11) (S := fun w' => w'.cell? ⟨d, 0, none⟩ = some (.int .u64 turn) ∧ w'.cell? ⟨d, 1, none⟩ = some (.int .u64 tail) ∧ w'.cell? ⟨d, 2, none⟩ = some (.int .u64 count) ∧ w'.cell? ⟨d, 3, none⟩ = some (.int .u64 first) ∧ w'.cell? ⟨d, 4, none⟩ = some (.int .u64 last) ∧ w'.cell? ⟨d, 5, none⟩ = some (.int .u64 state) ∧ w'.cell? ⟨g, 0, none⟩ = some (.int .u64 turn) ∧ w'.cell? ⟨g, 1, none⟩ = some (.int .u64 tail) ∧ w'.cell? ⟨g, 2, none⟩ = some (.int .u64 count) ∧ w'.cell? ⟨g, 3, none⟩ = some (.int .u64 first) ∧ w'.cell? ⟨g, 4, none⟩ = some (.int .u64 last) ∧ w'.cell? ⟨g, 5, none⟩ = some (.int .u64 state)) (ds := []) #[false, false, false, false, false, false, false, false, false, false, false] (by kernel_rfl) rfl rfl ⟨r0, r1, r2, r3, r4, r5, s0, s1, s2, s3, s4, s5⟩ (fun hHeld => ?_)
  refine pure_ (i := 0) (N := some 61) (v := ?_) (a' := ?_) #[true, false, false, false, false, false, false, false, false, false, false] rfl rfl (by kernel_rfl) (fun _ _ _ h => h) (Or.inl ⟨by rfl, ?_⟩) ?_ ?_
  rotate_left
  · intro w'
    go_simp
    with_reducible rfl
  rotate_left
  · simp only [Act.put, List.setIfInBounds_toArray, List.set_cons_zero, List.set_cons_succ, i64_w, i32_w]
    rfl
  refine pure_ (i := 1) (N := some 62) (v := ?_) (a' := ?_) #[true, true, false, false, false, false, false, false, false, false, false] rfl rfl (by kernel_rfl) (fun _ _ _ h => h) (Or.inl ⟨by rfl, ?_⟩) ?_ ?_
  rotate_left
  · intro w'
    go_simp
    with_reducible rfl
  rotate_left
  · simp only [Act.put, List.setIfInBounds_toArray, List.set_cons_zero, List.set_cons_succ, i64_w, i32_w]
    rfl
  refine take_ (i := 2) (N := some 63) (v := ?_) (a' := ?_) #[true, true, true, false, false, false, false, false, false, false, false] rfl rfl (by kernel_rfl) (fun _ _ _ h => h) (Or.inl ⟨by rfl, ?_⟩) hHeld ?_ ?_
  rotate_left
  · rintro w' ⟨s0, s1, s2, s3, s4, s5, s6, s7, s8, s9, s10, s11⟩
    go_simp
    with_reducible rfl
  rotate_left
  · simp only [Act.put, List.setIfInBounds_toArray, List.set_cons_zero, List.set_cons_succ, i64_w, i32_w]
    rfl
  refine take_ (i := 4) (N := some 65) (v := ?_) (a' := ?_) #[true, true, true, false, true, false, false, false, false, false, false] rfl rfl (by kernel_rfl) (fun _ _ _ h => h) (Or.inl ⟨by rfl, ?_⟩) hHeld ?_ ?_
  rotate_left
  · rintro w' ⟨s0, s1, s2, s3, s4, s5, s6, s7, s8, s9, s10, s11⟩
    go_simp
    with_reducible rfl
  rotate_left
  · simp only [Act.put, List.setIfInBounds_toArray, List.set_cons_zero, List.set_cons_succ, i64_w, i32_w]
    rfl
  refine one_ (i := 3) (N := some 64) #[true, true, true, true, true, false, false, false, false, false, false] rfl rfl (by kernel_rfl) (by decide) (fun K hK => ?_)
  refine goes_ Try.func27 (by kernel_rfl) rfl #[.agg #[.int .u64 turn, .int .u64 tail, .int .u64 count, .int .u64 first, .int .u64 last, .int .u64 state]] (by rfl) rfl rfl (by (try simp only [List.map_toArray, List.map_cons, List.map_nil]); first | done | rfl) ?_
  with_reducible refine (slot_of_calls turn tail count first last state _).mono ?_
  rintro e w15 ⟨rfl, hb15⟩
  refine ⟨_, rfl, ?_⟩
  refine hK.out _ _ ⟨(pw_cell_below hb15 hHeld.1), (pw_cell_below hb15 hHeld.2.1), (pw_cell_below hb15 hHeld.2.2.1), (pw_cell_below hb15 hHeld.2.2.2.1), (pw_cell_below hb15 hHeld.2.2.2.2.1), (pw_cell_below hb15 hHeld.2.2.2.2.2.1), (pw_cell_below hb15 hHeld.2.2.2.2.2.2.1), (pw_cell_below hb15 hHeld.2.2.2.2.2.2.2.1), (pw_cell_below hb15 hHeld.2.2.2.2.2.2.2.2.1), (pw_cell_below hb15 hHeld.2.2.2.2.2.2.2.2.2.1), (pw_cell_below hb15 hHeld.2.2.2.2.2.2.2.2.2.2.1), (pw_cell_below hb15 hHeld.2.2.2.2.2.2.2.2.2.2.2)⟩ (fun hHeld => ?_)
  clear hK K
  refine norm_ (a' := ?_) ?_ ?_
  rotate_left
  · show Act.put _ (some 64) _ = _
    simp only [Act.put, List.setIfInBounds_toArray, List.set_cons_zero, List.set_cons_succ, i64_w, i32_w]
    rfl
  refine pure_ (i := 5) (N := some 66) (v := ?_) (a' := ?_) #[true, true, true, true, true, true, false, false, false, false, false] rfl rfl (by kernel_rfl) (fun _ _ _ h => h) (Or.inl ⟨by rfl, ?_⟩) ?_ ?_
  rotate_left
  · intro w'
    go_simp
    with_reducible rfl
  rotate_left
  · simp only [Act.put, List.setIfInBounds_toArray, List.set_cons_zero, List.set_cons_succ, i64_w, i32_w]
    rfl
  refine pure_ (i := 6) (N := some 67) (v := ?_) (a' := ?_) #[true, true, true, true, true, true, true, false, false, false, false] rfl rfl (by kernel_rfl) (fun _ _ _ h => h) (Or.inl ⟨by rfl, ?_⟩) ?_ ?_
  rotate_left
  · intro w'
    go_simp
    with_reducible rfl
  rotate_left
  · simp only [Act.put, List.setIfInBounds_toArray, List.set_cons_zero, List.set_cons_succ, i64_w, i32_w]
    rfl
  refine pure_ (i := 7) (N := some 68) (v := ?_) (a' := ?_) #[true, true, true, true, true, true, true, true, false, false, false] rfl rfl (by kernel_rfl) (fun _ _ _ h => h) (Or.inl ⟨by rfl, ?_⟩) ?_ ?_
  rotate_left
  · intro w'
    go_simp
    with_reducible rfl
  rotate_left
  · simp only [Act.put, List.setIfInBounds_toArray, List.set_cons_zero, List.set_cons_succ, i64_w, i32_w]
    rfl
  refine one_ (i := 8) (N := some 69) #[true, true, true, true, true, true, true, true, true, false, false] rfl rfl (by kernel_rfl) (by decide) (fun K hK => ?_)
  refine goes_ Try.func21 (by kernel_rfl) rfl #[] (by rfl) rfl rfl (by (try simp only [List.map_toArray, List.map_cons, List.map_nil]); first | done | rfl) ?_
  with_reducible refine (slot_awake_calls _).mono ?_
  rintro e w16 ⟨rfl, hb16⟩
  refine ⟨_, rfl, ?_⟩
  refine hK.out _ _ ⟨(pw_cell_below hb16 hHeld.1), (pw_cell_below hb16 hHeld.2.1), (pw_cell_below hb16 hHeld.2.2.1), (pw_cell_below hb16 hHeld.2.2.2.1), (pw_cell_below hb16 hHeld.2.2.2.2.1), (pw_cell_below hb16 hHeld.2.2.2.2.2.1), (pw_cell_below hb16 hHeld.2.2.2.2.2.2.1), (pw_cell_below hb16 hHeld.2.2.2.2.2.2.2.1), (pw_cell_below hb16 hHeld.2.2.2.2.2.2.2.2.1), (pw_cell_below hb16 hHeld.2.2.2.2.2.2.2.2.2.1), (pw_cell_below hb16 hHeld.2.2.2.2.2.2.2.2.2.2.1), (pw_cell_below hb16 hHeld.2.2.2.2.2.2.2.2.2.2.2)⟩ (fun hHeld => ?_)
  clear hK K
  refine norm_ (a' := ?_) ?_ ?_
  rotate_left
  · show Act.put _ (some 69) _ = _
    simp only [Act.put, List.setIfInBounds_toArray, List.set_cons_zero, List.set_cons_succ, i64_w, i32_w]
    rfl
  refine pure_ (i := 9) (N := some 70) (v := ?_) (a' := ?_) #[true, true, true, true, true, true, true, true, true, true, false] rfl rfl (by kernel_rfl) (fun _ _ _ h => h) (Or.inl ⟨by rfl, ?_⟩) ?_ ?_
  rotate_left
  · intro w'
    go_simp
    with_reducible rfl
  rotate_left
  · simp only [Act.put, List.setIfInBounds_toArray, List.set_cons_zero, List.set_cons_succ, i64_w, i32_w]
    rfl
  refine pure_ (i := 10) (N := some 6) (v := ?_) (a' := ?_) #[true, true, true, true, true, true, true, true, true, true, true] rfl rfl (by kernel_rfl) (fun _ _ _ h => h) (Or.inl ⟨by rfl, ?_⟩) ?_ ?_
  rotate_left
  · intro w'
    go_simp
    with_reducible rfl
  rotate_left
  · simp only [Act.put, List.setIfInBounds_toArray, List.set_cons_zero, List.set_cons_succ, i64_w, i32_w]
    rfl
  refine done_ (by kernel_rfl) ?_
  replace HB := Aside0.mk (below_step (below_step (below_drew HB.out) hb15) hb16)
  clear hb15 hb16
  go_wp2_with fail
  go_ret
  exact ⟨rfl, HB.out⟩
set_option maxHeartbeats 8000000 in
set_option maxRecDepth 100000 in
theorem SlotTurns_11 (turn tail count first last state turn2 tail2 count2 first2 last2 state2 : Int) (w : World) (hs : sR turn state tail = true) (hq : sR turn2 state2 tail2 = true) (hp : turn % 2 = 1) (tail0 : 0 ≤ tail) (tail1 : tail ≤ 18446744073709551615) (count0 : 0 ≤ count) (count1 : count ≤ 18446744073709551615) (first0 : 0 ≤ first) (first1 : first ≤ 18446744073709551615) (last0 : 0 ≤ last) (last1 : last ≤ 18446744073709551615) (state0 : 0 ≤ state) (state1 : state ≤ 18446744073709551615) (turn0 : 0 ≤ turn) (turn1 : turn ≤ 18446744073709551614) (turn20 : 0 ≤ turn2) (turn21 : turn2 ≤ 18446744073709551615) (tail20 : 0 ≤ tail2) (tail21 : tail2 ≤ 18446744073709551615) (count20 : 0 ≤ count2) (count21 : count2 ≤ 18446744073709551615) (first20 : 0 ≤ first2) (first21 : first2 ≤ 18446744073709551615) (last20 : 0 ≤ last2) (last21 : last2 ≤ 18446744073709551615) (state20 : 0 ≤ state2) (state21 : state2 ≤ 18446744073709551615) :
    Calls Try.prog 4 #[.agg #[.int .u64 turn, .int .u64 tail, .int .u64 count, .int .u64 first, .int .u64 last, .int .u64 state], .agg #[.int .u64 turn2, .int .u64 tail2, .int .u64 count2, .int .u64 first2, .int .u64 last2, .int .u64 state2], .bool true] w fun e w' => e = .returned (.bool true) ∧ Below w.heap.size w w' := by
  obtain ⟨u, hu⟩ : ∃ u, turn + 1 = u := ⟨_, rfl⟩
  have hR2 : sR u state2 tail2 = true := by
    rw [sR] at hq ⊢
    have h1 := Bool.and_eq_true_iff.1 hq
    have h2 := Bool.and_eq_true_iff.1 h1.1
    rw [h1.2, h2.2, decide_eq_true (by omega)]; rfl
  have hw1 : isW [turn, tail, count, first, last, state] := by intro x hx; simp only [List.mem_cons, List.not_mem_nil, or_false] at hx; rcases hx with rfl | rfl | rfl | rfl | rfl | rfl <;> exact ⟨by assumption, by omega⟩
  have hw2 : isW [u, tail2, count2, first2, last2, state2] := by intro x hx; simp only [List.mem_cons, List.not_mem_nil, or_false] at hx; rcases hx with rfl | rfl | rfl | rfl | rfl | rfl <;> exact ⟨by omega, by omega⟩
  have HCH := Aside0.mk (ch_11 turn tail count first last state u tail2 count2 first2 last2 state2 hs hR2 hu.symm hw1 hw2)
  have HLS := Aside0.mk (show (encZ [] [turn, tail, count, first, last, state]).length = 64 by rw [encZ, List.length_append, encC_len, List.length_replicate]; rfl)
  have HLR := Aside0.mk (show (encZ [] [u, tail2, count2, first2, last2, state2]).length = 64 by rw [encZ, List.length_append, encC_len, List.length_replicate]; rfl)
  have CP1 := Aside0.mk (fun w => slot_Place_calls turn tail count first last state w (by omega) (by omega))
  have CP2 := Aside0.mk (fun w => slot_Place_calls u tail2 count2 first2 last2 state2 w (by omega) (by omega))
  rw [hp, show (64 * (1 + (1 : Int))) = 128 from rfl] at CP1
  rw [show u % 2 = 0 by omega, show (64 * (1 + (0 : Int))) = 64 from rfl] at CP2
  have C1 := Aside0.mk (fun w => ref_sRight_calls turn tail count first last state w (by omega) (by omega))
  have C2 := Aside0.mk (fun w => ref_sRight_calls turn2 tail2 count2 first2 last2 state2 w (by omega) (by omega))
  rw [hs] at C1
  rw [hq] at C2
  have HS1 := Aside0.mk hs
  have HS2 := Aside0.mk hR2
  have HU := Aside0.mk hu
  have hne : (turn == 18446744073709551615) = false := by rw [beq_eq_false_iff_ne]; omega
  have hwu : IntKind.u64.wrap (turn + 1) = u := by rw [IntKind.wrap_u64]; omega
  have hmk : ∀ w : World, (Instr.makeSlice 22 (.int .i64 256) (.int .i64 256)).run Try.prog w = .ok (.slice (some ⟨w.heap.size, 0, none⟩) 256 256) (w.alloc (.cells (nums .u8 (List.replicate 256 0)).toArray 5)) := fun _ => by kernel_rfl
  obtain ⟨zs, hzs⟩ : ∃ zs, (nums .u8 (List.replicate 256 0)).toArray = zs := ⟨_, rfl⟩
  rw [hzs] at hmk
  have HZS := Aside0.mk hzs
  have HTU := Aside0.mk turn1
  clear hs hq hR2 hu hw1 hw2 hzs turn1 hp
  go_enter Try.func4, Try.ntmps4
  go_wp2_with fail
  refine (C1.out _).mono ?_
  rintro _ w1 ⟨rfl, hb⟩
  have HS := Aside0.mk (blk_below (blk_alloc (blk_new w (.cells #[.int .u64 turn, .int .u64 tail, .int .u64 count, .int .u64 first, .int .u64 last, .int .u64 state] 34)) (.cells #[.int .u64 turn2, .int .u64 tail2, .int .u64 count2, .int .u64 first2, .int .u64 last2, .int .u64 state2] 34)) hb)
  have HR := Aside0.mk (blk_below (show ((w.alloc (.cells #[.int .u64 turn, .int .u64 tail, .int .u64 count, .int .u64 first, .int .u64 last, .int .u64 state] 34)).alloc (.cells #[.int .u64 turn2, .int .u64 tail2, .int .u64 count2, .int .u64 first2, .int .u64 last2, .int .u64 state2] 34)).heap[w.heap.size + 1]? = some (.cells #[.int .u64 turn2, .int .u64 tail2, .int .u64 count2, .int .u64 first2, .int .u64 last2, .int .u64 state2] 34 (0, 0)) by have := blk_new (w.alloc (.cells #[.int .u64 turn, .int .u64 tail, .int .u64 count, .int .u64 first, .int .u64 last, .int .u64 state] 34)) (.cells #[.int .u64 turn2, .int .u64 tail2, .int .u64 count2, .int .u64 first2, .int .u64 last2, .int .u64 state2] 34); simpa using this) hb)
  have HB := Aside0.mk (below_step (below_alloc (below_alloc (Below.refl w.heap.size w) (.cells #[.int .u64 turn, .int .u64 tail, .int .u64 count, .int .u64 first, .int .u64 last, .int .u64 state] 34)) (.cells #[.int .u64 turn2, .int .u64 tail2, .int .u64 count2, .int .u64 first2, .int .u64 last2, .int .u64 state2] 34)) hb)
  clear hb
  have r0 := blk_cell HR.out 0
  have r1 := blk_cell HR.out 1
  have r2 := blk_cell HR.out 2
  have r3 := blk_cell HR.out 3
  have r4 := blk_cell HR.out 4
  have r5 := blk_cell HR.out 5
  have f0 := blk_frozen HR.out 0
  have f1 := blk_frozen HR.out 1
  have f2 := blk_frozen HR.out 2
  have f3 := blk_frozen HR.out 3
  have f4 := blk_frozen HR.out 4
  have f5 := blk_frozen HR.out 5
  go_wp2_with fail
  refine (C2.out _).mono ?_
  rintro _ w2 ⟨rfl, hb⟩
  replace HS := Aside0.mk (blk_below HS.out hb)
  replace HR := Aside0.mk (blk_below HR.out hb)
  replace HB := Aside0.mk (below_step HB.out hb)
  clear hb r0 r1 r2 r3 r4 r5 f0 f1 f2 f3 f4 f5
  have r0 := blk_cell HS.out 0
  have r1 := blk_cell HS.out 1
  have r2 := blk_cell HS.out 2
  have r3 := blk_cell HS.out 3
  have r4 := blk_cell HS.out 4
  have r5 := blk_cell HS.out 5
  have f0 := blk_frozen HS.out 0
  have f1 := blk_frozen HS.out 1
  have f2 := blk_frozen HS.out 2
  have f3 := blk_frozen HS.out 3
  have f4 := blk_frozen HS.out 4
  have f5 := blk_frozen HS.out 5
  go_wp2_with fail
  refine (crc_Make_calls _).mono ?_
  rintro _ w3 ⟨rfl, hT, hb⟩
  have HBT := Aside0.mk HB.out.size
  have HTR := Aside0.mk (blk_lt HR.out)
  replace HS := Aside0.mk (blk_below HS.out hb)
  replace HR := Aside0.mk (blk_below HR.out hb)
  replace HB := Aside0.mk (below_step HB.out hb)
  have HT := Aside0.mk hT
  obtain ⟨T, hTT⟩ : ∃ T, w2.heap.size = T := ⟨_, rfl⟩
  rw [hTT] at HT HBT HTR ⊢
  clear hb hT hTT r0 r1 r2 r3 r4 r5 f0 f1 f2 f3 f4 f5
  have r0 := blk_cell HR.out 0
  have r1 := blk_cell HR.out 1
  have r2 := blk_cell HR.out 2
  have r3 := blk_cell HR.out 3
  have r4 := blk_cell HR.out 4
  have r5 := blk_cell HR.out 5
  have f0 := blk_frozen HR.out 0
  have f1 := blk_frozen HR.out 1
  have f2 := blk_frozen HR.out 2
  have f3 := blk_frozen HR.out 3
  have f4 := blk_frozen HR.out 4
  have f5 := blk_frozen HR.out 5
  have s0 := blk_cell HS.out 0
  have s1 := blk_cell HS.out 1
  have s2 := blk_cell HS.out 2
  have s3 := blk_cell HS.out 3
  have s4 := blk_cell HS.out 4
  have s5 := blk_cell HS.out 5
  have g0 := blk_frozen HS.out 0
  have g1 := blk_frozen HS.out 1
  have g2 := blk_frozen HS.out 2
  have g3 := blk_frozen HS.out 3
  have g4 := blk_frozen HS.out 4
  have g5 := blk_frozen HS.out 5
  go_upto_region 6 with fail
  have hx := blk_set HR.out 0 (.int .u64 u)
  replace HR := Aside0.mk (show (w3.setCell ⟨w.heap.size + 1, 0, none⟩ (.int .u64 u)).heap[w.heap.size + 1]? = some (.cells #[.int .u64 u, .int .u64 tail2, .int .u64 count2, .int .u64 first2, .int .u64 last2, .int .u64 state2] 34 (0, 0)) by simpa using hx)
  replace HS := Aside0.mk (show (w3.setCell ⟨w.heap.size + 1, 0, none⟩ (.int .u64 u)).heap[w.heap.size]? = some (.cells #[.int .u64 turn, .int .u64 tail, .int .u64 count, .int .u64 first, .int .u64 last, .int .u64 state] 34 (0, 0)) from blk_far HS.out (by simp) _)
  have hTne : w.heap.size + 1 ≠ T := by have := HTR.out; omega
  replace HT := Aside0.mk (show CrcT (w3.setCell ⟨w.heap.size + 1, 0, none⟩ (.int .u64 u)) T from blk_far HT.out (by show T ≠ w.heap.size + 1; omega) _)
  replace HB := Aside0.mk (show Below w.heap.size w (w3.setCell ⟨w.heap.size + 1, 0, none⟩ (.int .u64 u)) from sbelow_set HB.out _ (Nat.le_succ _) _)
  have HZ := Aside0.mk (blk_new (w3.setCell ⟨w.heap.size + 1, 0, none⟩ (.int .u64 u)) (.cells zs 5))
  have HBG := Aside0.mk HB.out.size
  have HTB := Aside0.mk (blk_lt HT.out)
  have HRB := Aside0.mk (blk_lt HR.out)
  replace HR := Aside0.mk (blk_alloc HR.out (.cells zs 5))
  replace HS := Aside0.mk (blk_alloc HS.out (.cells zs 5))
  replace HT := Aside0.mk (CrcT.below HT.out (below_alloc (Below.refl _ _) (.cells zs 5)))
  replace HB := Aside0.mk (below_alloc HB.out (.cells zs 5))
  obtain ⟨wb, hwb⟩ : ∃ wb, (w3.setCell ⟨w.heap.size + 1, 0, none⟩ (.int .u64 u)) = wb := ⟨_, rfl⟩
  rw [hwb] at HZ HR HS HT HB HBG HTB HRB ⊢
  have hsz : wb.heap.size = w3.heap.size := by rw [← hwb]; simp
  rw [hsz] at HZ HBG HTB HRB
  obtain ⟨b, hb⟩ : ∃ b, w3.heap.size = b := ⟨_, rfl⟩
  rw [hb] at HZ HBG HTB HRB
  first | rw [hb] | skip
  obtain ⟨wa, hwa⟩ : ∃ wa, wb.alloc (.cells zs 5) = wa := ⟨_, rfl⟩
  rw [hwa] at HZ HR HS HT HB ⊢
  rw [← HZS.out] at HZ
  clear hb hsz hwb hwa hx hTne r0 r1 r2 r3 r4 r5 f0 f1 f2 f3 f4 f5 s0 s1 s2 s3 s4 s5 g0 g1 g2 g3 g4 g5
  have r0 := blk_cell HS.out 0
  have r1 := blk_cell HS.out 1
  have r2 := blk_cell HS.out 2
  have r3 := blk_cell HS.out 3
  have r4 := blk_cell HS.out 4
  have r5 := blk_cell HS.out 5
  refine start_ (n := 10) (S := fun w' => w'.cell? ⟨w.heap.size, 0, none⟩ = some (.int .u64 turn) ∧ w'.cell? ⟨w.heap.size, 1, none⟩ = some (.int .u64 tail) ∧ w'.cell? ⟨w.heap.size, 2, none⟩ = some (.int .u64 count) ∧ w'.cell? ⟨w.heap.size, 3, none⟩ = some (.int .u64 first) ∧ w'.cell? ⟨w.heap.size, 4, none⟩ = some (.int .u64 last) ∧ w'.cell? ⟨w.heap.size, 5, none⟩ = some (.int .u64 state)) (ds := [9]) #[false, false, false, false, false, false, false, false, false, false] (by kernel_rfl) rfl rfl ⟨r0, r1, r2, r3, r4, r5⟩ (fun hHeld => ?_)
  refine pure_ (i := 0) (N := some 32) (v := ?_) (a' := ?_) #[true, false, false, false, false, false, false, false, false, false] rfl rfl (by kernel_rfl) (fun _ _ _ h => h) (Or.inl ⟨by rfl, ?_⟩) ?_ ?_
  rotate_left
  · intro w'
    go_simp
    with_reducible rfl
  rotate_left
  · simp only [Act.put, List.setIfInBounds_toArray, List.set_cons_zero, List.set_cons_succ, i64_w, i32_w]
    rfl
  refine pure_ (i := 7) (N := some 39) (v := ?_) (a' := ?_) #[true, false, false, false, false, false, false, true, false, false] rfl rfl (by kernel_rfl) (fun _ _ _ h => h) (Or.inl ⟨by rfl, ?_⟩) ?_ ?_
  rotate_left
  · intro w'
    go_simp
    with_reducible rfl
  rotate_left
  · simp only [Act.put, List.setIfInBounds_toArray, List.set_cons_zero, List.set_cons_succ, i64_w, i32_w]
    rfl
  refine take_ (i := 1) (N := some 33) (v := ?_) (a' := ?_) #[true, true, false, false, false, false, false, true, false, false] rfl rfl (by kernel_rfl) (fun _ _ _ h => h) (Or.inl ⟨by rfl, ?_⟩) hHeld ?_ ?_
  rotate_left
  · rintro w' ⟨s0, s1, s2, s3, s4, s5⟩
    go_simp
    with_reducible rfl
  rotate_left
  · simp only [Act.put, List.setIfInBounds_toArray, List.set_cons_zero, List.set_cons_succ, i64_w, i32_w]
    rfl
  refine take_ (i := 5) (N := some 37) (v := ?_) (a' := ?_) #[true, true, false, false, false, true, false, true, false, false] rfl rfl (by kernel_rfl) (fun _ _ _ h => h) (Or.inl ⟨by rfl, ?_⟩) hHeld ?_ ?_
  rotate_left
  · rintro w' ⟨s0, s1, s2, s3, s4, s5⟩
    go_simp
    with_reducible rfl
  rotate_left
  · simp only [Act.put, List.setIfInBounds_toArray, List.set_cons_zero, List.set_cons_succ, i64_w, i32_w]
    rfl
  refine one_ (i := 2) (N := some 34) #[true, true, true, false, false, true, false, true, false, false] rfl rfl (by kernel_rfl) (by decide) (fun K hK => ?_)
  refine goes_ Try.func23 (by kernel_rfl) rfl #[.agg #[.int .u64 turn, .int .u64 tail, .int .u64 count, .int .u64 first, .int .u64 last, .int .u64 state]] (by rfl) rfl rfl (by (try simp only [List.map_toArray, List.map_cons, List.map_nil]); first | done | rfl) ?_
  with_reducible refine (slot_to_calls turn tail count first last state _).mono ?_
  rintro e w5 ⟨rfl, hb5⟩
  refine ⟨_, rfl, ?_⟩
  refine hK.out _ _ ⟨(pw_cell_below hb5 hHeld.1), (pw_cell_below hb5 hHeld.2.1), (pw_cell_below hb5 hHeld.2.2.1), (pw_cell_below hb5 hHeld.2.2.2.1), (pw_cell_below hb5 hHeld.2.2.2.2.1), (pw_cell_below hb5 hHeld.2.2.2.2.2)⟩ (fun hHeld => ?_)
  clear hK K
  refine norm_ (a' := ?_) ?_ ?_
  rotate_left
  · show Act.put _ (some 34) _ = _
    simp only [Act.put, List.setIfInBounds_toArray, List.set_cons_zero, List.set_cons_succ, i64_w, i32_w]
    rfl
  refine one_ (i := 3) (N := some 35) #[true, true, true, true, false, true, false, true, false, false] rfl rfl (by kernel_rfl) (by decide) (fun K hK => ?_)
  refine goes_ Try.func24 (by kernel_rfl) rfl #[.agg #[.int .u64 turn, .int .u64 tail, .int .u64 count, .int .u64 first, .int .u64 last, .int .u64 state]] (by rfl) rfl rfl (by (try simp only [List.map_toArray, List.map_cons, List.map_nil]); first | done | rfl) ?_
  with_reducible refine (CP1.out _).mono ?_
  rintro e w6 ⟨rfl, hb6⟩
  refine ⟨_, rfl, ?_⟩
  refine hK.out _ _ ⟨(pw_cell_below hb6 hHeld.1), (pw_cell_below hb6 hHeld.2.1), (pw_cell_below hb6 hHeld.2.2.1), (pw_cell_below hb6 hHeld.2.2.2.1), (pw_cell_below hb6 hHeld.2.2.2.2.1), (pw_cell_below hb6 hHeld.2.2.2.2.2)⟩ (fun hHeld => ?_)
  clear hK K
  refine norm_ (a' := ?_) ?_ ?_
  rotate_left
  · show Act.put _ (some 35) _ = _
    simp only [Act.put, List.setIfInBounds_toArray, List.set_cons_zero, List.set_cons_succ, i64_w, i32_w]
    rfl
  refine pure_ (i := 4) (N := some 36) (v := ?_) (a' := ?_) #[true, true, true, true, true, true, false, true, false, false] rfl rfl (by kernel_rfl) (fun _ _ _ h => h) (Or.inl ⟨by rfl, ?_⟩) ?_ ?_
  rotate_left
  · intro w'
    go_simp
    with_reducible rfl
  rotate_left
  · simp only [Act.put, List.setIfInBounds_toArray, List.set_cons_zero, List.set_cons_succ, i64_w, i32_w]
    rfl
  refine one_ (i := 6) (N := some 38) #[true, true, true, true, true, true, true, true, false, false] rfl rfl (by kernel_rfl) (by decide) (fun K hK => ?_)
  refine goes_ Try.func23 (by kernel_rfl) rfl #[.agg #[.int .u64 turn, .int .u64 tail, .int .u64 count, .int .u64 first, .int .u64 last, .int .u64 state]] (by rfl) rfl rfl (by (try simp only [List.map_toArray, List.map_cons, List.map_nil]); first | done | rfl) ?_
  with_reducible refine (slot_to_calls turn tail count first last state _).mono ?_
  rintro e w7 ⟨rfl, hb7⟩
  refine ⟨_, rfl, ?_⟩
  refine hK.out _ _ ⟨(pw_cell_below hb7 hHeld.1), (pw_cell_below hb7 hHeld.2.1), (pw_cell_below hb7 hHeld.2.2.1), (pw_cell_below hb7 hHeld.2.2.2.1), (pw_cell_below hb7 hHeld.2.2.2.2.1), (pw_cell_below hb7 hHeld.2.2.2.2.2)⟩ (fun hHeld => ?_)
  clear hK K
  refine norm_ (a' := ?_) ?_ ?_
  rotate_left
  · show Act.put _ (some 38) _ = _
    simp only [Act.put, List.setIfInBounds_toArray, List.set_cons_zero, List.set_cons_succ, i64_w, i32_w]
    rfl
  refine one_ (i := 8) (N := some 40) #[true, true, true, true, true, true, true, true, true, false] rfl rfl (by kernel_rfl) (by decide) (fun K hK => ?_)
  refine goes_ Try.func25 (by kernel_rfl) rfl #[.agg #[.int .u64 turn, .int .u64 tail, .int .u64 count, .int .u64 first, .int .u64 last, .int .u64 state], .pointer (some ⟨T, 0, none⟩)] (by rfl) rfl rfl (by (try simp only [List.map_toArray, List.map_cons, List.map_nil]); first | done | rfl) ?_
  with_reducible refine (slot_Encode_yes turn tail count first last state _ T (((((CrcT.below HT.out (below_drew (Below.refl _ _))).below hb5).below hb6).below hb7)) HS1.out turn0 (by have := HTU.out; omega) tail0 tail1 count0 count1 first0 first1 last0 last1 state0 state1).mono ?_
  rintro e w8 ⟨v8, rfl, ho8, hb8⟩
  refine ⟨_, rfl, ?_⟩
  refine hK.out _ _ ⟨(pw_cell_below hb8 hHeld.1), (pw_cell_below hb8 hHeld.2.1), (pw_cell_below hb8 hHeld.2.2.1), (pw_cell_below hb8 hHeld.2.2.2.1), (pw_cell_below hb8 hHeld.2.2.2.2.1), (pw_cell_below hb8 hHeld.2.2.2.2.2)⟩ (fun hHeld => ?_)
  clear hK K
  refine norm_ (a' := ?_) ?_ ?_
  rotate_left
  · show Act.put _ (some 40) _ = _
    simp only [Act.put, List.setIfInBounds_toArray, List.set_cons_zero, List.set_cons_succ, i64_w, i32_w]
    rfl
  refine last_ (i := 9) (N := some 41) #[true, true, true, true, true, true, true, true, true, true] rfl rfl (by kernel_rfl) (by decide) (fun K hK => ?_)
  have hz := blk_below (blk_below (blk_below (blk_below (blk_drew HZ.out) hb5) hb6) hb7) hb8
  obtain ⟨ad8, c8, rfl, hc8⟩ := rd_slice (Own.rd ho8) (show (encZ [] [turn, tail, count, first, last, state]).length = 64 by rw [encZ, List.length_append, encC_len, List.length_replicate]; rfl) (by omega)
  refine copy_step (by rfl) (.tmp 36) (.tmp 40) (by rfl) Try.underlying22 (by kernel_rfl) rfl rfl (List.replicate 256 0) (encZ [] [turn, tail, count, first, last, state]) hz (show (encZ [] [turn, tail, count, first, last, state]).length = 64 by rw [encZ, List.length_append, encC_len, List.length_replicate]; rfl) rfl hc8 (by simp only [List.length_replicate, List.length_append, HLS.out, HLR.out]; omega) ?_
  intro w9 hg9 hk9
  refine hK.out _ _ ?_
  clear hK K
  refine norm_ (a' := ?_) ?_ ?_
  rotate_left
  · show Act.put _ (some 41) _ = _
    simp only [Act.put, List.setIfInBounds_toArray, List.set_cons_zero, List.set_cons_succ, i64_w, i32_w]
    rfl
  refine done_ (by kernel_rfl) ?_
  have HB4 := Aside0.mk (below_step (below_step (below_step (below_step (below_drew HB.out) hb5) hb6) hb7) hb8)
  replace HB := Aside0.mk (Kp.from HB4.out hk9 (fun k hk => by rw [hk]; exact HBG.out))
  replace HS := Aside0.mk (hk9.blk (blk_below (blk_below (blk_below (blk_below (blk_drew HS.out) hb5) hb6) hb7) hb8) (by have := HRB.out; omega))
  replace HR := Aside0.mk (hk9.blk (blk_below (blk_below (blk_below (blk_below (blk_drew HR.out) hb5) hb6) hb7) hb8) (by have := HRB.out; omega))
  replace HT := Aside0.mk (hk9.blk (blk_below (blk_below (blk_below (blk_below (blk_drew HT.out) hb5) hb6) hb7) hb8) (by have := HTB.out; omega))
  replace HZ := Aside0.mk hg9
  clear HB4 hb5 hb6 hb7 hb8 hk9 hg9 hc8 ho8 r0 r1 r2 r3 r4 r5
  rw [spl1 _ HLS.out] at HZ
  have r0 := blk_cell HS.out 0
  have r1 := blk_cell HS.out 1
  have r2 := blk_cell HS.out 2
  have r3 := blk_cell HS.out 3
  have r4 := blk_cell HS.out 4
  have r5 := blk_cell HS.out 5
  go_upto_region 8 with fail
  have HW := Aside0.mk (blk_new w9 (.cells #[.int .u64 turn, .int .u64 tail, .int .u64 count, .int .u64 first, .int .u64 last, .int .u64 state] 34))
  have HSW := Aside0.mk (blk_lt HR.out)
  have HBW := Aside0.mk HB.out.size
  have HZW := Aside0.mk (blk_lt HZ.out)
  replace HS := Aside0.mk (blk_alloc HS.out (.cells #[.int .u64 turn, .int .u64 tail, .int .u64 count, .int .u64 first, .int .u64 last, .int .u64 state] 34))
  replace HR := Aside0.mk (blk_alloc HR.out (.cells #[.int .u64 turn, .int .u64 tail, .int .u64 count, .int .u64 first, .int .u64 last, .int .u64 state] 34))
  replace HT := Aside0.mk (CrcT.below HT.out (below_alloc (Below.refl _ _) (.cells #[.int .u64 turn, .int .u64 tail, .int .u64 count, .int .u64 first, .int .u64 last, .int .u64 state] 34)))
  replace HB := Aside0.mk (below_alloc HB.out (.cells #[.int .u64 turn, .int .u64 tail, .int .u64 count, .int .u64 first, .int .u64 last, .int .u64 state] 34))
  replace HZ := Aside0.mk (blk_alloc HZ.out (.cells #[.int .u64 turn, .int .u64 tail, .int .u64 count, .int .u64 first, .int .u64 last, .int .u64 state] 34))
  obtain ⟨g, hg⟩ : ∃ g, w9.heap.size = g := ⟨_, rfl⟩
  rw [hg] at HW HSW HZW HBW
  first | rw [hg] | skip
  obtain ⟨wc, hwc⟩ : ∃ wc, w9.alloc (.cells #[.int .u64 turn, .int .u64 tail, .int .u64 count, .int .u64 first, .int .u64 last, .int .u64 state] 34) = wc := ⟨_, rfl⟩
  rw [hwc] at HW HS HR HT HB HZ ⊢
  clear hg hwc r0 r1 r2 r3 r4 r5
  have r0 := blk_cell HR.out 0
  have r1 := blk_cell HR.out 1
  have r2 := blk_cell HR.out 2
  have r3 := blk_cell HR.out 3
  have r4 := blk_cell HR.out 4
  have r5 := blk_cell HR.out 5
  go_upto_region 9 with fail
  refine start_ (n := 10) (S := fun w' => w'.cell? ⟨w.heap.size + 1, 0, none⟩ = some (.int .u64 u) ∧ w'.cell? ⟨w.heap.size + 1, 1, none⟩ = some (.int .u64 tail2) ∧ w'.cell? ⟨w.heap.size + 1, 2, none⟩ = some (.int .u64 count2) ∧ w'.cell? ⟨w.heap.size + 1, 3, none⟩ = some (.int .u64 first2) ∧ w'.cell? ⟨w.heap.size + 1, 4, none⟩ = some (.int .u64 last2) ∧ w'.cell? ⟨w.heap.size + 1, 5, none⟩ = some (.int .u64 state2)) (ds := [9]) #[false, false, false, false, false, false, false, false, false, false] (by kernel_rfl) rfl rfl ⟨r0, r1, r2, r3, r4, r5⟩ (fun hHeld => ?_)
  refine pure_ (i := 0) (N := some 44) (v := ?_) (a' := ?_) #[true, false, false, false, false, false, false, false, false, false] rfl rfl (by kernel_rfl) (fun _ _ _ h => h) (Or.inl ⟨by rfl, ?_⟩) ?_ ?_
  rotate_left
  · intro w'
    go_simp
    with_reducible rfl
  rotate_left
  · simp only [Act.put, List.setIfInBounds_toArray, List.set_cons_zero, List.set_cons_succ, i64_w, i32_w]
    rfl
  refine pure_ (i := 7) (N := some 51) (v := ?_) (a' := ?_) #[true, false, false, false, false, false, false, true, false, false] rfl rfl (by kernel_rfl) (fun _ _ _ h => h) (Or.inl ⟨by rfl, ?_⟩) ?_ ?_
  rotate_left
  · intro w'
    go_simp
    with_reducible rfl
  rotate_left
  · simp only [Act.put, List.setIfInBounds_toArray, List.set_cons_zero, List.set_cons_succ, i64_w, i32_w]
    rfl
  refine take_ (i := 1) (N := some 45) (v := ?_) (a' := ?_) #[true, true, false, false, false, false, false, true, false, false] rfl rfl (by kernel_rfl) (fun _ _ _ h => h) (Or.inl ⟨by rfl, ?_⟩) hHeld ?_ ?_
  rotate_left
  · rintro w' ⟨s0, s1, s2, s3, s4, s5⟩
    go_simp
    with_reducible rfl
  rotate_left
  · simp only [Act.put, List.setIfInBounds_toArray, List.set_cons_zero, List.set_cons_succ, i64_w, i32_w]
    rfl
  refine take_ (i := 5) (N := some 49) (v := ?_) (a' := ?_) #[true, true, false, false, false, true, false, true, false, false] rfl rfl (by kernel_rfl) (fun _ _ _ h => h) (Or.inl ⟨by rfl, ?_⟩) hHeld ?_ ?_
  rotate_left
  · rintro w' ⟨s0, s1, s2, s3, s4, s5⟩
    go_simp
    with_reducible rfl
  rotate_left
  · simp only [Act.put, List.setIfInBounds_toArray, List.set_cons_zero, List.set_cons_succ, i64_w, i32_w]
    rfl
  refine one_ (i := 2) (N := some 46) #[true, true, true, false, false, true, false, true, false, false] rfl rfl (by kernel_rfl) (by decide) (fun K hK => ?_)
  refine goes_ Try.func23 (by kernel_rfl) rfl #[.agg #[.int .u64 u, .int .u64 tail2, .int .u64 count2, .int .u64 first2, .int .u64 last2, .int .u64 state2]] (by rfl) rfl rfl (by (try simp only [List.map_toArray, List.map_cons, List.map_nil]); first | done | rfl) ?_
  with_reducible refine (slot_to_calls u tail2 count2 first2 last2 state2 _).mono ?_
  rintro e w5 ⟨rfl, hb5⟩
  refine ⟨_, rfl, ?_⟩
  refine hK.out _ _ ⟨(pw_cell_below hb5 hHeld.1), (pw_cell_below hb5 hHeld.2.1), (pw_cell_below hb5 hHeld.2.2.1), (pw_cell_below hb5 hHeld.2.2.2.1), (pw_cell_below hb5 hHeld.2.2.2.2.1), (pw_cell_below hb5 hHeld.2.2.2.2.2)⟩ (fun hHeld => ?_)
  clear hK K
  refine norm_ (a' := ?_) ?_ ?_
  rotate_left
  · show Act.put _ (some 46) _ = _
    simp only [Act.put, List.setIfInBounds_toArray, List.set_cons_zero, List.set_cons_succ, i64_w, i32_w]
    rfl
  refine one_ (i := 3) (N := some 47) #[true, true, true, true, false, true, false, true, false, false] rfl rfl (by kernel_rfl) (by decide) (fun K hK => ?_)
  refine goes_ Try.func24 (by kernel_rfl) rfl #[.agg #[.int .u64 u, .int .u64 tail2, .int .u64 count2, .int .u64 first2, .int .u64 last2, .int .u64 state2]] (by rfl) rfl rfl (by (try simp only [List.map_toArray, List.map_cons, List.map_nil]); first | done | rfl) ?_
  with_reducible refine (CP2.out _).mono ?_
  rintro e w6 ⟨rfl, hb6⟩
  refine ⟨_, rfl, ?_⟩
  refine hK.out _ _ ⟨(pw_cell_below hb6 hHeld.1), (pw_cell_below hb6 hHeld.2.1), (pw_cell_below hb6 hHeld.2.2.1), (pw_cell_below hb6 hHeld.2.2.2.1), (pw_cell_below hb6 hHeld.2.2.2.2.1), (pw_cell_below hb6 hHeld.2.2.2.2.2)⟩ (fun hHeld => ?_)
  clear hK K
  refine norm_ (a' := ?_) ?_ ?_
  rotate_left
  · show Act.put _ (some 47) _ = _
    simp only [Act.put, List.setIfInBounds_toArray, List.set_cons_zero, List.set_cons_succ, i64_w, i32_w]
    rfl
  refine pure_ (i := 4) (N := some 48) (v := ?_) (a' := ?_) #[true, true, true, true, true, true, false, true, false, false] rfl rfl (by kernel_rfl) (fun _ _ _ h => h) (Or.inl ⟨by rfl, ?_⟩) ?_ ?_
  rotate_left
  · intro w'
    go_simp
    with_reducible rfl
  rotate_left
  · simp only [Act.put, List.setIfInBounds_toArray, List.set_cons_zero, List.set_cons_succ, i64_w, i32_w]
    rfl
  refine one_ (i := 6) (N := some 50) #[true, true, true, true, true, true, true, true, false, false] rfl rfl (by kernel_rfl) (by decide) (fun K hK => ?_)
  refine goes_ Try.func23 (by kernel_rfl) rfl #[.agg #[.int .u64 u, .int .u64 tail2, .int .u64 count2, .int .u64 first2, .int .u64 last2, .int .u64 state2]] (by rfl) rfl rfl (by (try simp only [List.map_toArray, List.map_cons, List.map_nil]); first | done | rfl) ?_
  with_reducible refine (slot_to_calls u tail2 count2 first2 last2 state2 _).mono ?_
  rintro e w7 ⟨rfl, hb7⟩
  refine ⟨_, rfl, ?_⟩
  refine hK.out _ _ ⟨(pw_cell_below hb7 hHeld.1), (pw_cell_below hb7 hHeld.2.1), (pw_cell_below hb7 hHeld.2.2.1), (pw_cell_below hb7 hHeld.2.2.2.1), (pw_cell_below hb7 hHeld.2.2.2.2.1), (pw_cell_below hb7 hHeld.2.2.2.2.2)⟩ (fun hHeld => ?_)
  clear hK K
  refine norm_ (a' := ?_) ?_ ?_
  rotate_left
  · show Act.put _ (some 50) _ = _
    simp only [Act.put, List.setIfInBounds_toArray, List.set_cons_zero, List.set_cons_succ, i64_w, i32_w]
    rfl
  refine one_ (i := 8) (N := some 52) #[true, true, true, true, true, true, true, true, true, false] rfl rfl (by kernel_rfl) (by decide) (fun K hK => ?_)
  refine goes_ Try.func25 (by kernel_rfl) rfl #[.agg #[.int .u64 u, .int .u64 tail2, .int .u64 count2, .int .u64 first2, .int .u64 last2, .int .u64 state2], .pointer (some ⟨T, 0, none⟩)] (by rfl) rfl rfl (by (try simp only [List.map_toArray, List.map_cons, List.map_nil]); first | done | rfl) ?_
  with_reducible refine (slot_Encode_yes u tail2 count2 first2 last2 state2 _ T (((((CrcT.below HT.out (below_drew (Below.refl _ _))).below hb5).below hb6).below hb7)) HS2.out (by have := HU.out; omega) (by have := HU.out; have := HTU.out; omega) tail20 tail21 count20 count21 first20 first21 last20 last21 state20 state21).mono ?_
  rintro e w8 ⟨v8, rfl, ho8, hb8⟩
  refine ⟨_, rfl, ?_⟩
  refine hK.out _ _ ⟨(pw_cell_below hb8 hHeld.1), (pw_cell_below hb8 hHeld.2.1), (pw_cell_below hb8 hHeld.2.2.1), (pw_cell_below hb8 hHeld.2.2.2.1), (pw_cell_below hb8 hHeld.2.2.2.2.1), (pw_cell_below hb8 hHeld.2.2.2.2.2)⟩ (fun hHeld => ?_)
  clear hK K
  refine norm_ (a' := ?_) ?_ ?_
  rotate_left
  · show Act.put _ (some 52) _ = _
    simp only [Act.put, List.setIfInBounds_toArray, List.set_cons_zero, List.set_cons_succ, i64_w, i32_w]
    rfl
  refine last_ (i := 9) (N := some 53) #[true, true, true, true, true, true, true, true, true, true] rfl rfl (by kernel_rfl) (by decide) (fun K hK => ?_)
  have hz := blk_below (blk_below (blk_below (blk_below (blk_drew HZ.out) hb5) hb6) hb7) hb8
  obtain ⟨ad8, c8, rfl, hc8⟩ := rd_slice (Own.rd ho8) (show (encZ [] [u, tail2, count2, first2, last2, state2]).length = 64 by rw [encZ, List.length_append, encC_len, List.length_replicate]; rfl) (by omega)
  refine copy_step (by rfl) (.tmp 48) (.tmp 52) (by rfl) Try.underlying22 (by kernel_rfl) rfl rfl (List.replicate 128 0 ++ (encZ [] [turn, tail, count, first, last, state] ++ List.replicate 64 0)) (encZ [] [u, tail2, count2, first2, last2, state2]) hz (show (encZ [] [u, tail2, count2, first2, last2, state2]).length = 64 by rw [encZ, List.length_append, encC_len, List.length_replicate]; rfl) rfl hc8 (by simp only [List.length_replicate, List.length_append, HLS.out, HLR.out]; omega) ?_
  intro w9 hg9 hk9
  refine hK.out _ _ ?_
  clear hK K
  refine norm_ (a' := ?_) ?_ ?_
  rotate_left
  · show Act.put _ (some 53) _ = _
    simp only [Act.put, List.setIfInBounds_toArray, List.set_cons_zero, List.set_cons_succ, i64_w, i32_w]
    rfl
  refine done_ (by kernel_rfl) ?_
  have HB4 := Aside0.mk (below_step (below_step (below_step (below_step (below_drew HB.out) hb5) hb6) hb7) hb8)
  replace HB := Aside0.mk (Kp.from HB4.out hk9 (fun k hk => by rw [hk]; exact HBG.out))
  replace HS := Aside0.mk (hk9.blk (blk_below (blk_below (blk_below (blk_below (blk_drew HS.out) hb5) hb6) hb7) hb8) (by have := HRB.out; omega))
  replace HR := Aside0.mk (hk9.blk (blk_below (blk_below (blk_below (blk_below (blk_drew HR.out) hb5) hb6) hb7) hb8) (by have := HRB.out; omega))
  replace HT := Aside0.mk (hk9.blk (blk_below (blk_below (blk_below (blk_below (blk_drew HT.out) hb5) hb6) hb7) hb8) (by have := HTB.out; omega))
  replace HW := Aside0.mk (hk9.blk (blk_below (blk_below (blk_below (blk_below (blk_drew HW.out) hb5) hb6) hb7) hb8) (by have := HZW.out; omega))
  replace HZ := Aside0.mk hg9
  clear HB4 hb5 hb6 hb7 hb8 hk9 hg9 hc8 ho8 r0 r1 r2 r3 r4 r5
  rw [spl10 _ _ HLS.out HLR.out] at HZ
  have r0 := blk_cell HR.out 0
  have r1 := blk_cell HR.out 1
  have r2 := blk_cell HR.out 2
  have r3 := blk_cell HR.out 3
  have r4 := blk_cell HR.out 4
  have r5 := blk_cell HR.out 5
  have s0 := blk_cell HW.out 0
  have s1 := blk_cell HW.out 1
  have s2 := blk_cell HW.out 2
  have s3 := blk_cell HW.out 3
  have s4 := blk_cell HW.out 4
  have s5 := blk_cell HW.out 5
  have g0 := blk_frozen HW.out 0
  have g1 := blk_frozen HW.out 1
  have g2 := blk_frozen HW.out 2
  have g3 := blk_frozen HW.out 3
  have g4 := blk_frozen HW.out 4
  have g5 := blk_frozen HW.out 5
  go_upto_region 11 with fail
  have hx := set6 HW.out (.int .u64 u) (.int .u64 tail2) (.int .u64 count2) (.int .u64 first2) (.int .u64 last2) (.int .u64 state2)
  replace HB := Aside0.mk (show Below w.heap.size w ((((((w9.setCell ⟨g, 0, none⟩ (.int .u64 u)).setCell ⟨g, 1, none⟩ (.int .u64 tail2)).setCell ⟨g, 2, none⟩ (.int .u64 count2)).setCell ⟨g, 3, none⟩ (.int .u64 first2)).setCell ⟨g, 4, none⟩ (.int .u64 last2)).setCell ⟨g, 5, none⟩ (.int .u64 state2)) from below_set6 HB.out g HBW.out _ _ _ _ _ _)
  replace HZ := Aside0.mk (show ((((((w9.setCell ⟨g, 0, none⟩ (.int .u64 u)).setCell ⟨g, 1, none⟩ (.int .u64 tail2)).setCell ⟨g, 2, none⟩ (.int .u64 count2)).setCell ⟨g, 3, none⟩ (.int .u64 first2)).setCell ⟨g, 4, none⟩ (.int .u64 last2)).setCell ⟨g, 5, none⟩ (.int .u64 state2)).heap[b]? = some _ from (blk_far (blk_far (blk_far (blk_far (blk_far (blk_far HZ.out (p := ⟨g, 0, none⟩) (by show b ≠ g; have := HZW.out; omega) _) (p := ⟨g, 1, none⟩) (by show b ≠ g; have := HZW.out; omega) _) (p := ⟨g, 2, none⟩) (by show b ≠ g; have := HZW.out; omega) _) (p := ⟨g, 3, none⟩) (by show b ≠ g; have := HZW.out; omega) _) (p := ⟨g, 4, none⟩) (by show b ≠ g; have := HZW.out; omega) _) (p := ⟨g, 5, none⟩) (by show b ≠ g; have := HZW.out; omega) _))
  replace HT := Aside0.mk (show CrcT ((((((w9.setCell ⟨g, 0, none⟩ (.int .u64 u)).setCell ⟨g, 1, none⟩ (.int .u64 tail2)).setCell ⟨g, 2, none⟩ (.int .u64 count2)).setCell ⟨g, 3, none⟩ (.int .u64 first2)).setCell ⟨g, 4, none⟩ (.int .u64 last2)).setCell ⟨g, 5, none⟩ (.int .u64 state2)) T from (blk_far (blk_far (blk_far (blk_far (blk_far (blk_far HT.out (p := ⟨g, 0, none⟩) (by show T ≠ g; have := HTB.out; have := HZW.out; omega) _) (p := ⟨g, 1, none⟩) (by show T ≠ g; have := HTB.out; have := HZW.out; omega) _) (p := ⟨g, 2, none⟩) (by show T ≠ g; have := HTB.out; have := HZW.out; omega) _) (p := ⟨g, 3, none⟩) (by show T ≠ g; have := HTB.out; have := HZW.out; omega) _) (p := ⟨g, 4, none⟩) (by show T ≠ g; have := HTB.out; have := HZW.out; omega) _) (p := ⟨g, 5, none⟩) (by show T ≠ g; have := HTB.out; have := HZW.out; omega) _))
  replace HW := Aside0.mk hx
  obtain ⟨wd, hwd⟩ : ∃ wd, ((((((w9.setCell ⟨g, 0, none⟩ (.int .u64 u)).setCell ⟨g, 1, none⟩ (.int .u64 tail2)).setCell ⟨g, 2, none⟩ (.int .u64 count2)).setCell ⟨g, 3, none⟩ (.int .u64 first2)).setCell ⟨g, 4, none⟩ (.int .u64 last2)).setCell ⟨g, 5, none⟩ (.int .u64 state2)) = wd := ⟨_, rfl⟩
  rw [hwd] at HW HT HB HZ ⊢
  clear hx hwd r0 r1 r2 r3 r4 r5 s0 s1 s2 s3 s4 s5 g0 g1 g2 g3 g4 g5
  obtain ⟨LL, hLL⟩ : ∃ LL, List.replicate 64 0 ++ (encZ [] [u, tail2, count2, first2, last2, state2] ++ (encZ [] [turn, tail, count, first, last, state] ++ List.replicate 64 0)) = LL := ⟨_, rfl⟩
  have hLn : LL.length = 256 := by rw [← hLL]; simp only [List.length_append, List.length_replicate, HLS.out, HLR.out]
  have hLb : isB LL := by rw [← hLL]; exact (zeros_isB 64).app ((encZ_isB isB_nil _).app ((encZ_isB isB_nil _).app (zeros_isB 64)))
  rw [hLL] at HZ HCH
  have hrd := Own.rd (own_blk (base := 0) HZ.out (Nat.zero_le _) (by omega))
  rw [hLn] at hrd
  have CC := Aside0.mk (slot_Choose_calls _ LL wd T HT.out hrd hLb (by omega))
  rw [HCH.out] at CC
  have HCC := CC
  rw [show chR (true, [u, tail2, count2, first2, last2, state2]) = .tuple #[.agg #[.int .u64 u, .int .u64 tail2, .int .u64 count2, .int .u64 first2, .int .u64 last2, .int .u64 state2], .bool true] from rfl] at HCC
  clear hLL hLn hLb hrd CC
  go_wp2_with fail
  refine (HCC.out).mono ?_
  rintro _ wf ⟨rfl, hb⟩
  have HX := Aside0.mk (blk_new wf (.cells #[.int .u64 u, .int .u64 tail2, .int .u64 count2, .int .u64 first2, .int .u64 last2, .int .u64 state2] 38))
  replace HW := Aside0.mk (blk_alloc (blk_below HW.out hb) (.cells #[.int .u64 u, .int .u64 tail2, .int .u64 count2, .int .u64 first2, .int .u64 last2, .int .u64 state2] 38))
  replace HB := Aside0.mk (below_alloc (below_step HB.out hb) (.cells #[.int .u64 u, .int .u64 tail2, .int .u64 count2, .int .u64 first2, .int .u64 last2, .int .u64 state2] 38))
  clear hb
  go_upto_region 12 with fail
  obtain ⟨d, hd⟩ : ∃ d, wf.heap.size = d := ⟨_, rfl⟩
  rw [hd] at HX
  first | rw [hd] | skip
  obtain ⟨we, hwe⟩ : ∃ we, wf.alloc (.cells #[.int .u64 u, .int .u64 tail2, .int .u64 count2, .int .u64 first2, .int .u64 last2, .int .u64 state2] 38) = we := ⟨_, rfl⟩
  rw [hwe] at HW HB HX ⊢
  clear hd hwe HCC
  have r0 := blk_cell HX.out 0
  have r1 := blk_cell HX.out 1
  have r2 := blk_cell HX.out 2
  have r3 := blk_cell HX.out 3
  have r4 := blk_cell HX.out 4
  have r5 := blk_cell HX.out 5
  have s0 := blk_cell HW.out 0
  have s1 := blk_cell HW.out 1
  have s2 := blk_cell HW.out 2
  have s3 := blk_cell HW.out 3
  have s4 := blk_cell HW.out 4
  have s5 := blk_cell HW.out 5
  refine start_ (n := 11) (S := fun w' => w'.cell? ⟨d, 0, none⟩ = some (.int .u64 u) ∧ w'.cell? ⟨d, 1, none⟩ = some (.int .u64 tail2) ∧ w'.cell? ⟨d, 2, none⟩ = some (.int .u64 count2) ∧ w'.cell? ⟨d, 3, none⟩ = some (.int .u64 first2) ∧ w'.cell? ⟨d, 4, none⟩ = some (.int .u64 last2) ∧ w'.cell? ⟨d, 5, none⟩ = some (.int .u64 state2) ∧ w'.cell? ⟨g, 0, none⟩ = some (.int .u64 u) ∧ w'.cell? ⟨g, 1, none⟩ = some (.int .u64 tail2) ∧ w'.cell? ⟨g, 2, none⟩ = some (.int .u64 count2) ∧ w'.cell? ⟨g, 3, none⟩ = some (.int .u64 first2) ∧ w'.cell? ⟨g, 4, none⟩ = some (.int .u64 last2) ∧ w'.cell? ⟨g, 5, none⟩ = some (.int .u64 state2)) (ds := []) #[false, false, false, false, false, false, false, false, false, false, false] (by kernel_rfl) rfl rfl ⟨r0, r1, r2, r3, r4, r5, s0, s1, s2, s3, s4, s5⟩ (fun hHeld => ?_)
  refine pure_ (i := 0) (N := some 61) (v := ?_) (a' := ?_) #[true, false, false, false, false, false, false, false, false, false, false] rfl rfl (by kernel_rfl) (fun _ _ _ h => h) (Or.inl ⟨by rfl, ?_⟩) ?_ ?_
  rotate_left
  · intro w'
    go_simp
    with_reducible rfl
  rotate_left
  · simp only [Act.put, List.setIfInBounds_toArray, List.set_cons_zero, List.set_cons_succ, i64_w, i32_w]
    rfl
  refine pure_ (i := 1) (N := some 62) (v := ?_) (a' := ?_) #[true, true, false, false, false, false, false, false, false, false, false] rfl rfl (by kernel_rfl) (fun _ _ _ h => h) (Or.inl ⟨by rfl, ?_⟩) ?_ ?_
  rotate_left
  · intro w'
    go_simp
    with_reducible rfl
  rotate_left
  · simp only [Act.put, List.setIfInBounds_toArray, List.set_cons_zero, List.set_cons_succ, i64_w, i32_w]
    rfl
  refine take_ (i := 2) (N := some 63) (v := ?_) (a' := ?_) #[true, true, true, false, false, false, false, false, false, false, false] rfl rfl (by kernel_rfl) (fun _ _ _ h => h) (Or.inl ⟨by rfl, ?_⟩) hHeld ?_ ?_
  rotate_left
  · rintro w' ⟨s0, s1, s2, s3, s4, s5, s6, s7, s8, s9, s10, s11⟩
    go_simp
    with_reducible rfl
  rotate_left
  · simp only [Act.put, List.setIfInBounds_toArray, List.set_cons_zero, List.set_cons_succ, i64_w, i32_w]
    rfl
  refine take_ (i := 4) (N := some 65) (v := ?_) (a' := ?_) #[true, true, true, false, true, false, false, false, false, false, false] rfl rfl (by kernel_rfl) (fun _ _ _ h => h) (Or.inl ⟨by rfl, ?_⟩) hHeld ?_ ?_
  rotate_left
  · rintro w' ⟨s0, s1, s2, s3, s4, s5, s6, s7, s8, s9, s10, s11⟩
    go_simp
    with_reducible rfl
  rotate_left
  · simp only [Act.put, List.setIfInBounds_toArray, List.set_cons_zero, List.set_cons_succ, i64_w, i32_w]
    rfl
  refine one_ (i := 3) (N := some 64) #[true, true, true, true, true, false, false, false, false, false, false] rfl rfl (by kernel_rfl) (by decide) (fun K hK => ?_)
  refine goes_ Try.func27 (by kernel_rfl) rfl #[.agg #[.int .u64 u, .int .u64 tail2, .int .u64 count2, .int .u64 first2, .int .u64 last2, .int .u64 state2]] (by rfl) rfl rfl (by (try simp only [List.map_toArray, List.map_cons, List.map_nil]); first | done | rfl) ?_
  with_reducible refine (slot_of_calls u tail2 count2 first2 last2 state2 _).mono ?_
  rintro e w15 ⟨rfl, hb15⟩
  refine ⟨_, rfl, ?_⟩
  refine hK.out _ _ ⟨(pw_cell_below hb15 hHeld.1), (pw_cell_below hb15 hHeld.2.1), (pw_cell_below hb15 hHeld.2.2.1), (pw_cell_below hb15 hHeld.2.2.2.1), (pw_cell_below hb15 hHeld.2.2.2.2.1), (pw_cell_below hb15 hHeld.2.2.2.2.2.1), (pw_cell_below hb15 hHeld.2.2.2.2.2.2.1), (pw_cell_below hb15 hHeld.2.2.2.2.2.2.2.1), (pw_cell_below hb15 hHeld.2.2.2.2.2.2.2.2.1), (pw_cell_below hb15 hHeld.2.2.2.2.2.2.2.2.2.1), (pw_cell_below hb15 hHeld.2.2.2.2.2.2.2.2.2.2.1), (pw_cell_below hb15 hHeld.2.2.2.2.2.2.2.2.2.2.2)⟩ (fun hHeld => ?_)
  clear hK K
  refine norm_ (a' := ?_) ?_ ?_
  rotate_left
  · show Act.put _ (some 64) _ = _
    simp only [Act.put, List.setIfInBounds_toArray, List.set_cons_zero, List.set_cons_succ, i64_w, i32_w]
    rfl
  refine pure_ (i := 5) (N := some 66) (v := ?_) (a' := ?_) #[true, true, true, true, true, true, false, false, false, false, false] rfl rfl (by kernel_rfl) (fun _ _ _ h => h) (Or.inl ⟨by rfl, ?_⟩) ?_ ?_
  rotate_left
  · intro w'
    go_simp
    with_reducible rfl
  rotate_left
  · simp only [Act.put, List.setIfInBounds_toArray, List.set_cons_zero, List.set_cons_succ, i64_w, i32_w]
    rfl
  refine pure_ (i := 6) (N := some 67) (v := ?_) (a' := ?_) #[true, true, true, true, true, true, true, false, false, false, false] rfl rfl (by kernel_rfl) (fun _ _ _ h => h) (Or.inl ⟨by rfl, ?_⟩) ?_ ?_
  rotate_left
  · intro w'
    go_simp
    with_reducible rfl
  rotate_left
  · simp only [Act.put, List.setIfInBounds_toArray, List.set_cons_zero, List.set_cons_succ, i64_w, i32_w]
    rfl
  refine pure_ (i := 7) (N := some 68) (v := ?_) (a' := ?_) #[true, true, true, true, true, true, true, true, false, false, false] rfl rfl (by kernel_rfl) (fun _ _ _ h => h) (Or.inl ⟨by rfl, ?_⟩) ?_ ?_
  rotate_left
  · intro w'
    go_simp
    with_reducible rfl
  rotate_left
  · simp only [Act.put, List.setIfInBounds_toArray, List.set_cons_zero, List.set_cons_succ, i64_w, i32_w]
    rfl
  refine one_ (i := 8) (N := some 69) #[true, true, true, true, true, true, true, true, true, false, false] rfl rfl (by kernel_rfl) (by decide) (fun K hK => ?_)
  refine goes_ Try.func21 (by kernel_rfl) rfl #[] (by rfl) rfl rfl (by (try simp only [List.map_toArray, List.map_cons, List.map_nil]); first | done | rfl) ?_
  with_reducible refine (slot_awake_calls _).mono ?_
  rintro e w16 ⟨rfl, hb16⟩
  refine ⟨_, rfl, ?_⟩
  refine hK.out _ _ ⟨(pw_cell_below hb16 hHeld.1), (pw_cell_below hb16 hHeld.2.1), (pw_cell_below hb16 hHeld.2.2.1), (pw_cell_below hb16 hHeld.2.2.2.1), (pw_cell_below hb16 hHeld.2.2.2.2.1), (pw_cell_below hb16 hHeld.2.2.2.2.2.1), (pw_cell_below hb16 hHeld.2.2.2.2.2.2.1), (pw_cell_below hb16 hHeld.2.2.2.2.2.2.2.1), (pw_cell_below hb16 hHeld.2.2.2.2.2.2.2.2.1), (pw_cell_below hb16 hHeld.2.2.2.2.2.2.2.2.2.1), (pw_cell_below hb16 hHeld.2.2.2.2.2.2.2.2.2.2.1), (pw_cell_below hb16 hHeld.2.2.2.2.2.2.2.2.2.2.2)⟩ (fun hHeld => ?_)
  clear hK K
  refine norm_ (a' := ?_) ?_ ?_
  rotate_left
  · show Act.put _ (some 69) _ = _
    simp only [Act.put, List.setIfInBounds_toArray, List.set_cons_zero, List.set_cons_succ, i64_w, i32_w]
    rfl
  refine pure_ (i := 9) (N := some 70) (v := ?_) (a' := ?_) #[true, true, true, true, true, true, true, true, true, true, false] rfl rfl (by kernel_rfl) (fun _ _ _ h => h) (Or.inl ⟨by rfl, ?_⟩) ?_ ?_
  rotate_left
  · intro w'
    go_simp
    with_reducible rfl
  rotate_left
  · simp only [Act.put, List.setIfInBounds_toArray, List.set_cons_zero, List.set_cons_succ, i64_w, i32_w]
    rfl
  refine pure_ (i := 10) (N := some 6) (v := ?_) (a' := ?_) #[true, true, true, true, true, true, true, true, true, true, true] rfl rfl (by kernel_rfl) (fun _ _ _ h => h) (Or.inl ⟨by rfl, ?_⟩) ?_ ?_
  rotate_left
  · intro w'
    go_simp
    with_reducible rfl
  rotate_left
  · simp only [Act.put, List.setIfInBounds_toArray, List.set_cons_zero, List.set_cons_succ, i64_w, i32_w]
    rfl
  refine done_ (by kernel_rfl) ?_
  replace HB := Aside0.mk (below_step (below_step (below_drew HB.out) hb15) hb16)
  clear hb15 hb16
  go_wp2_with fail
  go_ret
  exact ⟨rfl, HB.out⟩


set_option maxHeartbeats 8000000 in
set_option maxRecDepth 100000 in
theorem SlotTurns_n1 (turn tail count first last state turn2 tail2 count2 first2 last2 state2 : Int) (k : Bool) (w : World) (hs : sR turn state tail = false) (tail0 : 0 ≤ tail) (tail1 : tail ≤ 18446744073709551615) (count0 : 0 ≤ count) (count1 : count ≤ 18446744073709551615) (first0 : 0 ≤ first) (first1 : first ≤ 18446744073709551615) (last0 : 0 ≤ last) (last1 : last ≤ 18446744073709551615) (state0 : 0 ≤ state) (state1 : state ≤ 18446744073709551615) (turn0 : 0 ≤ turn) (turn1 : turn ≤ 18446744073709551615) (turn20 : 0 ≤ turn2) (turn21 : turn2 ≤ 18446744073709551615) (tail20 : 0 ≤ tail2) (tail21 : tail2 ≤ 18446744073709551615) (count20 : 0 ≤ count2) (count21 : count2 ≤ 18446744073709551615) (first20 : 0 ≤ first2) (first21 : first2 ≤ 18446744073709551615) (last20 : 0 ≤ last2) (last21 : last2 ≤ 18446744073709551615) (state20 : 0 ≤ state2) (state21 : state2 ≤ 18446744073709551615) :
    Calls Try.prog 4 #[.agg #[.int .u64 turn, .int .u64 tail, .int .u64 count, .int .u64 first, .int .u64 last, .int .u64 state], .agg #[.int .u64 turn2, .int .u64 tail2, .int .u64 count2, .int .u64 first2, .int .u64 last2, .int .u64 state2], .bool k] w fun e w' => e = .returned (.bool true) ∧ Below w.heap.size w w' := by
  have C1 := Aside0.mk (fun w => ref_sRight_calls turn tail count first last state w (by omega) (by omega))
  rw [hs] at C1
  clear hs
  go_enter Try.func4, Try.ntmps4
  go_wp2_with fail
  refine (C1.out _).mono ?_
  rintro _ w1 ⟨rfl, hb⟩
  have HB := Aside0.mk (below_step (below_alloc (below_alloc (Below.refl w.heap.size w) (.cells #[.int .u64 turn, .int .u64 tail, .int .u64 count, .int .u64 first, .int .u64 last, .int .u64 state] 34)) (.cells #[.int .u64 turn2, .int .u64 tail2, .int .u64 count2, .int .u64 first2, .int .u64 last2, .int .u64 state2] 34)) hb)
  clear hb
  go_wp2_with fail
  refine (slot_awake_calls _).mono ?_
  rintro _ w9 ⟨rfl, hb⟩
  replace HB := Aside0.mk (below_step HB.out hb)
  clear hb
  go_wp2_with fail
  go_ret
  exact ⟨rfl, HB.out⟩
set_option maxHeartbeats 8000000 in
set_option maxRecDepth 100000 in
theorem SlotTurns_n2 (turn tail count first last state turn2 tail2 count2 first2 last2 state2 : Int) (k : Bool) (w : World) (hs : sR turn state tail = true) (hq : sR turn2 state2 tail2 = false) (tail0 : 0 ≤ tail) (tail1 : tail ≤ 18446744073709551615) (count0 : 0 ≤ count) (count1 : count ≤ 18446744073709551615) (first0 : 0 ≤ first) (first1 : first ≤ 18446744073709551615) (last0 : 0 ≤ last) (last1 : last ≤ 18446744073709551615) (state0 : 0 ≤ state) (state1 : state ≤ 18446744073709551615) (turn0 : 0 ≤ turn) (turn1 : turn ≤ 18446744073709551615) (turn20 : 0 ≤ turn2) (turn21 : turn2 ≤ 18446744073709551615) (tail20 : 0 ≤ tail2) (tail21 : tail2 ≤ 18446744073709551615) (count20 : 0 ≤ count2) (count21 : count2 ≤ 18446744073709551615) (first20 : 0 ≤ first2) (first21 : first2 ≤ 18446744073709551615) (last20 : 0 ≤ last2) (last21 : last2 ≤ 18446744073709551615) (state20 : 0 ≤ state2) (state21 : state2 ≤ 18446744073709551615) :
    Calls Try.prog 4 #[.agg #[.int .u64 turn, .int .u64 tail, .int .u64 count, .int .u64 first, .int .u64 last, .int .u64 state], .agg #[.int .u64 turn2, .int .u64 tail2, .int .u64 count2, .int .u64 first2, .int .u64 last2, .int .u64 state2], .bool k] w fun e w' => e = .returned (.bool true) ∧ Below w.heap.size w w' := by
  have C1 := Aside0.mk (fun w => ref_sRight_calls turn tail count first last state w (by omega) (by omega))
  have C2 := Aside0.mk (fun w => ref_sRight_calls turn2 tail2 count2 first2 last2 state2 w (by omega) (by omega))
  rw [hs] at C1
  rw [hq] at C2
  clear hs hq
  go_enter Try.func4, Try.ntmps4
  go_wp2_with fail
  refine (C1.out _).mono ?_
  rintro _ w1 ⟨rfl, hb⟩
  have HB := Aside0.mk (below_step (below_alloc (below_alloc (Below.refl w.heap.size w) (.cells #[.int .u64 turn, .int .u64 tail, .int .u64 count, .int .u64 first, .int .u64 last, .int .u64 state] 34)) (.cells #[.int .u64 turn2, .int .u64 tail2, .int .u64 count2, .int .u64 first2, .int .u64 last2, .int .u64 state2] 34)) hb)
  have HS := Aside0.mk (blk_below (blk_alloc (blk_new w (.cells #[.int .u64 turn, .int .u64 tail, .int .u64 count, .int .u64 first, .int .u64 last, .int .u64 state] 34)) (.cells #[.int .u64 turn2, .int .u64 tail2, .int .u64 count2, .int .u64 first2, .int .u64 last2, .int .u64 state2] 34)) hb)
  have HR := Aside0.mk (blk_below (show ((w.alloc (.cells #[.int .u64 turn, .int .u64 tail, .int .u64 count, .int .u64 first, .int .u64 last, .int .u64 state] 34)).alloc (.cells #[.int .u64 turn2, .int .u64 tail2, .int .u64 count2, .int .u64 first2, .int .u64 last2, .int .u64 state2] 34)).heap[w.heap.size + 1]? = some (.cells #[.int .u64 turn2, .int .u64 tail2, .int .u64 count2, .int .u64 first2, .int .u64 last2, .int .u64 state2] 34 (0, 0)) by have := blk_new (w.alloc (.cells #[.int .u64 turn, .int .u64 tail, .int .u64 count, .int .u64 first, .int .u64 last, .int .u64 state] 34)) (.cells #[.int .u64 turn2, .int .u64 tail2, .int .u64 count2, .int .u64 first2, .int .u64 last2, .int .u64 state2] 34); simpa using this) hb)
  clear hb
  have r0 := blk_cell HR.out 0
  have r1 := blk_cell HR.out 1
  have r2 := blk_cell HR.out 2
  have r3 := blk_cell HR.out 3
  have r4 := blk_cell HR.out 4
  have r5 := blk_cell HR.out 5
  have f0 := blk_frozen HR.out 0
  have f1 := blk_frozen HR.out 1
  have f2 := blk_frozen HR.out 2
  have f3 := blk_frozen HR.out 3
  have f4 := blk_frozen HR.out 4
  have f5 := blk_frozen HR.out 5
  go_wp2_with fail
  refine (C2.out _).mono ?_
  rintro _ w2 ⟨rfl, hb⟩
  replace HB := Aside0.mk (below_step HB.out hb)
  clear hb r0 r1 r2 r3 r4 r5 f0 f1 f2 f3 f4 f5
  go_wp2_with fail
  refine (slot_awake_calls _).mono ?_
  rintro _ w9 ⟨rfl, hb⟩
  replace HB := Aside0.mk (below_step HB.out hb)
  clear hb
  go_wp2_with fail
  go_ret
  exact ⟨rfl, HB.out⟩
set_option maxHeartbeats 8000000 in
set_option maxRecDepth 100000 in
theorem SlotTurns_n3 (turn tail count first last state turn2 tail2 count2 first2 last2 state2 : Int) (k : Bool) (w : World) (hs : sR turn state tail = true) (hq : sR turn2 state2 tail2 = true) (hm : turn = 18446744073709551615) (tail0 : 0 ≤ tail) (tail1 : tail ≤ 18446744073709551615) (count0 : 0 ≤ count) (count1 : count ≤ 18446744073709551615) (first0 : 0 ≤ first) (first1 : first ≤ 18446744073709551615) (last0 : 0 ≤ last) (last1 : last ≤ 18446744073709551615) (state0 : 0 ≤ state) (state1 : state ≤ 18446744073709551615) (turn0 : 0 ≤ turn) (turn1 : turn ≤ 18446744073709551615) (turn20 : 0 ≤ turn2) (turn21 : turn2 ≤ 18446744073709551615) (tail20 : 0 ≤ tail2) (tail21 : tail2 ≤ 18446744073709551615) (count20 : 0 ≤ count2) (count21 : count2 ≤ 18446744073709551615) (first20 : 0 ≤ first2) (first21 : first2 ≤ 18446744073709551615) (last20 : 0 ≤ last2) (last21 : last2 ≤ 18446744073709551615) (state20 : 0 ≤ state2) (state21 : state2 ≤ 18446744073709551615) :
    Calls Try.prog 4 #[.agg #[.int .u64 turn, .int .u64 tail, .int .u64 count, .int .u64 first, .int .u64 last, .int .u64 state], .agg #[.int .u64 turn2, .int .u64 tail2, .int .u64 count2, .int .u64 first2, .int .u64 last2, .int .u64 state2], .bool k] w fun e w' => e = .returned (.bool true) ∧ Below w.heap.size w w' := by
  have C1 := Aside0.mk (fun w => ref_sRight_calls turn tail count first last state w (by omega) (by omega))
  have C2 := Aside0.mk (fun w => ref_sRight_calls turn2 tail2 count2 first2 last2 state2 w (by omega) (by omega))
  rw [hs] at C1
  rw [hq] at C2
  have hne : (turn == 18446744073709551615) = true := by rw [beq_iff_eq]; exact hm
  clear hs hq hm
  go_enter Try.func4, Try.ntmps4
  go_wp2_with fail
  refine (C1.out _).mono ?_
  rintro _ w1 ⟨rfl, hb⟩
  have HB := Aside0.mk (below_step (below_alloc (below_alloc (Below.refl w.heap.size w) (.cells #[.int .u64 turn, .int .u64 tail, .int .u64 count, .int .u64 first, .int .u64 last, .int .u64 state] 34)) (.cells #[.int .u64 turn2, .int .u64 tail2, .int .u64 count2, .int .u64 first2, .int .u64 last2, .int .u64 state2] 34)) hb)
  have HS := Aside0.mk (blk_below (blk_alloc (blk_new w (.cells #[.int .u64 turn, .int .u64 tail, .int .u64 count, .int .u64 first, .int .u64 last, .int .u64 state] 34)) (.cells #[.int .u64 turn2, .int .u64 tail2, .int .u64 count2, .int .u64 first2, .int .u64 last2, .int .u64 state2] 34)) hb)
  have HR := Aside0.mk (blk_below (show ((w.alloc (.cells #[.int .u64 turn, .int .u64 tail, .int .u64 count, .int .u64 first, .int .u64 last, .int .u64 state] 34)).alloc (.cells #[.int .u64 turn2, .int .u64 tail2, .int .u64 count2, .int .u64 first2, .int .u64 last2, .int .u64 state2] 34)).heap[w.heap.size + 1]? = some (.cells #[.int .u64 turn2, .int .u64 tail2, .int .u64 count2, .int .u64 first2, .int .u64 last2, .int .u64 state2] 34 (0, 0)) by have := blk_new (w.alloc (.cells #[.int .u64 turn, .int .u64 tail, .int .u64 count, .int .u64 first, .int .u64 last, .int .u64 state] 34)) (.cells #[.int .u64 turn2, .int .u64 tail2, .int .u64 count2, .int .u64 first2, .int .u64 last2, .int .u64 state2] 34); simpa using this) hb)
  clear hb
  have r0 := blk_cell HR.out 0
  have r1 := blk_cell HR.out 1
  have r2 := blk_cell HR.out 2
  have r3 := blk_cell HR.out 3
  have r4 := blk_cell HR.out 4
  have r5 := blk_cell HR.out 5
  have f0 := blk_frozen HR.out 0
  have f1 := blk_frozen HR.out 1
  have f2 := blk_frozen HR.out 2
  have f3 := blk_frozen HR.out 3
  have f4 := blk_frozen HR.out 4
  have f5 := blk_frozen HR.out 5
  go_wp2_with fail
  refine (C2.out _).mono ?_
  rintro _ w2 ⟨rfl, hb⟩
  replace HB := Aside0.mk (below_step HB.out hb)
  replace HS := Aside0.mk (blk_below HS.out hb)
  clear hb r0 r1 r2 r3 r4 r5 f0 f1 f2 f3 f4 f5
  have r0 := blk_cell HS.out 0
  have r1 := blk_cell HS.out 1
  have r2 := blk_cell HS.out 2
  have r3 := blk_cell HS.out 3
  have r4 := blk_cell HS.out 4
  have r5 := blk_cell HS.out 5
  have f0 := blk_frozen HS.out 0
  have f1 := blk_frozen HS.out 1
  have f2 := blk_frozen HS.out 2
  have f3 := blk_frozen HS.out 3
  have f4 := blk_frozen HS.out 4
  have f5 := blk_frozen HS.out 5
  go_wp2_with fail
  refine (slot_awake_calls _).mono ?_
  rintro _ w9 ⟨rfl, hb⟩
  replace HB := Aside0.mk (below_step HB.out hb)
  clear hb
  go_wp2_with fail
  go_ret
  exact ⟨rfl, HB.out⟩

theorem SlotTurns_walk (turn tail count first last state turn2 tail2 count2 first2 last2 state2 : Int) (k : Bool) (w : World) (b0 : (Lit.int .u64 turn).wf = true) (b1 : (Lit.int .u64 tail).wf = true) (b2 : (Lit.int .u64 count).wf = true) (b3 : (Lit.int .u64 first).wf = true) (b4 : (Lit.int .u64 last).wf = true) (b5 : (Lit.int .u64 state).wf = true) (b6 : (Lit.int .u64 turn2).wf = true) (b7 : (Lit.int .u64 tail2).wf = true) (b8 : (Lit.int .u64 count2).wf = true) (b9 : (Lit.int .u64 first2).wf = true) (b10 : (Lit.int .u64 last2).wf = true) (b11 : (Lit.int .u64 state2).wf = true) :
    Calls Try.prog 4 #[.agg #[.int .u64 turn, .int .u64 tail, .int .u64 count, .int .u64 first, .int .u64 last, .int .u64 state], .agg #[.int .u64 turn2, .int .u64 tail2, .int .u64 count2, .int .u64 first2, .int .u64 last2, .int .u64 state2], .bool k] w fun e w' => e = .returned (.bool true) ∧ Below w.heap.size w w' := by
  obtain ⟨turn0, turn1⟩ := bounds_u64 b0
  obtain ⟨tail0, tail1⟩ := bounds_u64 b1
  obtain ⟨count0, count1⟩ := bounds_u64 b2
  obtain ⟨first0, first1⟩ := bounds_u64 b3
  obtain ⟨last0, last1⟩ := bounds_u64 b4
  obtain ⟨state0, state1⟩ := bounds_u64 b5
  obtain ⟨turn20, turn21⟩ := bounds_u64 b6
  obtain ⟨tail20, tail21⟩ := bounds_u64 b7
  obtain ⟨count20, count21⟩ := bounds_u64 b8
  obtain ⟨first20, first21⟩ := bounds_u64 b9
  obtain ⟨last20, last21⟩ := bounds_u64 b10
  obtain ⟨state20, state21⟩ := bounds_u64 b11

  cases hs : sR turn state tail with
  | false => exact SlotTurns_n1 turn tail count first last state turn2 tail2 count2 first2 last2 state2 k w hs tail0 tail1 count0 count1 first0 first1 last0 last1 state0 state1 turn0 turn1 turn20 turn21 tail20 tail21 count20 count21 first20 first21 last20 last21 state20 state21
  | true =>
    cases hq : sR turn2 state2 tail2 with
    | false => exact SlotTurns_n2 turn tail count first last state turn2 tail2 count2 first2 last2 state2 k w hs hq tail0 tail1 count0 count1 first0 first1 last0 last1 state0 state1 turn0 turn1 turn20 turn21 tail20 tail21 count20 count21 first20 first21 last20 last21 state20 state21
    | true =>
      by_cases hm : turn = 18446744073709551615
      · exact SlotTurns_n3 turn tail count first last state turn2 tail2 count2 first2 last2 state2 k w hs hq hm tail0 tail1 count0 count1 first0 first1 last0 last1 state0 state1 turn0 turn1 turn20 turn21 tail20 tail21 count20 count21 first20 first21 last20 last21 state20 state21
      · have ht : turn ≤ 18446744073709551614 := by omega
        rcases (show turn % 2 = 0 ∨ turn % 2 = 1 by omega) with hp | hp
        · cases k
          · exact SlotTurns_00 turn tail count first last state turn2 tail2 count2 first2 last2 state2 w hs hq hp tail0 tail1 count0 count1 first0 first1 last0 last1 state0 state1 turn0 ht turn20 turn21 tail20 tail21 count20 count21 first20 first21 last20 last21 state20 state21
          · exact SlotTurns_01 turn tail count first last state turn2 tail2 count2 first2 last2 state2 w hs hq hp tail0 tail1 count0 count1 first0 first1 last0 last1 state0 state1 turn0 ht turn20 turn21 tail20 tail21 count20 count21 first20 first21 last20 last21 state20 state21
        · cases k
          · exact SlotTurns_10 turn tail count first last state turn2 tail2 count2 first2 last2 state2 w hs hq hp tail0 tail1 count0 count1 first0 first1 last0 last1 state0 state1 turn0 ht turn20 turn21 tail20 tail21 count20 count21 first20 first21 last20 last21 state20 state21
          · exact SlotTurns_11 turn tail count first last state turn2 tail2 count2 first2 last2 state2 w hs hq hp tail0 tail1 count0 count1 first0 first1 last0 last1 state0 state1 turn0 ht turn20 turn21 tail20 tail21 count20 count21 first20 first21 last20 last21 state20 state21
end Go.Proofs.Ytigdchfjcfljjaa
