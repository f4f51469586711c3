/- SlotWrites: the walk. -/
import Derived.Test.YtigdchfjcfljjaaSlotC
import Derived.Test.YtigdchfjcfljjaaEncB
namespace Go.Proofs.Ytigdchfjcfljjaa
open Go.RowKit Go.Proofs.YtigdchfjcfljjaaW.PrintWords Go.Proofs.YtigdchfjcfljjaaW.PrintLast Go.Proofs.YtigdchfjcfljjaaW.PrintMore
attribute [local go_sem] max2_int min2_int max_two min_two max_three min_three max_four min_four   -- for this text's walks alone
set_option linter.unusedVariables false
set_option linter.unusedSimpArgs false


theorem sd_of {X : List Int} {turn tail count first last state : Int} (h64 : 64 ≤ X.length) (g0 : getN X 0 8 = turn) (g1 : getN X 8 8 = tail) (g2 : getN X 16 8 = count) (g3 : getN X 24 8 = first) (g4 : getN X 32 8 = last) (g5 : getN X 40 8 = state) (hr : sR turn state tail = true) (ht : encZ [] [turn, tail, count, first, last, state] = X.take 64) : sdV X = .tuple #[.agg #[.int .u64 turn, .int .u64 tail, .int .u64 count, .int .u64 first, .int .u64 last, .int .u64 state], .bool true] := by
  have hw : sdW X = [turn, tail, count, first, last, state] := by rw [sdW, g0, g1, g2, g3, g4, g5]
  have hok : sdOk X = true := by rw [sdOk, hw, g0, g1, g5, hr, decide_eq_true h64, decide_eq_true ht]; rfl
  rw [sdV, if_pos hok, sdA, g0, g1, g2, g3, g4, g5]
theorem sd_back (turn tail count first last state : Int) (r : List Int) (hr : sR turn state tail = true) (hw : isW [turn, tail, count, first, last, state]) : sdV (encZ [] [turn, tail, count, first, last, state] ++ r) = .tuple #[.agg #[.int .u64 turn, .int .u64 tail, .int .u64 count, .int .u64 first, .int .u64 last, .int .u64 state], .bool true] := by
  have hl : (encZ [] [turn, tail, count, first, last, state]).length = 64 := by rw [encZ, List.length_append, encC_len, List.length_replicate]; rfl
  have g := fun i hi a x => getN_enc [] [turn, tail, count, first, last, state] r hw i hi a x
  refine sd_of (by rw [List.length_append]; omega) (g 0 (by simp) 0 _ (by simp) rfl) (g 1 (by simp) 8 _ (by simp) rfl) (g 2 (by simp) 16 _ (by simp) rfl) (g 3 (by simp) 24 _ (by simp) rfl) (g 4 (by simp) 32 _ (by simp) rfl) (g 5 (by simp) 40 _ (by simp) rfl) hr ?_
  rw [← hl]
  exact List.take_left.symm
theorem chS_zeros : chS (List.replicate 300 0) 2 = (false, [0, 0, 0, 0, 0, 0]) := by decide +kernel
set_option maxHeartbeats 8000000 in
set_option maxRecDepth 100000 in
theorem slot_awake_calls (w : World) : Calls Try.prog 21 #[] w fun e w' => e = .returned (.bool true) ∧ Below w.heap.size w w' := by
  have hmk : ∀ w : World, (Instr.makeSlice 22 (.int .i64 300) (.int .i64 300)).run Try.prog w = .ok (.slice (some ⟨w.heap.size, 0, none⟩) 300 300) (w.alloc (.cells (nums .u8 (List.replicate 300 0)).toArray 5)) := fun _ => by kernel_rfl
  have hsr : Aside0 (sR 3 1 8 = true) := ⟨by decide⟩
  have HBK := Aside0.mk (sd_back 3 8 0 0 0 1 [] (by decide) (by intro x hx; simp at hx; omega))
  have HCH := Aside0.mk (show chR (chS (List.replicate 300 0) 2) = .tuple #[.agg #[.int .u64 0, .int .u64 0, .int .u64 0, .int .u64 0, .int .u64 0, .int .u64 0], .bool false] by rw [chS_zeros]; rfl)
  go_enter Try.func21, Try.ntmps21
  go_wp2_with fail
  refine (crc_Make_calls _).mono ?_
  rintro e w1 ⟨rfl, hT, hb⟩
  have HB1 := Aside0.mk hb
  have HT1 := Aside0.mk hT
  have hrd := Rd.lit w1 .u8 5 (List.replicate 300 0) (by simp)
  rw [List.length_replicate] at hrd
  have HRD := Aside0.mk hrd
  obtain ⟨zs, hzs⟩ : ∃ zs, (nums .u8 (List.replicate 300 0)).toArray = zs := ⟨_, rfl⟩
  rw [hzs] at HRD hmk
  clear hb hT hrd hzs
  go_wp2_with fail
  refine (slot_Choose_calls _ (List.replicate 300 0) _ w.heap.size (HT1.out.below (below_alloc (Below.refl _ _) _)) HRD.out (zeros_isB _) (by rw [List.length_replicate]; omega)).mono ?_
  rintro e w2 ⟨rfl, hb⟩
  have HB2 := Aside0.mk (below_alloc (below_step (below_alloc HB1.out (.cells zs 5)) hb) (.cells #[.int .u64 0, .int .u64 0, .int .u64 0, .int .u64 0, .int .u64 0, .int .u64 0] 38))
  have HT2 := Aside0.mk (((HT1.out.below (below_alloc (Below.refl _ _) (.cells zs 5))).below hb).below (below_alloc (Below.refl _ _) (.cells #[.int .u64 0, .int .u64 0, .int .u64 0, .int .u64 0, .int .u64 0, .int .u64 0] 38)))
  clear hb hmk
  rw [HCH.out]
  go_wp2_with fail
  refine (slot_Encode_yes 3 8 0 0 0 1 _ w.heap.size HT2.out hsr.out (by omega) (by omega) (by omega) (by omega) (by omega) (by omega) (by omega) (by omega) (by omega) (by omega) (by omega) (by omega)).mono ?_
  rintro e w3 ⟨v3, rfl, ho, hb⟩
  have HB3 := Aside0.mk (below_step HB2.out hb)
  have HT3 := Aside0.mk (HT2.out.below hb)
  have HR3 := Aside0.mk (Own.rd ho)
  clear ho hb
  go_wp2_with fail
  refine (slot_Decode_calls v3 (encZ [] [3, 8, 0, 0, 0, 1]) _ w.heap.size HT3.out HR3.out (encZ_isB isB_nil _) (by simp [encZ, encC_len])).mono ?_
  rintro e w4 ⟨rfl, hb⟩
  have HB4 := Aside0.mk (below_alloc (below_step HB3.out hb) (.cells #[.int .u64 3, .int .u64 8, .int .u64 0, .int .u64 0, .int .u64 0, .int .u64 1] 38))
  have hbk := HBK.out
  rw [List.append_nil] at hbk
  rw [hbk]
  clear hb hbk
  go_wp2_with fail
  refine (slot_Place_calls 3 8 0 0 0 1 _ (by omega) (by omega)).mono ?_
  rintro e w5 ⟨rfl, hb⟩
  have HB5 := Aside0.mk (below_step HB4.out hb)
  clear hb
  rw [show (64 * (1 + (3 : Int) % 2)) = 128 from rfl]
  go_wp2_with fail
  go_ret
  exact ⟨rfl, HB5.out⟩
end Go.Proofs.Ytigdchfjcfljjaa
