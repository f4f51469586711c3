/- CivilTexts: the walk. -/
import Derived.Test.YtekbidjfddanhaaCivRP
import Derived.Test.YtekbidjfddanhaaCiv4
import Derived.Test.YtekbidjfddanhaaArr
namespace Go.Proofs.Ytekbidjfddanhaa
open Go.RowKit Go.Proofs.YtekbidjfddanhaaW.PrintWords Go.Proofs.YtekbidjfddanhaaW.PrintLast Go.Proofs.YtekbidjfddanhaaW.PrintMore
attribute [local go_sem] max2_int min2_int max_two min_two max_three min_three max_four min_four   -- for this text's walks alone
set_option linter.unusedVariables false
set_option linter.unusedSimpArgs false


theorem par_text {y m d h i s u : Int} (hr : rightB y m d h i s u = true) {l : List Int} (hl : lenOk l.length = true) (hp : padP l = textL y m d h i s u) : parV l = .tuple #[.agg #[.int .i64 y, .int .i64 m, .int .i64 d, .int .i64 h, .int .i64 i, .int .i64 s, .int .i64 u], .bool true] := by
  obtain ⟨h1, e0, e1, e2, e3, e4, e5, e6⟩ := text_read hr
  exact parV_yes (by rw [goodP, hl, hp, h1, timB, e0, e1, e2, e3, e4, e5, e6, hr]; rfl) hp e0 e1 e2 e3 e4 e5 e6
theorem right_cut {y m d h i s u : Int} (hr : rightB y m d h i s u = true) : rightB y m d 0 0 0 0 = true ∧ rightB y m d h i 0 0 = true ∧ rightB y m d h i s 0 = true := by
  obtain ⟨a, b, c, e, f, g, k⟩ := rightB_yes hr
  refine ⟨?_, ?_, ?_⟩ <;> (rw [rightB, decide_eq_true_eq]; refine ⟨a, b, c, ?_, ?_, ?_, ?_⟩ <;> first | assumption | omega)
theorem take_dI {n k : Nat} (x : Int) (h : k ≤ n) : List.take n (dI k x) = dI k x := List.take_of_length_le (by rw [dI_len]; exact h)
theorem dI2_0 : dI 2 0 = [48, 48] := by decide
theorem dI6_0 : dI 6 0 = [48, 48, 48, 48, 48, 48] := by decide

theorem text_cut0 (y m d h i s u : Int) : padP ((textL y m d h i s u).take 10) = textL y m d 0 0 0 0 := by
  have hl : (dI 4 y ++ [45] ++ dI 2 m ++ [45] ++ dI 2 d).length = 10 := by simp [dI_len]
  have e : (textL y m d h i s u).take 10 = dI 4 y ++ [45] ++ dI 2 m ++ [45] ++ dI 2 d := by
    simp only [textL, List.append_assoc]
    simp [List.take_append, dI_len, take_dI]
  rw [e, padP, hl, show formL.drop 10 = [32, 48, 48, 58, 48, 48, 58, 48, 48, 46, 48, 48, 48, 48, 48, 48] from rfl]
  simp [textL, dI2_0, dI6_0]
theorem text_cut1 (y m d h i s u : Int) : padP ((textL y m d h i s u).take 16) = textL y m d h i 0 0 := by
  have hl : (dI 4 y ++ [45] ++ dI 2 m ++ [45] ++ dI 2 d ++ [32] ++ dI 2 h ++ [58] ++ dI 2 i).length = 16 := by simp [dI_len]
  have e : (textL y m d h i s u).take 16 = dI 4 y ++ [45] ++ dI 2 m ++ [45] ++ dI 2 d ++ [32] ++ dI 2 h ++ [58] ++ dI 2 i := by
    simp only [textL, List.append_assoc]
    simp [List.take_append, dI_len, take_dI]
  rw [e, padP, hl, show formL.drop 16 = [58, 48, 48, 46, 48, 48, 48, 48, 48, 48] from rfl]
  simp [textL, dI2_0, dI6_0]
theorem text_cut2 (y m d h i s u : Int) : padP ((textL y m d h i s u).take 19) = textL y m d h i s 0 := by
  have hl : (dI 4 y ++ [45] ++ dI 2 m ++ [45] ++ dI 2 d ++ [32] ++ dI 2 h ++ [58] ++ dI 2 i ++ [58] ++ dI 2 s).length = 19 := by simp [dI_len]
  have e : (textL y m d h i s u).take 19 = dI 4 y ++ [45] ++ dI 2 m ++ [45] ++ dI 2 d ++ [32] ++ dI 2 h ++ [58] ++ dI 2 i ++ [58] ++ dI 2 s := by
    simp only [textL, List.append_assoc]
    simp [List.take_append, dI_len, take_dI]
  rw [e, padP, hl, show formL.drop 19 = [46, 48, 48, 48, 48, 48, 48] from rfl]
  simp [textL, dI2_0, dI6_0]
theorem text_cut3 (y m d h i s u : Int) : padP ((textL y m d h i s u).take 26) = textL y m d h i s u := by
  have hl : (dI 4 y ++ [45] ++ dI 2 m ++ [45] ++ dI 2 d ++ [32] ++ dI 2 h ++ [58] ++ dI 2 i ++ [58] ++ dI 2 s ++ [46] ++ dI 6 u).length = 26 := by simp [dI_len]
  have e : (textL y m d h i s u).take 26 = dI 4 y ++ [45] ++ dI 2 m ++ [45] ++ dI 2 d ++ [32] ++ dI 2 h ++ [58] ++ dI 2 i ++ [58] ++ dI 2 s ++ [46] ++ dI 6 u := by
    simp only [textL, List.append_assoc]
    simp [List.take_append, dI_len, take_dI]
  rw [e, padP, hl, show formL.drop 26 = [] from rfl]
  simp [textL, dI2_0, dI6_0]

theorem take_bytes {t : ByteArray} {l : List Int} (h : bytesOf t = l) (n : Nat) : bytesOf (t.extract 0 n) = l.take n := by rw [bytesOf_extract, h, List.drop_zero]
/-- The time, cut: what the loop has done up to place n. -/
def cutF (K : Nat) (l : List Int) (n j : Nat) : Int := if j < n ∧ K ≤ j then 0 else l.getD j 0
theorem cutF_same {K : Nat} {l : List Int} {n : Nat} (h : ¬ K ≤ n) : cutF K l (n + 1) = cutF K l n := by
  funext j
  unfold cutF
  by_cases c : j < n ∧ K ≤ j
  · rw [if_pos c, if_pos (by omega)]
  · rw [if_neg c, if_neg (by omega)]
theorem cutF_at {K : Nat} {l : List Int} {n : Nat} (h : K ≤ n) : cutF K l (n + 1) n = 0 := by unfold cutF; rw [if_pos (by omega)]
theorem cutF_else {K : Nat} {l : List Int} {n j : Nat} (h : j ≠ n) : cutF K l (n + 1) j = cutF K l n j := by
  unfold cutF
  by_cases c : j < n ∧ K ≤ j
  · rw [if_pos c, if_pos (by omega)]
  · rw [if_neg c, if_neg (by omega)]

set_option maxHeartbeats 8000000 in
set_option maxRecDepth 100000 in
theorem CivilTexts_0 (y m d h i s u cut : Int) (w : World) (hr : rightB y m d h i s u = true) (hc : cut % 4 = 0) (c0 : 0 ≤ cut) (c1 : cut ≤ 255) :
    Calls Try.prog 8 #[.agg #[.int .i64 y, .int .i64 m, .int .i64 d, .int .i64 h, .int .i64 i, .int .i64 s, .int .i64 u], .int .u8 cut] w fun e w' => e = .returned (.bool true) ∧ Below w.heap.size w w' := by
  have HR := Aside0.mk hr
  have HX0 := Aside0.mk (blk_new w (.cells #[.int .i64 y, .int .i64 m, .int .i64 d, .int .i64 h, .int .i64 i, .int .i64 s, .int .i64 u] 31))
  have HB0 := Aside0.mk (below_alloc (Below.refl w.heap.size w) (.cells #[.int .i64 y, .int .i64 m, .int .i64 d, .int .i64 h, .int .i64 i, .int .i64 s, .int .i64 u] 31))
  have hq : (cut : Int).tmod 4 = 0 := by rw [Int.tmod_eq_emod_of_nonneg c0]; exact hc
  obtain ⟨S, hS⟩ : ∃ S, textS y m d h i s u = S := ⟨_, rfl⟩
  have hsz : S.size = 26 := by rw [← hS]; exact textS_size y m d h i s u
  have hSb : bytesOf S = textL y m d h i s u := by rw [← hS, textS, bytesOf_strOf (textL_isB hr)]
  have HPV := Aside0.mk (show parV (bytesOf (S.extract 0 10)) = .tuple #[.agg #[.int .i64 y, .int .i64 m, .int .i64 d, .int .i64 0, .int .i64 0, .int .i64 0, .int .i64 0], .bool true] by
    rw [take_bytes hSb]
    exact par_text (right_cut hr).1 (by rw [List.length_take, textL_len]; rfl) (text_cut0 y m d h i s u))
  have HCV := Aside0.mk (show arrV (cutF 3 [y, m, d, h, i, s, u] 7) = #[.int .i64 y, .int .i64 m, .int .i64 d, .int .i64 0, .int .i64 0, .int .i64 0, .int .i64 0] from rfl)
  have HC0 := Aside0.mk (show arrV (cutF 3 [y, m, d, h, i, s, u] 0) = #[.int .i64 y, .int .i64 m, .int .i64 d, .int .i64 h, .int .i64 i, .int .i64 s, .int .i64 u] from rfl)
  have HS := Aside0.mk hS
  have ss : (S.toList == S.toList) = true := by simp
  have sn : (S.toList != S.toList) = false := by simp
  clear hr hS hSb
  have z0 : (w.alloc (.cells #[.int .i64 y, .int .i64 m, .int .i64 d, .int .i64 h, .int .i64 i, .int .i64 s, .int .i64 u] 31)).cell? ⟨w.heap.size, 0, none⟩ = some (.int .i64 y) := blk_cell HX0.out 0
  have z1 : (w.alloc (.cells #[.int .i64 y, .int .i64 m, .int .i64 d, .int .i64 h, .int .i64 i, .int .i64 s, .int .i64 u] 31)).cell? ⟨w.heap.size, 1, none⟩ = some (.int .i64 m) := blk_cell HX0.out 1
  have z2 : (w.alloc (.cells #[.int .i64 y, .int .i64 m, .int .i64 d, .int .i64 h, .int .i64 i, .int .i64 s, .int .i64 u] 31)).cell? ⟨w.heap.size, 2, none⟩ = some (.int .i64 d) := blk_cell HX0.out 2
  have z3 : (w.alloc (.cells #[.int .i64 y, .int .i64 m, .int .i64 d, .int .i64 h, .int .i64 i, .int .i64 s, .int .i64 u] 31)).cell? ⟨w.heap.size, 3, none⟩ = some (.int .i64 h) := blk_cell HX0.out 3
  have z4 : (w.alloc (.cells #[.int .i64 y, .int .i64 m, .int .i64 d, .int .i64 h, .int .i64 i, .int .i64 s, .int .i64 u] 31)).cell? ⟨w.heap.size, 4, none⟩ = some (.int .i64 i) := blk_cell HX0.out 4
  have z5 : (w.alloc (.cells #[.int .i64 y, .int .i64 m, .int .i64 d, .int .i64 h, .int .i64 i, .int .i64 s, .int .i64 u] 31)).cell? ⟨w.heap.size, 5, none⟩ = some (.int .i64 s) := blk_cell HX0.out 5
  have z6 : (w.alloc (.cells #[.int .i64 y, .int .i64 m, .int .i64 d, .int .i64 h, .int .i64 i, .int .i64 s, .int .i64 u] 31)).cell? ⟨w.heap.size, 6, none⟩ = some (.int .i64 u) := blk_cell HX0.out 6
  go_enter Try.func8, Try.ntmps8
  go_wp2_with fail
  refine (ref_Right_calls y m d h i s u _).mono ?_
  rintro e w1 ⟨rfl, hb⟩
  have HB1 := Aside0.mk (below_step HB0.out hb)
  have HX1 := Aside0.mk (blk_below HX0.out hb)
  clear hb z0 z1 z2 z3 z4 z5 z6
  rw [HR.out]
  have z0 : (w1).cell? ⟨w.heap.size, 0, none⟩ = some (.int .i64 y) := blk_cell HX1.out 0
  have z1 : (w1).cell? ⟨w.heap.size, 1, none⟩ = some (.int .i64 m) := blk_cell HX1.out 1
  have z2 : (w1).cell? ⟨w.heap.size, 2, none⟩ = some (.int .i64 d) := blk_cell HX1.out 2
  have z3 : (w1).cell? ⟨w.heap.size, 3, none⟩ = some (.int .i64 h) := blk_cell HX1.out 3
  have z4 : (w1).cell? ⟨w.heap.size, 4, none⟩ = some (.int .i64 i) := blk_cell HX1.out 4
  have z5 : (w1).cell? ⟨w.heap.size, 5, none⟩ = some (.int .i64 s) := blk_cell HX1.out 5
  have z6 : (w1).cell? ⟨w.heap.size, 6, none⟩ = some (.int .i64 u) := blk_cell HX1.out 6
  go_wp2_with fail
  refine (civ_to_calls y m d h i s u _).mono ?_
  rintro e w2 ⟨rfl, hb⟩
  have HB2 := Aside0.mk (below_step HB1.out hb)
  have HX2 := Aside0.mk (blk_below HX1.out hb)
  clear hb z0 z1 z2 z3 z4 z5 z6
  have z0 : (w2).cell? ⟨w.heap.size, 0, none⟩ = some (.int .i64 y) := blk_cell HX2.out 0
  have z1 : (w2).cell? ⟨w.heap.size, 1, none⟩ = some (.int .i64 m) := blk_cell HX2.out 1
  have z2 : (w2).cell? ⟨w.heap.size, 2, none⟩ = some (.int .i64 d) := blk_cell HX2.out 2
  have z3 : (w2).cell? ⟨w.heap.size, 3, none⟩ = some (.int .i64 h) := blk_cell HX2.out 3
  have z4 : (w2).cell? ⟨w.heap.size, 4, none⟩ = some (.int .i64 i) := blk_cell HX2.out 4
  have z5 : (w2).cell? ⟨w.heap.size, 5, none⟩ = some (.int .i64 s) := blk_cell HX2.out 5
  have z6 : (w2).cell? ⟨w.heap.size, 6, none⟩ = some (.int .i64 u) := blk_cell HX2.out 6
  go_wp2_with fail
  refine (civil_Text_calls y m d h i s u _ HR.out).mono ?_
  rintro e w3 ⟨rfl, hb⟩
  rw [HS.out]
  have HB3 := Aside0.mk (below_alloc (below_step HB2.out hb) (.cells #[.int .i64 10, .int .i64 16, .int .i64 19, .int .i64 26] 3))
  have HX3 := Aside0.mk (blk_alloc (blk_below HX2.out hb) (.cells #[.int .i64 10, .int .i64 16, .int .i64 19, .int .i64 26] 3))
  clear hb z0 z1 z2 z3 z4 z5 z6
  have z0 : (w3.alloc (.cells #[.int .i64 10, .int .i64 16, .int .i64 19, .int .i64 26] 3)).cell? ⟨w.heap.size, 0, none⟩ = some (.int .i64 y) := blk_cell HX3.out 0
  have z1 : (w3.alloc (.cells #[.int .i64 10, .int .i64 16, .int .i64 19, .int .i64 26] 3)).cell? ⟨w.heap.size, 1, none⟩ = some (.int .i64 m) := blk_cell HX3.out 1
  have z2 : (w3.alloc (.cells #[.int .i64 10, .int .i64 16, .int .i64 19, .int .i64 26] 3)).cell? ⟨w.heap.size, 2, none⟩ = some (.int .i64 d) := blk_cell HX3.out 2
  have z3 : (w3.alloc (.cells #[.int .i64 10, .int .i64 16, .int .i64 19, .int .i64 26] 3)).cell? ⟨w.heap.size, 3, none⟩ = some (.int .i64 h) := blk_cell HX3.out 3
  have z4 : (w3.alloc (.cells #[.int .i64 10, .int .i64 16, .int .i64 19, .int .i64 26] 3)).cell? ⟨w.heap.size, 4, none⟩ = some (.int .i64 i) := blk_cell HX3.out 4
  have z5 : (w3.alloc (.cells #[.int .i64 10, .int .i64 16, .int .i64 19, .int .i64 26] 3)).cell? ⟨w.heap.size, 5, none⟩ = some (.int .i64 s) := blk_cell HX3.out 5
  have z6 : (w3.alloc (.cells #[.int .i64 10, .int .i64 16, .int .i64 19, .int .i64 26] 3)).cell? ⟨w.heap.size, 6, none⟩ = some (.int .i64 u) := blk_cell HX3.out 6
  go_wp2_with fail
  refine (ref_Text_calls y m d h i s u _ HR.out).mono ?_
  rintro e w4 ⟨rfl, hb⟩
  have HB4 := Aside0.mk (below_step HB3.out hb)
  have HX4 := Aside0.mk (blk_below HX3.out hb)
  clear hb z0 z1 z2 z3 z4 z5 z6
  rw [HS.out]
  have z0 : (w4).cell? ⟨w.heap.size, 0, none⟩ = some (.int .i64 y) := blk_cell HX4.out 0
  have z1 : (w4).cell? ⟨w.heap.size, 1, none⟩ = some (.int .i64 m) := blk_cell HX4.out 1
  have z2 : (w4).cell? ⟨w.heap.size, 2, none⟩ = some (.int .i64 d) := blk_cell HX4.out 2
  have z3 : (w4).cell? ⟨w.heap.size, 3, none⟩ = some (.int .i64 h) := blk_cell HX4.out 3
  have z4 : (w4).cell? ⟨w.heap.size, 4, none⟩ = some (.int .i64 i) := blk_cell HX4.out 4
  have z5 : (w4).cell? ⟨w.heap.size, 5, none⟩ = some (.int .i64 s) := blk_cell HX4.out 5
  have z6 : (w4).cell? ⟨w.heap.size, 6, none⟩ = some (.int .i64 u) := blk_cell HX4.out 6
  go_wp2_with fail
  refine (civil_Parse_calls (S.extract 0 10) _ (by rw [ByteArray.size_extract]; omega)).mono ?_
  rintro e w5 ⟨rfl, hb⟩
  rw [HPV.out]
  have HB5 := Aside0.mk (below_alloc (below_step HB4.out hb) (.cells #[.int .i64 y, .int .i64 m, .int .i64 d, .int .i64 0, .int .i64 0, .int .i64 0, .int .i64 0] 28))
  have HX5 := Aside0.mk (blk_alloc (blk_below HX4.out hb) (.cells #[.int .i64 y, .int .i64 m, .int .i64 d, .int .i64 0, .int .i64 0, .int .i64 0, .int .i64 0] 28))
  have HV5 := Aside0.mk (blk_new w5 (.cells #[.int .i64 y, .int .i64 m, .int .i64 d, .int .i64 0, .int .i64 0, .int .i64 0, .int .i64 0] 28))
  clear hb z0 z1 z2 z3 z4 z5 z6
  have HY6 := Aside0.mk (blk_new (w5.alloc (.cells #[.int .i64 y, .int .i64 m, .int .i64 d, .int .i64 0, .int .i64 0, .int .i64 0, .int .i64 0] 28)) (.cells #[.int .i64 y, .int .i64 m, .int .i64 d, .int .i64 h, .int .i64 i, .int .i64 s, .int .i64 u] 31))
  rw [show (w5.alloc (.cells #[.int .i64 y, .int .i64 m, .int .i64 d, .int .i64 0, .int .i64 0, .int .i64 0, .int .i64 0] 28)).heap.size = w5.heap.size + 1 from Array.size_push _] at HY6
  have HV6 := Aside0.mk (blk_alloc HV5.out (.cells #[.int .i64 y, .int .i64 m, .int .i64 d, .int .i64 h, .int .i64 i, .int .i64 s, .int .i64 u] 31))
  have HB6 := Aside0.mk (below_alloc HB5.out (.cells #[.int .i64 y, .int .i64 m, .int .i64 d, .int .i64 h, .int .i64 i, .int .i64 s, .int .i64 u] 31))
  have hwp : w.heap.size ≤ w5.heap.size := HB5.out.size |> fun h => by have := HX5.out; have h2 := HV5.out; have h3 := (HB4.out.size); have h4 := blk_lt HX4.out; exact Nat.le_of_lt_succ (by have h5 := blk_lt HX5.out; simp at h5; omega)
  have z0 : (w5.alloc (.cells #[.int .i64 y, .int .i64 m, .int .i64 d, .int .i64 0, .int .i64 0, .int .i64 0, .int .i64 0] 28)).cell? ⟨w.heap.size, 0, none⟩ = some (.int .i64 y) := blk_cell HX5.out 0
  have z1 : (w5.alloc (.cells #[.int .i64 y, .int .i64 m, .int .i64 d, .int .i64 0, .int .i64 0, .int .i64 0, .int .i64 0] 28)).cell? ⟨w.heap.size, 1, none⟩ = some (.int .i64 m) := blk_cell HX5.out 1
  have z2 : (w5.alloc (.cells #[.int .i64 y, .int .i64 m, .int .i64 d, .int .i64 0, .int .i64 0, .int .i64 0, .int .i64 0] 28)).cell? ⟨w.heap.size, 2, none⟩ = some (.int .i64 d) := blk_cell HX5.out 2
  have z3 : (w5.alloc (.cells #[.int .i64 y, .int .i64 m, .int .i64 d, .int .i64 0, .int .i64 0, .int .i64 0, .int .i64 0] 28)).cell? ⟨w.heap.size, 3, none⟩ = some (.int .i64 h) := blk_cell HX5.out 3
  have z4 : (w5.alloc (.cells #[.int .i64 y, .int .i64 m, .int .i64 d, .int .i64 0, .int .i64 0, .int .i64 0, .int .i64 0] 28)).cell? ⟨w.heap.size, 4, none⟩ = some (.int .i64 i) := blk_cell HX5.out 4
  have z5 : (w5.alloc (.cells #[.int .i64 y, .int .i64 m, .int .i64 d, .int .i64 0, .int .i64 0, .int .i64 0, .int .i64 0] 28)).cell? ⟨w.heap.size, 5, none⟩ = some (.int .i64 s) := blk_cell HX5.out 5
  have z6 : (w5.alloc (.cells #[.int .i64 y, .int .i64 m, .int .i64 d, .int .i64 0, .int .i64 0, .int .i64 0, .int .i64 0] 28)).cell? ⟨w.heap.size, 6, none⟩ = some (.int .i64 u) := blk_cell HX5.out 6
  go_wp2_with fail
  go_loopw [10] (fun v10 w' => ∃ n : Nat, n ≤ 7 ∧ v10 = .int .i64 n ∧ Aside0 (w'.heap[w5.heap.size + 1]? = some (.cells (arrV (cutF 3 [y, m, d, h, i, s, u] n)) 31 (0, 0))) ∧ Aside0 (w'.heap[w5.heap.size]? = some (.cells #[.int .i64 y, .int .i64 m, .int .i64 d, .int .i64 0, .int .i64 0, .int .i64 0, .int .i64 0] 28 (0, 0))) ∧ Aside0 (Below w.heap.size w w')) (fun v10 _ => 7 - (intOf v10).toNat)
  case atStart => exact ⟨0, by omega, rfl, ⟨by rw [HC0.out]; exact HY6.out⟩, HV6, HB6⟩
  case round =>
    clear HY6 HV6 HB6 z0 z1 z2 z3 z4 z5 z6
    obtain ⟨n, hn, rfl, HY, HV, HB⟩ := hrel
    by_cases k1 : n < 7
    · have t33 : decide ((n : Int) < 7) = true := by simp; omega
      by_cases k2 : 3 ≤ n
      · have z9 := (blk_cell HY.out n).trans (arrV_get _ n k1)
        have f9 := blk_frozen HY.out n
        obtain ⟨x, hx⟩ : ∃ x, cutF 3 [y, m, d, h, i, s, u] n n = x := ⟨_, rfl⟩
        rw [hx] at z9
        clear hx
        have t34 : decide ((2 : Int) < (n : Int)) = true := by simp; omega
        have i0 : (0 : Int) ≤ (n : Int) := by omega
        have i7 : (n : Int) < 7 := by omega
        have HE := Aside0.mk (show (wr.setCell ⟨w5.heap.size + 1, n, none⟩ (.int .i64 0)).heap[w5.heap.size + 1]? = some (.cells (arrV (cutF 3 [y, m, d, h, i, s, u] (n + 1))) 31 (0, 0)) by
          rw [blk_set HY.out n (.int .i64 0), arrV_set _ (cutF 3 [y, m, d, h, i, s, u] (n + 1)) n k1 0 (cutF_at (by omega)) (fun j hj => cutF_else hj)])
        have HV2 := Aside0.mk (blk_far HV.out (p := ⟨w5.heap.size + 1, n, none⟩) (by show w5.heap.size ≠ w5.heap.size + 1; omega) (.int .i64 0))
        have HB2 := Aside0.mk (cbelow_set HB.out ⟨w5.heap.size + 1, n, none⟩ (by show w.heap.size ≤ w5.heap.size + 1; omega) (.int .i64 0))
        go_wp2_with fail
        go_roundw
        case rel => exact ⟨n + 1, by omega, by go_num, HE, HV2, HB2⟩
        case measure => simp [intOf] <;> omega
      · have t34 : decide ((2 : Int) < (n : Int)) = false := by simp; omega
        have HE := Aside0.mk (show wr.heap[w5.heap.size + 1]? = some (.cells (arrV (cutF 3 [y, m, d, h, i, s, u] (n + 1))) 31 (0, 0)) by rw [cutF_same (by omega)]; exact HY.out)
        go_wp2_with fail
        go_roundw
        case rel => exact ⟨n + 1, by omega, by go_num, HE, HV, HB⟩
        case measure => simp [intOf] <;> omega
    · obtain rfl : n = 7 := by omega
      have HY7 := Aside0.mk (show wr.heap[w5.heap.size + 1]? = some (.cells #[.int .i64 y, .int .i64 m, .int .i64 d, .int .i64 0, .int .i64 0, .int .i64 0, .int .i64 0] 31 (0, 0)) by rw [← HCV.out]; exact HY.out)
      clear k1
      go_wp2_with fail
      have a0 : (wr).cell? ⟨w5.heap.size, 0, none⟩ = some (.int .i64 y) := blk_cell HV.out 0
      have a1 : (wr).cell? ⟨w5.heap.size, 1, none⟩ = some (.int .i64 m) := blk_cell HV.out 1
      have a2 : (wr).cell? ⟨w5.heap.size, 2, none⟩ = some (.int .i64 d) := blk_cell HV.out 2
      have a3 : (wr).cell? ⟨w5.heap.size, 3, none⟩ = some (.int .i64 0) := blk_cell HV.out 3
      have a4 : (wr).cell? ⟨w5.heap.size, 4, none⟩ = some (.int .i64 0) := blk_cell HV.out 4
      have a5 : (wr).cell? ⟨w5.heap.size, 5, none⟩ = some (.int .i64 0) := blk_cell HV.out 5
      have a6 : (wr).cell? ⟨w5.heap.size, 6, none⟩ = some (.int .i64 0) := blk_cell HV.out 6
      have c0 : (wr).cell? ⟨w5.heap.size + 1, 0, none⟩ = some (.int .i64 y) := blk_cell HY7.out 0
      have c1 : (wr).cell? ⟨w5.heap.size + 1, 1, none⟩ = some (.int .i64 m) := blk_cell HY7.out 1
      have c2 : (wr).cell? ⟨w5.heap.size + 1, 2, none⟩ = some (.int .i64 d) := blk_cell HY7.out 2
      have c3 : (wr).cell? ⟨w5.heap.size + 1, 3, none⟩ = some (.int .i64 0) := blk_cell HY7.out 3
      have c4 : (wr).cell? ⟨w5.heap.size + 1, 4, none⟩ = some (.int .i64 0) := blk_cell HY7.out 4
      have c5 : (wr).cell? ⟨w5.heap.size + 1, 5, none⟩ = some (.int .i64 0) := blk_cell HY7.out 5
      have c6 : (wr).cell? ⟨w5.heap.size + 1, 6, none⟩ = some (.int .i64 0) := blk_cell HY7.out 6
      refine start_ (n := 11) (S := fun w' => w'.cell? ⟨w5.heap.size, 0, none⟩ = some (.int .i64 y) ∧ w'.cell? ⟨w5.heap.size, 1, none⟩ = some (.int .i64 m) ∧ w'.cell? ⟨w5.heap.size, 2, none⟩ = some (.int .i64 d) ∧ w'.cell? ⟨w5.heap.size, 3, none⟩ = some (.int .i64 0) ∧ w'.cell? ⟨w5.heap.size, 4, none⟩ = some (.int .i64 0) ∧ w'.cell? ⟨w5.heap.size, 5, none⟩ = some (.int .i64 0) ∧ w'.cell? ⟨w5.heap.size, 6, none⟩ = some (.int .i64 0) ∧ w'.cell? ⟨w5.heap.size + 1, 0, none⟩ = some (.int .i64 y) ∧ w'.cell? ⟨w5.heap.size + 1, 1, none⟩ = some (.int .i64 m) ∧ w'.cell? ⟨w5.heap.size + 1, 2, none⟩ = some (.int .i64 d) ∧ w'.cell? ⟨w5.heap.size + 1, 3, none⟩ = some (.int .i64 0) ∧ w'.cell? ⟨w5.heap.size + 1, 4, none⟩ = some (.int .i64 0) ∧ w'.cell? ⟨w5.heap.size + 1, 5, none⟩ = some (.int .i64 0) ∧ w'.cell? ⟨w5.heap.size + 1, 6, none⟩ = some (.int .i64 0)) (ds := []) #[false, false, false, false, false, false, false, false, false, false, false] (by kernel_rfl) rfl rfl ⟨a0, a1, a2, a3, a4, a5, a6, c0, c1, c2, c3, c4, c5, c6⟩ (fun hHeld => ?_)
      refine pure_ (i := 0) (N := some 71) (v := ?_) (a' := ?_) #[true, false, false, false, false, false, false, false, false, false, false] rfl rfl (by kernel_rfl) (fun _ _ _ h => h) (Or.inl ⟨by rfl, ?_⟩) ?_ ?_
      rotate_left
      · intro w'
        go_simp
        with_reducible rfl
      rotate_left
      · simp only [Act.put, List.setIfInBounds_toArray, List.set_cons_zero, List.set_cons_succ, i64_w, i32_w]
        rfl
      refine pure_ (i := 1) (N := some 72) (v := ?_) (a' := ?_) #[true, true, false, false, false, false, false, false, false, false, false] rfl rfl (by kernel_rfl) (fun _ _ _ h => h) (Or.inl ⟨by rfl, ?_⟩) ?_ ?_
      rotate_left
      · intro w'
        go_simp
        with_reducible rfl
      rotate_left
      · simp only [Act.put, List.setIfInBounds_toArray, List.set_cons_zero, List.set_cons_succ, i64_w, i32_w]
        rfl
      refine take_ (i := 2) (N := some 73) (v := ?_) (a' := ?_) #[true, true, true, false, false, false, false, false, false, false, false] rfl rfl (by kernel_rfl) (fun _ _ _ h => h) (Or.inl ⟨by rfl, ?_⟩) hHeld ?_ ?_
      rotate_left
      · rintro w' ⟨s0, s1, s2, s3, s4, s5, s6, s7, s8, s9, s10, s11, s12, s13⟩
        go_simp
        with_reducible rfl
      rotate_left
      · simp only [Act.put, List.setIfInBounds_toArray, List.set_cons_zero, List.set_cons_succ, i64_w, i32_w]
        rfl
      refine take_ (i := 3) (N := some 74) (v := ?_) (a' := ?_) #[true, true, true, true, false, false, false, false, false, false, false] rfl rfl (by kernel_rfl) (fun _ _ _ h => h) (Or.inl ⟨by rfl, ?_⟩) hHeld ?_ ?_
      rotate_left
      · rintro w' ⟨s0, s1, s2, s3, s4, s5, s6, s7, s8, s9, s10, s11, s12, s13⟩
        go_simp
        with_reducible rfl
      rotate_left
      · simp only [Act.put, List.setIfInBounds_toArray, List.set_cons_zero, List.set_cons_succ, i64_w, i32_w]
        rfl
      refine one_ (i := 4) (N := some 75) #[true, true, true, true, true, false, false, false, false, false, false] rfl rfl (by kernel_rfl) (by decide) (fun K hK => ?_)
      refine goes_ Try.func22 (by kernel_rfl) rfl #[.agg #[.int .i64 y, .int .i64 m, .int .i64 d, .int .i64 0, .int .i64 0, .int .i64 0, .int .i64 0]] (by rfl) rfl rfl (by (try simp only [List.map_toArray, List.map_cons, List.map_nil]); first | done | rfl) ?_
      with_reducible refine (civ_to_calls y m d 0 0 0 0 _).mono ?_
      rintro e u1 ⟨rfl, hb1⟩
      refine ⟨_, rfl, ?_⟩
      refine hK.out _ _ ⟨(pw_cell_below hb1 hHeld.1), (pw_cell_below hb1 hHeld.2.1), (pw_cell_below hb1 hHeld.2.2.1), (pw_cell_below hb1 hHeld.2.2.2.1), (pw_cell_below hb1 hHeld.2.2.2.2.1), (pw_cell_below hb1 hHeld.2.2.2.2.2.1), (pw_cell_below hb1 hHeld.2.2.2.2.2.2.1), (pw_cell_below hb1 hHeld.2.2.2.2.2.2.2.1), (pw_cell_below hb1 hHeld.2.2.2.2.2.2.2.2.1), (pw_cell_below hb1 hHeld.2.2.2.2.2.2.2.2.2.1), (pw_cell_below hb1 hHeld.2.2.2.2.2.2.2.2.2.2.1), (pw_cell_below hb1 hHeld.2.2.2.2.2.2.2.2.2.2.2.1), (pw_cell_below hb1 hHeld.2.2.2.2.2.2.2.2.2.2.2.2.1), (pw_cell_below hb1 hHeld.2.2.2.2.2.2.2.2.2.2.2.2.2)⟩ (fun hHeld => ?_)
      clear hK K
      refine norm_ (a' := ?_) ?_ ?_
      rotate_left
      · show Act.put _ (some 75) _ = _
        simp only [Act.put, List.setIfInBounds_toArray, List.set_cons_zero, List.set_cons_succ, i64_w, i32_w]
        rfl
      refine pure_ (i := 5) (N := some 76) (v := ?_) (a' := ?_) #[true, true, true, true, true, true, false, false, false, false, false] rfl rfl (by kernel_rfl) (fun _ _ _ h => h) (Or.inl ⟨by rfl, ?_⟩) ?_ ?_
      rotate_left
      · intro w'
        go_simp
        with_reducible rfl
      rotate_left
      · simp only [Act.put, List.setIfInBounds_toArray, List.set_cons_zero, List.set_cons_succ, i64_w, i32_w]
        rfl
      refine pure_ (i := 6) (N := some 77) (v := ?_) (a' := ?_) #[true, true, true, true, true, true, true, false, false, false, false] rfl rfl (by kernel_rfl) (fun _ _ _ h => h) (Or.inl ⟨by rfl, ?_⟩) ?_ ?_
      rotate_left
      · intro w'
        go_simp
        with_reducible rfl
      rotate_left
      · simp only [Act.put, List.setIfInBounds_toArray, List.set_cons_zero, List.set_cons_succ, i64_w, i32_w]
        rfl
      refine pure_ (i := 7) (N := some 78) (v := ?_) (a' := ?_) #[true, true, true, true, true, true, true, true, false, false, false] rfl rfl (by kernel_rfl) (fun _ _ _ h => h) (Or.inl ⟨by rfl, ?_⟩) ?_ ?_
      rotate_left
      · intro w'
        go_simp
        with_reducible rfl
      rotate_left
      · simp only [Act.put, List.setIfInBounds_toArray, List.set_cons_zero, List.set_cons_succ, i64_w, i32_w]
        rfl
      refine one_ (i := 8) (N := some 79) #[true, true, true, true, true, true, true, true, true, false, false] rfl rfl (by kernel_rfl) (by decide) (fun K hK => ?_)
      refine goes_ Try.func19 (by kernel_rfl) rfl #[] (by rfl) rfl rfl (by (try simp only [List.map_toArray, List.map_cons, List.map_nil]); first | done | rfl) ?_
      with_reducible refine (civ_awake_calls _).mono ?_
      rintro e u2 ⟨rfl, hb2⟩
      refine ⟨_, rfl, ?_⟩
      refine hK.out _ _ ⟨(pw_cell_below hb2 hHeld.1), (pw_cell_below hb2 hHeld.2.1), (pw_cell_below hb2 hHeld.2.2.1), (pw_cell_below hb2 hHeld.2.2.2.1), (pw_cell_below hb2 hHeld.2.2.2.2.1), (pw_cell_below hb2 hHeld.2.2.2.2.2.1), (pw_cell_below hb2 hHeld.2.2.2.2.2.2.1), (pw_cell_below hb2 hHeld.2.2.2.2.2.2.2.1), (pw_cell_below hb2 hHeld.2.2.2.2.2.2.2.2.1), (pw_cell_below hb2 hHeld.2.2.2.2.2.2.2.2.2.1), (pw_cell_below hb2 hHeld.2.2.2.2.2.2.2.2.2.2.1), (pw_cell_below hb2 hHeld.2.2.2.2.2.2.2.2.2.2.2.1), (pw_cell_below hb2 hHeld.2.2.2.2.2.2.2.2.2.2.2.2.1), (pw_cell_below hb2 hHeld.2.2.2.2.2.2.2.2.2.2.2.2.2)⟩ (fun hHeld => ?_)
      clear hK K
      refine norm_ (a' := ?_) ?_ ?_
      rotate_left
      · show Act.put _ (some 79) _ = _
        simp only [Act.put, List.setIfInBounds_toArray, List.set_cons_zero, List.set_cons_succ, i64_w, i32_w]
        rfl
      refine pure_ (i := 9) (N := some 80) (v := ?_) (a' := ?_) #[true, true, true, true, true, true, true, true, true, true, false] rfl rfl (by kernel_rfl) (fun _ _ _ h => h) (Or.inl ⟨by rfl, ?_⟩) ?_ ?_
      rotate_left
      · intro w'
        go_simp
        with_reducible rfl
      rotate_left
      · simp only [Act.put, List.setIfInBounds_toArray, List.set_cons_zero, List.set_cons_succ, i64_w, i32_w]
        rfl
      refine pure_ (i := 10) (N := some 4) (v := ?_) (a' := ?_) #[true, true, true, true, true, true, true, true, true, true, true] rfl rfl (by kernel_rfl) (fun _ _ _ h => h) (Or.inl ⟨by rfl, ?_⟩) ?_ ?_
      rotate_left
      · intro w'
        go_simp
        with_reducible rfl
      rotate_left
      · simp only [Act.put, List.setIfInBounds_toArray, List.set_cons_zero, List.set_cons_succ, i64_w, i32_w]
        rfl
      refine done_ (by kernel_rfl) ?_
      have HBE := Aside0.mk (below_step (below_step (below_drew HB.out) hb1) hb2)
      clear hb1 hb2 a0 c0 a1 c1 a2 c2 a3 c3 a4 c4 a5 c5 a6 c6
      go_wp2_with fail
      go_ret
      exact ⟨rfl, HBE.out⟩
set_option maxHeartbeats 8000000 in
set_option maxRecDepth 100000 in
theorem CivilTexts_1 (y m d h i s u cut : Int) (w : World) (hr : rightB y m d h i s u = true) (hc : cut % 4 = 1) (c0 : 0 ≤ cut) (c1 : cut ≤ 255) :
    Calls Try.prog 8 #[.agg #[.int .i64 y, .int .i64 m, .int .i64 d, .int .i64 h, .int .i64 i, .int .i64 s, .int .i64 u], .int .u8 cut] w fun e w' => e = .returned (.bool true) ∧ Below w.heap.size w w' := by
  have HR := Aside0.mk hr
  have HX0 := Aside0.mk (blk_new w (.cells #[.int .i64 y, .int .i64 m, .int .i64 d, .int .i64 h, .int .i64 i, .int .i64 s, .int .i64 u] 31))
  have HB0 := Aside0.mk (below_alloc (Below.refl w.heap.size w) (.cells #[.int .i64 y, .int .i64 m, .int .i64 d, .int .i64 h, .int .i64 i, .int .i64 s, .int .i64 u] 31))
  have hq : (cut : Int).tmod 4 = 1 := by rw [Int.tmod_eq_emod_of_nonneg c0]; exact hc
  obtain ⟨S, hS⟩ : ∃ S, textS y m d h i s u = S := ⟨_, rfl⟩
  have hsz : S.size = 26 := by rw [← hS]; exact textS_size y m d h i s u
  have hSb : bytesOf S = textL y m d h i s u := by rw [← hS, textS, bytesOf_strOf (textL_isB hr)]
  have HPV := Aside0.mk (show parV (bytesOf (S.extract 0 16)) = .tuple #[.agg #[.int .i64 y, .int .i64 m, .int .i64 d, .int .i64 h, .int .i64 i, .int .i64 0, .int .i64 0], .bool true] by
    rw [take_bytes hSb]
    exact par_text (right_cut hr).2.1 (by rw [List.length_take, textL_len]; rfl) (text_cut1 y m d h i s u))
  have HCV := Aside0.mk (show arrV (cutF 5 [y, m, d, h, i, s, u] 7) = #[.int .i64 y, .int .i64 m, .int .i64 d, .int .i64 h, .int .i64 i, .int .i64 0, .int .i64 0] from rfl)
  have HC0 := Aside0.mk (show arrV (cutF 5 [y, m, d, h, i, s, u] 0) = #[.int .i64 y, .int .i64 m, .int .i64 d, .int .i64 h, .int .i64 i, .int .i64 s, .int .i64 u] from rfl)
  have HS := Aside0.mk hS
  have ss : (S.toList == S.toList) = true := by simp
  have sn : (S.toList != S.toList) = false := by simp
  clear hr hS hSb
  have z0 : (w.alloc (.cells #[.int .i64 y, .int .i64 m, .int .i64 d, .int .i64 h, .int .i64 i, .int .i64 s, .int .i64 u] 31)).cell? ⟨w.heap.size, 0, none⟩ = some (.int .i64 y) := blk_cell HX0.out 0
  have z1 : (w.alloc (.cells #[.int .i64 y, .int .i64 m, .int .i64 d, .int .i64 h, .int .i64 i, .int .i64 s, .int .i64 u] 31)).cell? ⟨w.heap.size, 1, none⟩ = some (.int .i64 m) := blk_cell HX0.out 1
  have z2 : (w.alloc (.cells #[.int .i64 y, .int .i64 m, .int .i64 d, .int .i64 h, .int .i64 i, .int .i64 s, .int .i64 u] 31)).cell? ⟨w.heap.size, 2, none⟩ = some (.int .i64 d) := blk_cell HX0.out 2
  have z3 : (w.alloc (.cells #[.int .i64 y, .int .i64 m, .int .i64 d, .int .i64 h, .int .i64 i, .int .i64 s, .int .i64 u] 31)).cell? ⟨w.heap.size, 3, none⟩ = some (.int .i64 h) := blk_cell HX0.out 3
  have z4 : (w.alloc (.cells #[.int .i64 y, .int .i64 m, .int .i64 d, .int .i64 h, .int .i64 i, .int .i64 s, .int .i64 u] 31)).cell? ⟨w.heap.size, 4, none⟩ = some (.int .i64 i) := blk_cell HX0.out 4
  have z5 : (w.alloc (.cells #[.int .i64 y, .int .i64 m, .int .i64 d, .int .i64 h, .int .i64 i, .int .i64 s, .int .i64 u] 31)).cell? ⟨w.heap.size, 5, none⟩ = some (.int .i64 s) := blk_cell HX0.out 5
  have z6 : (w.alloc (.cells #[.int .i64 y, .int .i64 m, .int .i64 d, .int .i64 h, .int .i64 i, .int .i64 s, .int .i64 u] 31)).cell? ⟨w.heap.size, 6, none⟩ = some (.int .i64 u) := blk_cell HX0.out 6
  go_enter Try.func8, Try.ntmps8
  go_wp2_with fail
  refine (ref_Right_calls y m d h i s u _).mono ?_
  rintro e w1 ⟨rfl, hb⟩
  have HB1 := Aside0.mk (below_step HB0.out hb)
  have HX1 := Aside0.mk (blk_below HX0.out hb)
  clear hb z0 z1 z2 z3 z4 z5 z6
  rw [HR.out]
  have z0 : (w1).cell? ⟨w.heap.size, 0, none⟩ = some (.int .i64 y) := blk_cell HX1.out 0
  have z1 : (w1).cell? ⟨w.heap.size, 1, none⟩ = some (.int .i64 m) := blk_cell HX1.out 1
  have z2 : (w1).cell? ⟨w.heap.size, 2, none⟩ = some (.int .i64 d) := blk_cell HX1.out 2
  have z3 : (w1).cell? ⟨w.heap.size, 3, none⟩ = some (.int .i64 h) := blk_cell HX1.out 3
  have z4 : (w1).cell? ⟨w.heap.size, 4, none⟩ = some (.int .i64 i) := blk_cell HX1.out 4
  have z5 : (w1).cell? ⟨w.heap.size, 5, none⟩ = some (.int .i64 s) := blk_cell HX1.out 5
  have z6 : (w1).cell? ⟨w.heap.size, 6, none⟩ = some (.int .i64 u) := blk_cell HX1.out 6
  go_wp2_with fail
  refine (civ_to_calls y m d h i s u _).mono ?_
  rintro e w2 ⟨rfl, hb⟩
  have HB2 := Aside0.mk (below_step HB1.out hb)
  have HX2 := Aside0.mk (blk_below HX1.out hb)
  clear hb z0 z1 z2 z3 z4 z5 z6
  have z0 : (w2).cell? ⟨w.heap.size, 0, none⟩ = some (.int .i64 y) := blk_cell HX2.out 0
  have z1 : (w2).cell? ⟨w.heap.size, 1, none⟩ = some (.int .i64 m) := blk_cell HX2.out 1
  have z2 : (w2).cell? ⟨w.heap.size, 2, none⟩ = some (.int .i64 d) := blk_cell HX2.out 2
  have z3 : (w2).cell? ⟨w.heap.size, 3, none⟩ = some (.int .i64 h) := blk_cell HX2.out 3
  have z4 : (w2).cell? ⟨w.heap.size, 4, none⟩ = some (.int .i64 i) := blk_cell HX2.out 4
  have z5 : (w2).cell? ⟨w.heap.size, 5, none⟩ = some (.int .i64 s) := blk_cell HX2.out 5
  have z6 : (w2).cell? ⟨w.heap.size, 6, none⟩ = some (.int .i64 u) := blk_cell HX2.out 6
  go_wp2_with fail
  refine (civil_Text_calls y m d h i s u _ HR.out).mono ?_
  rintro e w3 ⟨rfl, hb⟩
  rw [HS.out]
  have HB3 := Aside0.mk (below_alloc (below_step HB2.out hb) (.cells #[.int .i64 10, .int .i64 16, .int .i64 19, .int .i64 26] 3))
  have HX3 := Aside0.mk (blk_alloc (blk_below HX2.out hb) (.cells #[.int .i64 10, .int .i64 16, .int .i64 19, .int .i64 26] 3))
  clear hb z0 z1 z2 z3 z4 z5 z6
  have z0 : (w3.alloc (.cells #[.int .i64 10, .int .i64 16, .int .i64 19, .int .i64 26] 3)).cell? ⟨w.heap.size, 0, none⟩ = some (.int .i64 y) := blk_cell HX3.out 0
  have z1 : (w3.alloc (.cells #[.int .i64 10, .int .i64 16, .int .i64 19, .int .i64 26] 3)).cell? ⟨w.heap.size, 1, none⟩ = some (.int .i64 m) := blk_cell HX3.out 1
  have z2 : (w3.alloc (.cells #[.int .i64 10, .int .i64 16, .int .i64 19, .int .i64 26] 3)).cell? ⟨w.heap.size, 2, none⟩ = some (.int .i64 d) := blk_cell HX3.out 2
  have z3 : (w3.alloc (.cells #[.int .i64 10, .int .i64 16, .int .i64 19, .int .i64 26] 3)).cell? ⟨w.heap.size, 3, none⟩ = some (.int .i64 h) := blk_cell HX3.out 3
  have z4 : (w3.alloc (.cells #[.int .i64 10, .int .i64 16, .int .i64 19, .int .i64 26] 3)).cell? ⟨w.heap.size, 4, none⟩ = some (.int .i64 i) := blk_cell HX3.out 4
  have z5 : (w3.alloc (.cells #[.int .i64 10, .int .i64 16, .int .i64 19, .int .i64 26] 3)).cell? ⟨w.heap.size, 5, none⟩ = some (.int .i64 s) := blk_cell HX3.out 5
  have z6 : (w3.alloc (.cells #[.int .i64 10, .int .i64 16, .int .i64 19, .int .i64 26] 3)).cell? ⟨w.heap.size, 6, none⟩ = some (.int .i64 u) := blk_cell HX3.out 6
  go_wp2_with fail
  refine (ref_Text_calls y m d h i s u _ HR.out).mono ?_
  rintro e w4 ⟨rfl, hb⟩
  have HB4 := Aside0.mk (below_step HB3.out hb)
  have HX4 := Aside0.mk (blk_below HX3.out hb)
  clear hb z0 z1 z2 z3 z4 z5 z6
  rw [HS.out]
  have z0 : (w4).cell? ⟨w.heap.size, 0, none⟩ = some (.int .i64 y) := blk_cell HX4.out 0
  have z1 : (w4).cell? ⟨w.heap.size, 1, none⟩ = some (.int .i64 m) := blk_cell HX4.out 1
  have z2 : (w4).cell? ⟨w.heap.size, 2, none⟩ = some (.int .i64 d) := blk_cell HX4.out 2
  have z3 : (w4).cell? ⟨w.heap.size, 3, none⟩ = some (.int .i64 h) := blk_cell HX4.out 3
  have z4 : (w4).cell? ⟨w.heap.size, 4, none⟩ = some (.int .i64 i) := blk_cell HX4.out 4
  have z5 : (w4).cell? ⟨w.heap.size, 5, none⟩ = some (.int .i64 s) := blk_cell HX4.out 5
  have z6 : (w4).cell? ⟨w.heap.size, 6, none⟩ = some (.int .i64 u) := blk_cell HX4.out 6
  go_wp2_with fail
  refine (civil_Parse_calls (S.extract 0 16) _ (by rw [ByteArray.size_extract]; omega)).mono ?_
  rintro e w5 ⟨rfl, hb⟩
  rw [HPV.out]
  have HB5 := Aside0.mk (below_alloc (below_step HB4.out hb) (.cells #[.int .i64 y, .int .i64 m, .int .i64 d, .int .i64 h, .int .i64 i, .int .i64 0, .int .i64 0] 28))
  have HX5 := Aside0.mk (blk_alloc (blk_below HX4.out hb) (.cells #[.int .i64 y, .int .i64 m, .int .i64 d, .int .i64 h, .int .i64 i, .int .i64 0, .int .i64 0] 28))
  have HV5 := Aside0.mk (blk_new w5 (.cells #[.int .i64 y, .int .i64 m, .int .i64 d, .int .i64 h, .int .i64 i, .int .i64 0, .int .i64 0] 28))
  clear hb z0 z1 z2 z3 z4 z5 z6
  have HY6 := Aside0.mk (blk_new (w5.alloc (.cells #[.int .i64 y, .int .i64 m, .int .i64 d, .int .i64 h, .int .i64 i, .int .i64 0, .int .i64 0] 28)) (.cells #[.int .i64 y, .int .i64 m, .int .i64 d, .int .i64 h, .int .i64 i, .int .i64 s, .int .i64 u] 31))
  rw [show (w5.alloc (.cells #[.int .i64 y, .int .i64 m, .int .i64 d, .int .i64 h, .int .i64 i, .int .i64 0, .int .i64 0] 28)).heap.size = w5.heap.size + 1 from Array.size_push _] at HY6
  have HV6 := Aside0.mk (blk_alloc HV5.out (.cells #[.int .i64 y, .int .i64 m, .int .i64 d, .int .i64 h, .int .i64 i, .int .i64 s, .int .i64 u] 31))
  have HB6 := Aside0.mk (below_alloc HB5.out (.cells #[.int .i64 y, .int .i64 m, .int .i64 d, .int .i64 h, .int .i64 i, .int .i64 s, .int .i64 u] 31))
  have hwp : w.heap.size ≤ w5.heap.size := HB5.out.size |> fun h => by have := HX5.out; have h2 := HV5.out; have h3 := (HB4.out.size); have h4 := blk_lt HX4.out; exact Nat.le_of_lt_succ (by have h5 := blk_lt HX5.out; simp at h5; omega)
  have z0 : (w5.alloc (.cells #[.int .i64 y, .int .i64 m, .int .i64 d, .int .i64 h, .int .i64 i, .int .i64 0, .int .i64 0] 28)).cell? ⟨w.heap.size, 0, none⟩ = some (.int .i64 y) := blk_cell HX5.out 0
  have z1 : (w5.alloc (.cells #[.int .i64 y, .int .i64 m, .int .i64 d, .int .i64 h, .int .i64 i, .int .i64 0, .int .i64 0] 28)).cell? ⟨w.heap.size, 1, none⟩ = some (.int .i64 m) := blk_cell HX5.out 1
  have z2 : (w5.alloc (.cells #[.int .i64 y, .int .i64 m, .int .i64 d, .int .i64 h, .int .i64 i, .int .i64 0, .int .i64 0] 28)).cell? ⟨w.heap.size, 2, none⟩ = some (.int .i64 d) := blk_cell HX5.out 2
  have z3 : (w5.alloc (.cells #[.int .i64 y, .int .i64 m, .int .i64 d, .int .i64 h, .int .i64 i, .int .i64 0, .int .i64 0] 28)).cell? ⟨w.heap.size, 3, none⟩ = some (.int .i64 h) := blk_cell HX5.out 3
  have z4 : (w5.alloc (.cells #[.int .i64 y, .int .i64 m, .int .i64 d, .int .i64 h, .int .i64 i, .int .i64 0, .int .i64 0] 28)).cell? ⟨w.heap.size, 4, none⟩ = some (.int .i64 i) := blk_cell HX5.out 4
  have z5 : (w5.alloc (.cells #[.int .i64 y, .int .i64 m, .int .i64 d, .int .i64 h, .int .i64 i, .int .i64 0, .int .i64 0] 28)).cell? ⟨w.heap.size, 5, none⟩ = some (.int .i64 s) := blk_cell HX5.out 5
  have z6 : (w5.alloc (.cells #[.int .i64 y, .int .i64 m, .int .i64 d, .int .i64 h, .int .i64 i, .int .i64 0, .int .i64 0] 28)).cell? ⟨w.heap.size, 6, none⟩ = some (.int .i64 u) := blk_cell HX5.out 6
  go_wp2_with fail
  go_loopw [10] (fun v10 w' => ∃ n : Nat, n ≤ 7 ∧ v10 = .int .i64 n ∧ Aside0 (w'.heap[w5.heap.size + 1]? = some (.cells (arrV (cutF 5 [y, m, d, h, i, s, u] n)) 31 (0, 0))) ∧ Aside0 (w'.heap[w5.heap.size]? = some (.cells #[.int .i64 y, .int .i64 m, .int .i64 d, .int .i64 h, .int .i64 i, .int .i64 0, .int .i64 0] 28 (0, 0))) ∧ Aside0 (Below w.heap.size w w')) (fun v10 _ => 7 - (intOf v10).toNat)
  case atStart => exact ⟨0, by omega, rfl, ⟨by rw [HC0.out]; exact HY6.out⟩, HV6, HB6⟩
  case round =>
    clear HY6 HV6 HB6 z0 z1 z2 z3 z4 z5 z6
    obtain ⟨n, hn, rfl, HY, HV, HB⟩ := hrel
    by_cases k1 : n < 7
    · have t33 : decide ((n : Int) < 7) = true := by simp; omega
      by_cases k2 : 5 ≤ n
      · have z9 := (blk_cell HY.out n).trans (arrV_get _ n k1)
        have f9 := blk_frozen HY.out n
        obtain ⟨x, hx⟩ : ∃ x, cutF 5 [y, m, d, h, i, s, u] n n = x := ⟨_, rfl⟩
        rw [hx] at z9
        clear hx
        have t34 : decide ((4 : Int) < (n : Int)) = true := by simp; omega
        have i0 : (0 : Int) ≤ (n : Int) := by omega
        have i7 : (n : Int) < 7 := by omega
        have HE := Aside0.mk (show (wr.setCell ⟨w5.heap.size + 1, n, none⟩ (.int .i64 0)).heap[w5.heap.size + 1]? = some (.cells (arrV (cutF 5 [y, m, d, h, i, s, u] (n + 1))) 31 (0, 0)) by
          rw [blk_set HY.out n (.int .i64 0), arrV_set _ (cutF 5 [y, m, d, h, i, s, u] (n + 1)) n k1 0 (cutF_at (by omega)) (fun j hj => cutF_else hj)])
        have HV2 := Aside0.mk (blk_far HV.out (p := ⟨w5.heap.size + 1, n, none⟩) (by show w5.heap.size ≠ w5.heap.size + 1; omega) (.int .i64 0))
        have HB2 := Aside0.mk (cbelow_set HB.out ⟨w5.heap.size + 1, n, none⟩ (by show w.heap.size ≤ w5.heap.size + 1; omega) (.int .i64 0))
        go_wp2_with fail
        go_roundw
        case rel => exact ⟨n + 1, by omega, by go_num, HE, HV2, HB2⟩
        case measure => simp [intOf] <;> omega
      · have t34 : decide ((4 : Int) < (n : Int)) = false := by simp; omega
        have HE := Aside0.mk (show wr.heap[w5.heap.size + 1]? = some (.cells (arrV (cutF 5 [y, m, d, h, i, s, u] (n + 1))) 31 (0, 0)) by rw [cutF_same (by omega)]; exact HY.out)
        go_wp2_with fail
        go_roundw
        case rel => exact ⟨n + 1, by omega, by go_num, HE, HV, HB⟩
        case measure => simp [intOf] <;> omega
    · obtain rfl : n = 7 := by omega
      have HY7 := Aside0.mk (show wr.heap[w5.heap.size + 1]? = some (.cells #[.int .i64 y, .int .i64 m, .int .i64 d, .int .i64 h, .int .i64 i, .int .i64 0, .int .i64 0] 31 (0, 0)) by rw [← HCV.out]; exact HY.out)
      clear k1
      go_wp2_with fail
      have a0 : (wr).cell? ⟨w5.heap.size, 0, none⟩ = some (.int .i64 y) := blk_cell HV.out 0
      have a1 : (wr).cell? ⟨w5.heap.size, 1, none⟩ = some (.int .i64 m) := blk_cell HV.out 1
      have a2 : (wr).cell? ⟨w5.heap.size, 2, none⟩ = some (.int .i64 d) := blk_cell HV.out 2
      have a3 : (wr).cell? ⟨w5.heap.size, 3, none⟩ = some (.int .i64 h) := blk_cell HV.out 3
      have a4 : (wr).cell? ⟨w5.heap.size, 4, none⟩ = some (.int .i64 i) := blk_cell HV.out 4
      have a5 : (wr).cell? ⟨w5.heap.size, 5, none⟩ = some (.int .i64 0) := blk_cell HV.out 5
      have a6 : (wr).cell? ⟨w5.heap.size, 6, none⟩ = some (.int .i64 0) := blk_cell HV.out 6
      have c0 : (wr).cell? ⟨w5.heap.size + 1, 0, none⟩ = some (.int .i64 y) := blk_cell HY7.out 0
      have c1 : (wr).cell? ⟨w5.heap.size + 1, 1, none⟩ = some (.int .i64 m) := blk_cell HY7.out 1
      have c2 : (wr).cell? ⟨w5.heap.size + 1, 2, none⟩ = some (.int .i64 d) := blk_cell HY7.out 2
      have c3 : (wr).cell? ⟨w5.heap.size + 1, 3, none⟩ = some (.int .i64 h) := blk_cell HY7.out 3
      have c4 : (wr).cell? ⟨w5.heap.size + 1, 4, none⟩ = some (.int .i64 i) := blk_cell HY7.out 4
      have c5 : (wr).cell? ⟨w5.heap.size + 1, 5, none⟩ = some (.int .i64 0) := blk_cell HY7.out 5
      have c6 : (wr).cell? ⟨w5.heap.size + 1, 6, none⟩ = some (.int .i64 0) := blk_cell HY7.out 6
      refine start_ (n := 11) (S := fun w' => w'.cell? ⟨w5.heap.size, 0, none⟩ = some (.int .i64 y) ∧ w'.cell? ⟨w5.heap.size, 1, none⟩ = some (.int .i64 m) ∧ w'.cell? ⟨w5.heap.size, 2, none⟩ = some (.int .i64 d) ∧ w'.cell? ⟨w5.heap.size, 3, none⟩ = some (.int .i64 h) ∧ w'.cell? ⟨w5.heap.size, 4, none⟩ = some (.int .i64 i) ∧ w'.cell? ⟨w5.heap.size, 5, none⟩ = some (.int .i64 0) ∧ w'.cell? ⟨w5.heap.size, 6, none⟩ = some (.int .i64 0) ∧ w'.cell? ⟨w5.heap.size + 1, 0, none⟩ = some (.int .i64 y) ∧ w'.cell? ⟨w5.heap.size + 1, 1, none⟩ = some (.int .i64 m) ∧ w'.cell? ⟨w5.heap.size + 1, 2, none⟩ = some (.int .i64 d) ∧ w'.cell? ⟨w5.heap.size + 1, 3, none⟩ = some (.int .i64 h) ∧ w'.cell? ⟨w5.heap.size + 1, 4, none⟩ = some (.int .i64 i) ∧ w'.cell? ⟨w5.heap.size + 1, 5, none⟩ = some (.int .i64 0) ∧ w'.cell? ⟨w5.heap.size + 1, 6, none⟩ = some (.int .i64 0)) (ds := []) #[false, false, false, false, false, false, false, false, false, false, false] (by kernel_rfl) rfl rfl ⟨a0, a1, a2, a3, a4, a5, a6, c0, c1, c2, c3, c4, c5, c6⟩ (fun hHeld => ?_)
      refine pure_ (i := 0) (N := some 71) (v := ?_) (a' := ?_) #[true, false, false, false, false, false, false, false, false, false, false] rfl rfl (by kernel_rfl) (fun _ _ _ h => h) (Or.inl ⟨by rfl, ?_⟩) ?_ ?_
      rotate_left
      · intro w'
        go_simp
        with_reducible rfl
      rotate_left
      · simp only [Act.put, List.setIfInBounds_toArray, List.set_cons_zero, List.set_cons_succ, i64_w, i32_w]
        rfl
      refine pure_ (i := 1) (N := some 72) (v := ?_) (a' := ?_) #[true, true, false, false, false, false, false, false, false, false, false] rfl rfl (by kernel_rfl) (fun _ _ _ h => h) (Or.inl ⟨by rfl, ?_⟩) ?_ ?_
      rotate_left
      · intro w'
        go_simp
        with_reducible rfl
      rotate_left
      · simp only [Act.put, List.setIfInBounds_toArray, List.set_cons_zero, List.set_cons_succ, i64_w, i32_w]
        rfl
      refine take_ (i := 2) (N := some 73) (v := ?_) (a' := ?_) #[true, true, true, false, false, false, false, false, false, false, false] rfl rfl (by kernel_rfl) (fun _ _ _ h => h) (Or.inl ⟨by rfl, ?_⟩) hHeld ?_ ?_
      rotate_left
      · rintro w' ⟨s0, s1, s2, s3, s4, s5, s6, s7, s8, s9, s10, s11, s12, s13⟩
        go_simp
        with_reducible rfl
      rotate_left
      · simp only [Act.put, List.setIfInBounds_toArray, List.set_cons_zero, List.set_cons_succ, i64_w, i32_w]
        rfl
      refine take_ (i := 3) (N := some 74) (v := ?_) (a' := ?_) #[true, true, true, true, false, false, false, false, false, false, false] rfl rfl (by kernel_rfl) (fun _ _ _ h => h) (Or.inl ⟨by rfl, ?_⟩) hHeld ?_ ?_
      rotate_left
      · rintro w' ⟨s0, s1, s2, s3, s4, s5, s6, s7, s8, s9, s10, s11, s12, s13⟩
        go_simp
        with_reducible rfl
      rotate_left
      · simp only [Act.put, List.setIfInBounds_toArray, List.set_cons_zero, List.set_cons_succ, i64_w, i32_w]
        rfl
      refine one_ (i := 4) (N := some 75) #[true, true, true, true, true, false, false, false, false, false, false] rfl rfl (by kernel_rfl) (by decide) (fun K hK => ?_)
      refine goes_ Try.func22 (by kernel_rfl) rfl #[.agg #[.int .i64 y, .int .i64 m, .int .i64 d, .int .i64 h, .int .i64 i, .int .i64 0, .int .i64 0]] (by rfl) rfl rfl (by (try simp only [List.map_toArray, List.map_cons, List.map_nil]); first | done | rfl) ?_
      with_reducible refine (civ_to_calls y m d h i 0 0 _).mono ?_
      rintro e u1 ⟨rfl, hb1⟩
      refine ⟨_, rfl, ?_⟩
      refine hK.out _ _ ⟨(pw_cell_below hb1 hHeld.1), (pw_cell_below hb1 hHeld.2.1), (pw_cell_below hb1 hHeld.2.2.1), (pw_cell_below hb1 hHeld.2.2.2.1), (pw_cell_below hb1 hHeld.2.2.2.2.1), (pw_cell_below hb1 hHeld.2.2.2.2.2.1), (pw_cell_below hb1 hHeld.2.2.2.2.2.2.1), (pw_cell_below hb1 hHeld.2.2.2.2.2.2.2.1), (pw_cell_below hb1 hHeld.2.2.2.2.2.2.2.2.1), (pw_cell_below hb1 hHeld.2.2.2.2.2.2.2.2.2.1), (pw_cell_below hb1 hHeld.2.2.2.2.2.2.2.2.2.2.1), (pw_cell_below hb1 hHeld.2.2.2.2.2.2.2.2.2.2.2.1), (pw_cell_below hb1 hHeld.2.2.2.2.2.2.2.2.2.2.2.2.1), (pw_cell_below hb1 hHeld.2.2.2.2.2.2.2.2.2.2.2.2.2)⟩ (fun hHeld => ?_)
      clear hK K
      refine norm_ (a' := ?_) ?_ ?_
      rotate_left
      · show Act.put _ (some 75) _ = _
        simp only [Act.put, List.setIfInBounds_toArray, List.set_cons_zero, List.set_cons_succ, i64_w, i32_w]
        rfl
      refine pure_ (i := 5) (N := some 76) (v := ?_) (a' := ?_) #[true, true, true, true, true, true, false, false, false, false, false] rfl rfl (by kernel_rfl) (fun _ _ _ h => h) (Or.inl ⟨by rfl, ?_⟩) ?_ ?_
      rotate_left
      · intro w'
        go_simp
        with_reducible rfl
      rotate_left
      · simp only [Act.put, List.setIfInBounds_toArray, List.set_cons_zero, List.set_cons_succ, i64_w, i32_w]
        rfl
      refine pure_ (i := 6) (N := some 77) (v := ?_) (a' := ?_) #[true, true, true, true, true, true, true, false, false, false, false] rfl rfl (by kernel_rfl) (fun _ _ _ h => h) (Or.inl ⟨by rfl, ?_⟩) ?_ ?_
      rotate_left
      · intro w'
        go_simp
        with_reducible rfl
      rotate_left
      · simp only [Act.put, List.setIfInBounds_toArray, List.set_cons_zero, List.set_cons_succ, i64_w, i32_w]
        rfl
      refine pure_ (i := 7) (N := some 78) (v := ?_) (a' := ?_) #[true, true, true, true, true, true, true, true, false, false, false] rfl rfl (by kernel_rfl) (fun _ _ _ h => h) (Or.inl ⟨by rfl, ?_⟩) ?_ ?_
      rotate_left
      · intro w'
        go_simp
        with_reducible rfl
      rotate_left
      · simp only [Act.put, List.setIfInBounds_toArray, List.set_cons_zero, List.set_cons_succ, i64_w, i32_w]
        rfl
      refine one_ (i := 8) (N := some 79) #[true, true, true, true, true, true, true, true, true, false, false] rfl rfl (by kernel_rfl) (by decide) (fun K hK => ?_)
      refine goes_ Try.func19 (by kernel_rfl) rfl #[] (by rfl) rfl rfl (by (try simp only [List.map_toArray, List.map_cons, List.map_nil]); first | done | rfl) ?_
      with_reducible refine (civ_awake_calls _).mono ?_
      rintro e u2 ⟨rfl, hb2⟩
      refine ⟨_, rfl, ?_⟩
      refine hK.out _ _ ⟨(pw_cell_below hb2 hHeld.1), (pw_cell_below hb2 hHeld.2.1), (pw_cell_below hb2 hHeld.2.2.1), (pw_cell_below hb2 hHeld.2.2.2.1), (pw_cell_below hb2 hHeld.2.2.2.2.1), (pw_cell_below hb2 hHeld.2.2.2.2.2.1), (pw_cell_below hb2 hHeld.2.2.2.2.2.2.1), (pw_cell_below hb2 hHeld.2.2.2.2.2.2.2.1), (pw_cell_below hb2 hHeld.2.2.2.2.2.2.2.2.1), (pw_cell_below hb2 hHeld.2.2.2.2.2.2.2.2.2.1), (pw_cell_below hb2 hHeld.2.2.2.2.2.2.2.2.2.2.1), (pw_cell_below hb2 hHeld.2.2.2.2.2.2.2.2.2.2.2.1), (pw_cell_below hb2 hHeld.2.2.2.2.2.2.2.2.2.2.2.2.1), (pw_cell_below hb2 hHeld.2.2.2.2.2.2.2.2.2.2.2.2.2)⟩ (fun hHeld => ?_)
      clear hK K
      refine norm_ (a' := ?_) ?_ ?_
      rotate_left
      · show Act.put _ (some 79) _ = _
        simp only [Act.put, List.setIfInBounds_toArray, List.set_cons_zero, List.set_cons_succ, i64_w, i32_w]
        rfl
      refine pure_ (i := 9) (N := some 80) (v := ?_) (a' := ?_) #[true, true, true, true, true, true, true, true, true, true, false] rfl rfl (by kernel_rfl) (fun _ _ _ h => h) (Or.inl ⟨by rfl, ?_⟩) ?_ ?_
      rotate_left
      · intro w'
        go_simp
        with_reducible rfl
      rotate_left
      · simp only [Act.put, List.setIfInBounds_toArray, List.set_cons_zero, List.set_cons_succ, i64_w, i32_w]
        rfl
      refine pure_ (i := 10) (N := some 4) (v := ?_) (a' := ?_) #[true, true, true, true, true, true, true, true, true, true, true] rfl rfl (by kernel_rfl) (fun _ _ _ h => h) (Or.inl ⟨by rfl, ?_⟩) ?_ ?_
      rotate_left
      · intro w'
        go_simp
        with_reducible rfl
      rotate_left
      · simp only [Act.put, List.setIfInBounds_toArray, List.set_cons_zero, List.set_cons_succ, i64_w, i32_w]
        rfl
      refine done_ (by kernel_rfl) ?_
      have HBE := Aside0.mk (below_step (below_step (below_drew HB.out) hb1) hb2)
      clear hb1 hb2 a0 c0 a1 c1 a2 c2 a3 c3 a4 c4 a5 c5 a6 c6
      go_wp2_with fail
      go_ret
      exact ⟨rfl, HBE.out⟩
set_option maxHeartbeats 8000000 in
set_option maxRecDepth 100000 in
theorem CivilTexts_2 (y m d h i s u cut : Int) (w : World) (hr : rightB y m d h i s u = true) (hc : cut % 4 = 2) (c0 : 0 ≤ cut) (c1 : cut ≤ 255) :
    Calls Try.prog 8 #[.agg #[.int .i64 y, .int .i64 m, .int .i64 d, .int .i64 h, .int .i64 i, .int .i64 s, .int .i64 u], .int .u8 cut] w fun e w' => e = .returned (.bool true) ∧ Below w.heap.size w w' := by
  have HR := Aside0.mk hr
  have HX0 := Aside0.mk (blk_new w (.cells #[.int .i64 y, .int .i64 m, .int .i64 d, .int .i64 h, .int .i64 i, .int .i64 s, .int .i64 u] 31))
  have HB0 := Aside0.mk (below_alloc (Below.refl w.heap.size w) (.cells #[.int .i64 y, .int .i64 m, .int .i64 d, .int .i64 h, .int .i64 i, .int .i64 s, .int .i64 u] 31))
  have hq : (cut : Int).tmod 4 = 2 := by rw [Int.tmod_eq_emod_of_nonneg c0]; exact hc
  obtain ⟨S, hS⟩ : ∃ S, textS y m d h i s u = S := ⟨_, rfl⟩
  have hsz : S.size = 26 := by rw [← hS]; exact textS_size y m d h i s u
  have hSb : bytesOf S = textL y m d h i s u := by rw [← hS, textS, bytesOf_strOf (textL_isB hr)]
  have HPV := Aside0.mk (show parV (bytesOf (S.extract 0 19)) = .tuple #[.agg #[.int .i64 y, .int .i64 m, .int .i64 d, .int .i64 h, .int .i64 i, .int .i64 s, .int .i64 0], .bool true] by
    rw [take_bytes hSb]
    exact par_text (right_cut hr).2.2 (by rw [List.length_take, textL_len]; rfl) (text_cut2 y m d h i s u))
  have HCV := Aside0.mk (show arrV (cutF 6 [y, m, d, h, i, s, u] 7) = #[.int .i64 y, .int .i64 m, .int .i64 d, .int .i64 h, .int .i64 i, .int .i64 s, .int .i64 0] from rfl)
  have HC0 := Aside0.mk (show arrV (cutF 6 [y, m, d, h, i, s, u] 0) = #[.int .i64 y, .int .i64 m, .int .i64 d, .int .i64 h, .int .i64 i, .int .i64 s, .int .i64 u] from rfl)
  have HS := Aside0.mk hS
  have ss : (S.toList == S.toList) = true := by simp
  have sn : (S.toList != S.toList) = false := by simp
  clear hr hS hSb
  have z0 : (w.alloc (.cells #[.int .i64 y, .int .i64 m, .int .i64 d, .int .i64 h, .int .i64 i, .int .i64 s, .int .i64 u] 31)).cell? ⟨w.heap.size, 0, none⟩ = some (.int .i64 y) := blk_cell HX0.out 0
  have z1 : (w.alloc (.cells #[.int .i64 y, .int .i64 m, .int .i64 d, .int .i64 h, .int .i64 i, .int .i64 s, .int .i64 u] 31)).cell? ⟨w.heap.size, 1, none⟩ = some (.int .i64 m) := blk_cell HX0.out 1
  have z2 : (w.alloc (.cells #[.int .i64 y, .int .i64 m, .int .i64 d, .int .i64 h, .int .i64 i, .int .i64 s, .int .i64 u] 31)).cell? ⟨w.heap.size, 2, none⟩ = some (.int .i64 d) := blk_cell HX0.out 2
  have z3 : (w.alloc (.cells #[.int .i64 y, .int .i64 m, .int .i64 d, .int .i64 h, .int .i64 i, .int .i64 s, .int .i64 u] 31)).cell? ⟨w.heap.size, 3, none⟩ = some (.int .i64 h) := blk_cell HX0.out 3
  have z4 : (w.alloc (.cells #[.int .i64 y, .int .i64 m, .int .i64 d, .int .i64 h, .int .i64 i, .int .i64 s, .int .i64 u] 31)).cell? ⟨w.heap.size, 4, none⟩ = some (.int .i64 i) := blk_cell HX0.out 4
  have z5 : (w.alloc (.cells #[.int .i64 y, .int .i64 m, .int .i64 d, .int .i64 h, .int .i64 i, .int .i64 s, .int .i64 u] 31)).cell? ⟨w.heap.size, 5, none⟩ = some (.int .i64 s) := blk_cell HX0.out 5
  have z6 : (w.alloc (.cells #[.int .i64 y, .int .i64 m, .int .i64 d, .int .i64 h, .int .i64 i, .int .i64 s, .int .i64 u] 31)).cell? ⟨w.heap.size, 6, none⟩ = some (.int .i64 u) := blk_cell HX0.out 6
  go_enter Try.func8, Try.ntmps8
  go_wp2_with fail
  refine (ref_Right_calls y m d h i s u _).mono ?_
  rintro e w1 ⟨rfl, hb⟩
  have HB1 := Aside0.mk (below_step HB0.out hb)
  have HX1 := Aside0.mk (blk_below HX0.out hb)
  clear hb z0 z1 z2 z3 z4 z5 z6
  rw [HR.out]
  have z0 : (w1).cell? ⟨w.heap.size, 0, none⟩ = some (.int .i64 y) := blk_cell HX1.out 0
  have z1 : (w1).cell? ⟨w.heap.size, 1, none⟩ = some (.int .i64 m) := blk_cell HX1.out 1
  have z2 : (w1).cell? ⟨w.heap.size, 2, none⟩ = some (.int .i64 d) := blk_cell HX1.out 2
  have z3 : (w1).cell? ⟨w.heap.size, 3, none⟩ = some (.int .i64 h) := blk_cell HX1.out 3
  have z4 : (w1).cell? ⟨w.heap.size, 4, none⟩ = some (.int .i64 i) := blk_cell HX1.out 4
  have z5 : (w1).cell? ⟨w.heap.size, 5, none⟩ = some (.int .i64 s) := blk_cell HX1.out 5
  have z6 : (w1).cell? ⟨w.heap.size, 6, none⟩ = some (.int .i64 u) := blk_cell HX1.out 6
  go_wp2_with fail
  refine (civ_to_calls y m d h i s u _).mono ?_
  rintro e w2 ⟨rfl, hb⟩
  have HB2 := Aside0.mk (below_step HB1.out hb)
  have HX2 := Aside0.mk (blk_below HX1.out hb)
  clear hb z0 z1 z2 z3 z4 z5 z6
  have z0 : (w2).cell? ⟨w.heap.size, 0, none⟩ = some (.int .i64 y) := blk_cell HX2.out 0
  have z1 : (w2).cell? ⟨w.heap.size, 1, none⟩ = some (.int .i64 m) := blk_cell HX2.out 1
  have z2 : (w2).cell? ⟨w.heap.size, 2, none⟩ = some (.int .i64 d) := blk_cell HX2.out 2
  have z3 : (w2).cell? ⟨w.heap.size, 3, none⟩ = some (.int .i64 h) := blk_cell HX2.out 3
  have z4 : (w2).cell? ⟨w.heap.size, 4, none⟩ = some (.int .i64 i) := blk_cell HX2.out 4
  have z5 : (w2).cell? ⟨w.heap.size, 5, none⟩ = some (.int .i64 s) := blk_cell HX2.out 5
  have z6 : (w2).cell? ⟨w.heap.size, 6, none⟩ = some (.int .i64 u) := blk_cell HX2.out 6
  go_wp2_with fail
  refine (civil_Text_calls y m d h i s u _ HR.out).mono ?_
  rintro e w3 ⟨rfl, hb⟩
  rw [HS.out]
  have HB3 := Aside0.mk (below_alloc (below_step HB2.out hb) (.cells #[.int .i64 10, .int .i64 16, .int .i64 19, .int .i64 26] 3))
  have HX3 := Aside0.mk (blk_alloc (blk_below HX2.out hb) (.cells #[.int .i64 10, .int .i64 16, .int .i64 19, .int .i64 26] 3))
  clear hb z0 z1 z2 z3 z4 z5 z6
  have z0 : (w3.alloc (.cells #[.int .i64 10, .int .i64 16, .int .i64 19, .int .i64 26] 3)).cell? ⟨w.heap.size, 0, none⟩ = some (.int .i64 y) := blk_cell HX3.out 0
  have z1 : (w3.alloc (.cells #[.int .i64 10, .int .i64 16, .int .i64 19, .int .i64 26] 3)).cell? ⟨w.heap.size, 1, none⟩ = some (.int .i64 m) := blk_cell HX3.out 1
  have z2 : (w3.alloc (.cells #[.int .i64 10, .int .i64 16, .int .i64 19, .int .i64 26] 3)).cell? ⟨w.heap.size, 2, none⟩ = some (.int .i64 d) := blk_cell HX3.out 2
  have z3 : (w3.alloc (.cells #[.int .i64 10, .int .i64 16, .int .i64 19, .int .i64 26] 3)).cell? ⟨w.heap.size, 3, none⟩ = some (.int .i64 h) := blk_cell HX3.out 3
  have z4 : (w3.alloc (.cells #[.int .i64 10, .int .i64 16, .int .i64 19, .int .i64 26] 3)).cell? ⟨w.heap.size, 4, none⟩ = some (.int .i64 i) := blk_cell HX3.out 4
  have z5 : (w3.alloc (.cells #[.int .i64 10, .int .i64 16, .int .i64 19, .int .i64 26] 3)).cell? ⟨w.heap.size, 5, none⟩ = some (.int .i64 s) := blk_cell HX3.out 5
  have z6 : (w3.alloc (.cells #[.int .i64 10, .int .i64 16, .int .i64 19, .int .i64 26] 3)).cell? ⟨w.heap.size, 6, none⟩ = some (.int .i64 u) := blk_cell HX3.out 6
  go_wp2_with fail
  refine (ref_Text_calls y m d h i s u _ HR.out).mono ?_
  rintro e w4 ⟨rfl, hb⟩
  have HB4 := Aside0.mk (below_step HB3.out hb)
  have HX4 := Aside0.mk (blk_below HX3.out hb)
  clear hb z0 z1 z2 z3 z4 z5 z6
  rw [HS.out]
  have z0 : (w4).cell? ⟨w.heap.size, 0, none⟩ = some (.int .i64 y) := blk_cell HX4.out 0
  have z1 : (w4).cell? ⟨w.heap.size, 1, none⟩ = some (.int .i64 m) := blk_cell HX4.out 1
  have z2 : (w4).cell? ⟨w.heap.size, 2, none⟩ = some (.int .i64 d) := blk_cell HX4.out 2
  have z3 : (w4).cell? ⟨w.heap.size, 3, none⟩ = some (.int .i64 h) := blk_cell HX4.out 3
  have z4 : (w4).cell? ⟨w.heap.size, 4, none⟩ = some (.int .i64 i) := blk_cell HX4.out 4
  have z5 : (w4).cell? ⟨w.heap.size, 5, none⟩ = some (.int .i64 s) := blk_cell HX4.out 5
  have z6 : (w4).cell? ⟨w.heap.size, 6, none⟩ = some (.int .i64 u) := blk_cell HX4.out 6
  go_wp2_with fail
  refine (civil_Parse_calls (S.extract 0 19) _ (by rw [ByteArray.size_extract]; omega)).mono ?_
  rintro e w5 ⟨rfl, hb⟩
  rw [HPV.out]
  have HB5 := Aside0.mk (below_alloc (below_step HB4.out hb) (.cells #[.int .i64 y, .int .i64 m, .int .i64 d, .int .i64 h, .int .i64 i, .int .i64 s, .int .i64 0] 28))
  have HX5 := Aside0.mk (blk_alloc (blk_below HX4.out hb) (.cells #[.int .i64 y, .int .i64 m, .int .i64 d, .int .i64 h, .int .i64 i, .int .i64 s, .int .i64 0] 28))
  have HV5 := Aside0.mk (blk_new w5 (.cells #[.int .i64 y, .int .i64 m, .int .i64 d, .int .i64 h, .int .i64 i, .int .i64 s, .int .i64 0] 28))
  clear hb z0 z1 z2 z3 z4 z5 z6
  have HY6 := Aside0.mk (blk_new (w5.alloc (.cells #[.int .i64 y, .int .i64 m, .int .i64 d, .int .i64 h, .int .i64 i, .int .i64 s, .int .i64 0] 28)) (.cells #[.int .i64 y, .int .i64 m, .int .i64 d, .int .i64 h, .int .i64 i, .int .i64 s, .int .i64 u] 31))
  rw [show (w5.alloc (.cells #[.int .i64 y, .int .i64 m, .int .i64 d, .int .i64 h, .int .i64 i, .int .i64 s, .int .i64 0] 28)).heap.size = w5.heap.size + 1 from Array.size_push _] at HY6
  have HV6 := Aside0.mk (blk_alloc HV5.out (.cells #[.int .i64 y, .int .i64 m, .int .i64 d, .int .i64 h, .int .i64 i, .int .i64 s, .int .i64 u] 31))
  have HB6 := Aside0.mk (below_alloc HB5.out (.cells #[.int .i64 y, .int .i64 m, .int .i64 d, .int .i64 h, .int .i64 i, .int .i64 s, .int .i64 u] 31))
  have hwp : w.heap.size ≤ w5.heap.size := HB5.out.size |> fun h => by have := HX5.out; have h2 := HV5.out; have h3 := (HB4.out.size); have h4 := blk_lt HX4.out; exact Nat.le_of_lt_succ (by have h5 := blk_lt HX5.out; simp at h5; omega)
  have z0 : (w5.alloc (.cells #[.int .i64 y, .int .i64 m, .int .i64 d, .int .i64 h, .int .i64 i, .int .i64 s, .int .i64 0] 28)).cell? ⟨w.heap.size, 0, none⟩ = some (.int .i64 y) := blk_cell HX5.out 0
  have z1 : (w5.alloc (.cells #[.int .i64 y, .int .i64 m, .int .i64 d, .int .i64 h, .int .i64 i, .int .i64 s, .int .i64 0] 28)).cell? ⟨w.heap.size, 1, none⟩ = some (.int .i64 m) := blk_cell HX5.out 1
  have z2 : (w5.alloc (.cells #[.int .i64 y, .int .i64 m, .int .i64 d, .int .i64 h, .int .i64 i, .int .i64 s, .int .i64 0] 28)).cell? ⟨w.heap.size, 2, none⟩ = some (.int .i64 d) := blk_cell HX5.out 2
  have z3 : (w5.alloc (.cells #[.int .i64 y, .int .i64 m, .int .i64 d, .int .i64 h, .int .i64 i, .int .i64 s, .int .i64 0] 28)).cell? ⟨w.heap.size, 3, none⟩ = some (.int .i64 h) := blk_cell HX5.out 3
  have z4 : (w5.alloc (.cells #[.int .i64 y, .int .i64 m, .int .i64 d, .int .i64 h, .int .i64 i, .int .i64 s, .int .i64 0] 28)).cell? ⟨w.heap.size, 4, none⟩ = some (.int .i64 i) := blk_cell HX5.out 4
  have z5 : (w5.alloc (.cells #[.int .i64 y, .int .i64 m, .int .i64 d, .int .i64 h, .int .i64 i, .int .i64 s, .int .i64 0] 28)).cell? ⟨w.heap.size, 5, none⟩ = some (.int .i64 s) := blk_cell HX5.out 5
  have z6 : (w5.alloc (.cells #[.int .i64 y, .int .i64 m, .int .i64 d, .int .i64 h, .int .i64 i, .int .i64 s, .int .i64 0] 28)).cell? ⟨w.heap.size, 6, none⟩ = some (.int .i64 u) := blk_cell HX5.out 6
  go_wp2_with fail
  go_loopw [10] (fun v10 w' => ∃ n : Nat, n ≤ 7 ∧ v10 = .int .i64 n ∧ Aside0 (w'.heap[w5.heap.size + 1]? = some (.cells (arrV (cutF 6 [y, m, d, h, i, s, u] n)) 31 (0, 0))) ∧ Aside0 (w'.heap[w5.heap.size]? = some (.cells #[.int .i64 y, .int .i64 m, .int .i64 d, .int .i64 h, .int .i64 i, .int .i64 s, .int .i64 0] 28 (0, 0))) ∧ Aside0 (Below w.heap.size w w')) (fun v10 _ => 7 - (intOf v10).toNat)
  case atStart => exact ⟨0, by omega, rfl, ⟨by rw [HC0.out]; exact HY6.out⟩, HV6, HB6⟩
  case round =>
    clear HY6 HV6 HB6 z0 z1 z2 z3 z4 z5 z6
    obtain ⟨n, hn, rfl, HY, HV, HB⟩ := hrel
    by_cases k1 : n < 7
    · have t33 : decide ((n : Int) < 7) = true := by simp; omega
      by_cases k2 : 6 ≤ n
      · have z9 := (blk_cell HY.out n).trans (arrV_get _ n k1)
        have f9 := blk_frozen HY.out n
        obtain ⟨x, hx⟩ : ∃ x, cutF 6 [y, m, d, h, i, s, u] n n = x := ⟨_, rfl⟩
        rw [hx] at z9
        clear hx
        have t34 : decide ((5 : Int) < (n : Int)) = true := by simp; omega
        have i0 : (0 : Int) ≤ (n : Int) := by omega
        have i7 : (n : Int) < 7 := by omega
        have HE := Aside0.mk (show (wr.setCell ⟨w5.heap.size + 1, n, none⟩ (.int .i64 0)).heap[w5.heap.size + 1]? = some (.cells (arrV (cutF 6 [y, m, d, h, i, s, u] (n + 1))) 31 (0, 0)) by
          rw [blk_set HY.out n (.int .i64 0), arrV_set _ (cutF 6 [y, m, d, h, i, s, u] (n + 1)) n k1 0 (cutF_at (by omega)) (fun j hj => cutF_else hj)])
        have HV2 := Aside0.mk (blk_far HV.out (p := ⟨w5.heap.size + 1, n, none⟩) (by show w5.heap.size ≠ w5.heap.size + 1; omega) (.int .i64 0))
        have HB2 := Aside0.mk (cbelow_set HB.out ⟨w5.heap.size + 1, n, none⟩ (by show w.heap.size ≤ w5.heap.size + 1; omega) (.int .i64 0))
        go_wp2_with fail
        go_roundw
        case rel => exact ⟨n + 1, by omega, by go_num, HE, HV2, HB2⟩
        case measure => simp [intOf] <;> omega
      · have t34 : decide ((5 : Int) < (n : Int)) = false := by simp; omega
        have HE := Aside0.mk (show wr.heap[w5.heap.size + 1]? = some (.cells (arrV (cutF 6 [y, m, d, h, i, s, u] (n + 1))) 31 (0, 0)) by rw [cutF_same (by omega)]; exact HY.out)
        go_wp2_with fail
        go_roundw
        case rel => exact ⟨n + 1, by omega, by go_num, HE, HV, HB⟩
        case measure => simp [intOf] <;> omega
    · obtain rfl : n = 7 := by omega
      have HY7 := Aside0.mk (show wr.heap[w5.heap.size + 1]? = some (.cells #[.int .i64 y, .int .i64 m, .int .i64 d, .int .i64 h, .int .i64 i, .int .i64 s, .int .i64 0] 31 (0, 0)) by rw [← HCV.out]; exact HY.out)
      clear k1
      go_wp2_with fail
      have a0 : (wr).cell? ⟨w5.heap.size, 0, none⟩ = some (.int .i64 y) := blk_cell HV.out 0
      have a1 : (wr).cell? ⟨w5.heap.size, 1, none⟩ = some (.int .i64 m) := blk_cell HV.out 1
      have a2 : (wr).cell? ⟨w5.heap.size, 2, none⟩ = some (.int .i64 d) := blk_cell HV.out 2
      have a3 : (wr).cell? ⟨w5.heap.size, 3, none⟩ = some (.int .i64 h) := blk_cell HV.out 3
      have a4 : (wr).cell? ⟨w5.heap.size, 4, none⟩ = some (.int .i64 i) := blk_cell HV.out 4
      have a5 : (wr).cell? ⟨w5.heap.size, 5, none⟩ = some (.int .i64 s) := blk_cell HV.out 5
      have a6 : (wr).cell? ⟨w5.heap.size, 6, none⟩ = some (.int .i64 0) := blk_cell HV.out 6
      have c0 : (wr).cell? ⟨w5.heap.size + 1, 0, none⟩ = some (.int .i64 y) := blk_cell HY7.out 0
      have c1 : (wr).cell? ⟨w5.heap.size + 1, 1, none⟩ = some (.int .i64 m) := blk_cell HY7.out 1
      have c2 : (wr).cell? ⟨w5.heap.size + 1, 2, none⟩ = some (.int .i64 d) := blk_cell HY7.out 2
      have c3 : (wr).cell? ⟨w5.heap.size + 1, 3, none⟩ = some (.int .i64 h) := blk_cell HY7.out 3
      have c4 : (wr).cell? ⟨w5.heap.size + 1, 4, none⟩ = some (.int .i64 i) := blk_cell HY7.out 4
      have c5 : (wr).cell? ⟨w5.heap.size + 1, 5, none⟩ = some (.int .i64 s) := blk_cell HY7.out 5
      have c6 : (wr).cell? ⟨w5.heap.size + 1, 6, none⟩ = some (.int .i64 0) := blk_cell HY7.out 6
      refine start_ (n := 11) (S := fun w' => w'.cell? ⟨w5.heap.size, 0, none⟩ = some (.int .i64 y) ∧ w'.cell? ⟨w5.heap.size, 1, none⟩ = some (.int .i64 m) ∧ w'.cell? ⟨w5.heap.size, 2, none⟩ = some (.int .i64 d) ∧ w'.cell? ⟨w5.heap.size, 3, none⟩ = some (.int .i64 h) ∧ w'.cell? ⟨w5.heap.size, 4, none⟩ = some (.int .i64 i) ∧ w'.cell? ⟨w5.heap.size, 5, none⟩ = some (.int .i64 s) ∧ w'.cell? ⟨w5.heap.size, 6, none⟩ = some (.int .i64 0) ∧ w'.cell? ⟨w5.heap.size + 1, 0, none⟩ = some (.int .i64 y) ∧ w'.cell? ⟨w5.heap.size + 1, 1, none⟩ = some (.int .i64 m) ∧ w'.cell? ⟨w5.heap.size + 1, 2, none⟩ = some (.int .i64 d) ∧ w'.cell? ⟨w5.heap.size + 1, 3, none⟩ = some (.int .i64 h) ∧ w'.cell? ⟨w5.heap.size + 1, 4, none⟩ = some (.int .i64 i) ∧ w'.cell? ⟨w5.heap.size + 1, 5, none⟩ = some (.int .i64 s) ∧ w'.cell? ⟨w5.heap.size + 1, 6, none⟩ = some (.int .i64 0)) (ds := []) #[false, false, false, false, false, false, false, false, false, false, false] (by kernel_rfl) rfl rfl ⟨a0, a1, a2, a3, a4, a5, a6, c0, c1, c2, c3, c4, c5, c6⟩ (fun hHeld => ?_)
      refine pure_ (i := 0) (N := some 71) (v := ?_) (a' := ?_) #[true, false, false, false, false, false, false, false, false, false, false] rfl rfl (by kernel_rfl) (fun _ _ _ h => h) (Or.inl ⟨by rfl, ?_⟩) ?_ ?_
      rotate_left
      · intro w'
        go_simp
        with_reducible rfl
      rotate_left
      · simp only [Act.put, List.setIfInBounds_toArray, List.set_cons_zero, List.set_cons_succ, i64_w, i32_w]
        rfl
      refine pure_ (i := 1) (N := some 72) (v := ?_) (a' := ?_) #[true, true, false, false, false, false, false, false, false, false, false] rfl rfl (by kernel_rfl) (fun _ _ _ h => h) (Or.inl ⟨by rfl, ?_⟩) ?_ ?_
      rotate_left
      · intro w'
        go_simp
        with_reducible rfl
      rotate_left
      · simp only [Act.put, List.setIfInBounds_toArray, List.set_cons_zero, List.set_cons_succ, i64_w, i32_w]
        rfl
      refine take_ (i := 2) (N := some 73) (v := ?_) (a' := ?_) #[true, true, true, false, false, false, false, false, false, false, false] rfl rfl (by kernel_rfl) (fun _ _ _ h => h) (Or.inl ⟨by rfl, ?_⟩) hHeld ?_ ?_
      rotate_left
      · rintro w' ⟨s0, s1, s2, s3, s4, s5, s6, s7, s8, s9, s10, s11, s12, s13⟩
        go_simp
        with_reducible rfl
      rotate_left
      · simp only [Act.put, List.setIfInBounds_toArray, List.set_cons_zero, List.set_cons_succ, i64_w, i32_w]
        rfl
      refine take_ (i := 3) (N := some 74) (v := ?_) (a' := ?_) #[true, true, true, true, false, false, false, false, false, false, false] rfl rfl (by kernel_rfl) (fun _ _ _ h => h) (Or.inl ⟨by rfl, ?_⟩) hHeld ?_ ?_
      rotate_left
      · rintro w' ⟨s0, s1, s2, s3, s4, s5, s6, s7, s8, s9, s10, s11, s12, s13⟩
        go_simp
        with_reducible rfl
      rotate_left
      · simp only [Act.put, List.setIfInBounds_toArray, List.set_cons_zero, List.set_cons_succ, i64_w, i32_w]
        rfl
      refine one_ (i := 4) (N := some 75) #[true, true, true, true, true, false, false, false, false, false, false] rfl rfl (by kernel_rfl) (by decide) (fun K hK => ?_)
      refine goes_ Try.func22 (by kernel_rfl) rfl #[.agg #[.int .i64 y, .int .i64 m, .int .i64 d, .int .i64 h, .int .i64 i, .int .i64 s, .int .i64 0]] (by rfl) rfl rfl (by (try simp only [List.map_toArray, List.map_cons, List.map_nil]); first | done | rfl) ?_
      with_reducible refine (civ_to_calls y m d h i s 0 _).mono ?_
      rintro e u1 ⟨rfl, hb1⟩
      refine ⟨_, rfl, ?_⟩
      refine hK.out _ _ ⟨(pw_cell_below hb1 hHeld.1), (pw_cell_below hb1 hHeld.2.1), (pw_cell_below hb1 hHeld.2.2.1), (pw_cell_below hb1 hHeld.2.2.2.1), (pw_cell_below hb1 hHeld.2.2.2.2.1), (pw_cell_below hb1 hHeld.2.2.2.2.2.1), (pw_cell_below hb1 hHeld.2.2.2.2.2.2.1), (pw_cell_below hb1 hHeld.2.2.2.2.2.2.2.1), (pw_cell_below hb1 hHeld.2.2.2.2.2.2.2.2.1), (pw_cell_below hb1 hHeld.2.2.2.2.2.2.2.2.2.1), (pw_cell_below hb1 hHeld.2.2.2.2.2.2.2.2.2.2.1), (pw_cell_below hb1 hHeld.2.2.2.2.2.2.2.2.2.2.2.1), (pw_cell_below hb1 hHeld.2.2.2.2.2.2.2.2.2.2.2.2.1), (pw_cell_below hb1 hHeld.2.2.2.2.2.2.2.2.2.2.2.2.2)⟩ (fun hHeld => ?_)
      clear hK K
      refine norm_ (a' := ?_) ?_ ?_
      rotate_left
      · show Act.put _ (some 75) _ = _
        simp only [Act.put, List.setIfInBounds_toArray, List.set_cons_zero, List.set_cons_succ, i64_w, i32_w]
        rfl
      refine pure_ (i := 5) (N := some 76) (v := ?_) (a' := ?_) #[true, true, true, true, true, true, false, false, false, false, false] rfl rfl (by kernel_rfl) (fun _ _ _ h => h) (Or.inl ⟨by rfl, ?_⟩) ?_ ?_
      rotate_left
      · intro w'
        go_simp
        with_reducible rfl
      rotate_left
      · simp only [Act.put, List.setIfInBounds_toArray, List.set_cons_zero, List.set_cons_succ, i64_w, i32_w]
        rfl
      refine pure_ (i := 6) (N := some 77) (v := ?_) (a' := ?_) #[true, true, true, true, true, true, true, false, false, false, false] rfl rfl (by kernel_rfl) (fun _ _ _ h => h) (Or.inl ⟨by rfl, ?_⟩) ?_ ?_
      rotate_left
      · intro w'
        go_simp
        with_reducible rfl
      rotate_left
      · simp only [Act.put, List.setIfInBounds_toArray, List.set_cons_zero, List.set_cons_succ, i64_w, i32_w]
        rfl
      refine pure_ (i := 7) (N := some 78) (v := ?_) (a' := ?_) #[true, true, true, true, true, true, true, true, false, false, false] rfl rfl (by kernel_rfl) (fun _ _ _ h => h) (Or.inl ⟨by rfl, ?_⟩) ?_ ?_
      rotate_left
      · intro w'
        go_simp
        with_reducible rfl
      rotate_left
      · simp only [Act.put, List.setIfInBounds_toArray, List.set_cons_zero, List.set_cons_succ, i64_w, i32_w]
        rfl
      refine one_ (i := 8) (N := some 79) #[true, true, true, true, true, true, true, true, true, false, false] rfl rfl (by kernel_rfl) (by decide) (fun K hK => ?_)
      refine goes_ Try.func19 (by kernel_rfl) rfl #[] (by rfl) rfl rfl (by (try simp only [List.map_toArray, List.map_cons, List.map_nil]); first | done | rfl) ?_
      with_reducible refine (civ_awake_calls _).mono ?_
      rintro e u2 ⟨rfl, hb2⟩
      refine ⟨_, rfl, ?_⟩
      refine hK.out _ _ ⟨(pw_cell_below hb2 hHeld.1), (pw_cell_below hb2 hHeld.2.1), (pw_cell_below hb2 hHeld.2.2.1), (pw_cell_below hb2 hHeld.2.2.2.1), (pw_cell_below hb2 hHeld.2.2.2.2.1), (pw_cell_below hb2 hHeld.2.2.2.2.2.1), (pw_cell_below hb2 hHeld.2.2.2.2.2.2.1), (pw_cell_below hb2 hHeld.2.2.2.2.2.2.2.1), (pw_cell_below hb2 hHeld.2.2.2.2.2.2.2.2.1), (pw_cell_below hb2 hHeld.2.2.2.2.2.2.2.2.2.1), (pw_cell_below hb2 hHeld.2.2.2.2.2.2.2.2.2.2.1), (pw_cell_below hb2 hHeld.2.2.2.2.2.2.2.2.2.2.2.1), (pw_cell_below hb2 hHeld.2.2.2.2.2.2.2.2.2.2.2.2.1), (pw_cell_below hb2 hHeld.2.2.2.2.2.2.2.2.2.2.2.2.2)⟩ (fun hHeld => ?_)
      clear hK K
      refine norm_ (a' := ?_) ?_ ?_
      rotate_left
      · show Act.put _ (some 79) _ = _
        simp only [Act.put, List.setIfInBounds_toArray, List.set_cons_zero, List.set_cons_succ, i64_w, i32_w]
        rfl
      refine pure_ (i := 9) (N := some 80) (v := ?_) (a' := ?_) #[true, true, true, true, true, true, true, true, true, true, false] rfl rfl (by kernel_rfl) (fun _ _ _ h => h) (Or.inl ⟨by rfl, ?_⟩) ?_ ?_
      rotate_left
      · intro w'
        go_simp
        with_reducible rfl
      rotate_left
      · simp only [Act.put, List.setIfInBounds_toArray, List.set_cons_zero, List.set_cons_succ, i64_w, i32_w]
        rfl
      refine pure_ (i := 10) (N := some 4) (v := ?_) (a' := ?_) #[true, true, true, true, true, true, true, true, true, true, true] rfl rfl (by kernel_rfl) (fun _ _ _ h => h) (Or.inl ⟨by rfl, ?_⟩) ?_ ?_
      rotate_left
      · intro w'
        go_simp
        with_reducible rfl
      rotate_left
      · simp only [Act.put, List.setIfInBounds_toArray, List.set_cons_zero, List.set_cons_succ, i64_w, i32_w]
        rfl
      refine done_ (by kernel_rfl) ?_
      have HBE := Aside0.mk (below_step (below_step (below_drew HB.out) hb1) hb2)
      clear hb1 hb2 a0 c0 a1 c1 a2 c2 a3 c3 a4 c4 a5 c5 a6 c6
      go_wp2_with fail
      go_ret
      exact ⟨rfl, HBE.out⟩
set_option maxHeartbeats 8000000 in
set_option maxRecDepth 100000 in
theorem CivilTexts_3 (y m d h i s u cut : Int) (w : World) (hr : rightB y m d h i s u = true) (hc : cut % 4 = 3) (c0 : 0 ≤ cut) (c1 : cut ≤ 255) :
    Calls Try.prog 8 #[.agg #[.int .i64 y, .int .i64 m, .int .i64 d, .int .i64 h, .int .i64 i, .int .i64 s, .int .i64 u], .int .u8 cut] w fun e w' => e = .returned (.bool true) ∧ Below w.heap.size w w' := by
  have HR := Aside0.mk hr
  have HX0 := Aside0.mk (blk_new w (.cells #[.int .i64 y, .int .i64 m, .int .i64 d, .int .i64 h, .int .i64 i, .int .i64 s, .int .i64 u] 31))
  have HB0 := Aside0.mk (below_alloc (Below.refl w.heap.size w) (.cells #[.int .i64 y, .int .i64 m, .int .i64 d, .int .i64 h, .int .i64 i, .int .i64 s, .int .i64 u] 31))
  have hq : (cut : Int).tmod 4 = 3 := by rw [Int.tmod_eq_emod_of_nonneg c0]; exact hc
  obtain ⟨S, hS⟩ : ∃ S, textS y m d h i s u = S := ⟨_, rfl⟩
  have hsz : S.size = 26 := by rw [← hS]; exact textS_size y m d h i s u
  have hSb : bytesOf S = textL y m d h i s u := by rw [← hS, textS, bytesOf_strOf (textL_isB hr)]
  have HPV := Aside0.mk (show parV (bytesOf (S.extract 0 26)) = .tuple #[.agg #[.int .i64 y, .int .i64 m, .int .i64 d, .int .i64 h, .int .i64 i, .int .i64 s, .int .i64 u], .bool true] by
    rw [take_bytes hSb]
    exact par_text hr (by rw [List.length_take, textL_len]; rfl) (text_cut3 y m d h i s u))
  have HCV := Aside0.mk (show arrV (cutF 7 [y, m, d, h, i, s, u] 7) = #[.int .i64 y, .int .i64 m, .int .i64 d, .int .i64 h, .int .i64 i, .int .i64 s, .int .i64 u] from rfl)
  have HC0 := Aside0.mk (show arrV (cutF 7 [y, m, d, h, i, s, u] 0) = #[.int .i64 y, .int .i64 m, .int .i64 d, .int .i64 h, .int .i64 i, .int .i64 s, .int .i64 u] from rfl)
  have HS := Aside0.mk hS
  have ss : (S.toList == S.toList) = true := by simp
  have sn : (S.toList != S.toList) = false := by simp
  clear hr hS hSb
  have z0 : (w.alloc (.cells #[.int .i64 y, .int .i64 m, .int .i64 d, .int .i64 h, .int .i64 i, .int .i64 s, .int .i64 u] 31)).cell? ⟨w.heap.size, 0, none⟩ = some (.int .i64 y) := blk_cell HX0.out 0
  have z1 : (w.alloc (.cells #[.int .i64 y, .int .i64 m, .int .i64 d, .int .i64 h, .int .i64 i, .int .i64 s, .int .i64 u] 31)).cell? ⟨w.heap.size, 1, none⟩ = some (.int .i64 m) := blk_cell HX0.out 1
  have z2 : (w.alloc (.cells #[.int .i64 y, .int .i64 m, .int .i64 d, .int .i64 h, .int .i64 i, .int .i64 s, .int .i64 u] 31)).cell? ⟨w.heap.size, 2, none⟩ = some (.int .i64 d) := blk_cell HX0.out 2
  have z3 : (w.alloc (.cells #[.int .i64 y, .int .i64 m, .int .i64 d, .int .i64 h, .int .i64 i, .int .i64 s, .int .i64 u] 31)).cell? ⟨w.heap.size, 3, none⟩ = some (.int .i64 h) := blk_cell HX0.out 3
  have z4 : (w.alloc (.cells #[.int .i64 y, .int .i64 m, .int .i64 d, .int .i64 h, .int .i64 i, .int .i64 s, .int .i64 u] 31)).cell? ⟨w.heap.size, 4, none⟩ = some (.int .i64 i) := blk_cell HX0.out 4
  have z5 : (w.alloc (.cells #[.int .i64 y, .int .i64 m, .int .i64 d, .int .i64 h, .int .i64 i, .int .i64 s, .int .i64 u] 31)).cell? ⟨w.heap.size, 5, none⟩ = some (.int .i64 s) := blk_cell HX0.out 5
  have z6 : (w.alloc (.cells #[.int .i64 y, .int .i64 m, .int .i64 d, .int .i64 h, .int .i64 i, .int .i64 s, .int .i64 u] 31)).cell? ⟨w.heap.size, 6, none⟩ = some (.int .i64 u) := blk_cell HX0.out 6
  go_enter Try.func8, Try.ntmps8
  go_wp2_with fail
  refine (ref_Right_calls y m d h i s u _).mono ?_
  rintro e w1 ⟨rfl, hb⟩
  have HB1 := Aside0.mk (below_step HB0.out hb)
  have HX1 := Aside0.mk (blk_below HX0.out hb)
  clear hb z0 z1 z2 z3 z4 z5 z6
  rw [HR.out]
  have z0 : (w1).cell? ⟨w.heap.size, 0, none⟩ = some (.int .i64 y) := blk_cell HX1.out 0
  have z1 : (w1).cell? ⟨w.heap.size, 1, none⟩ = some (.int .i64 m) := blk_cell HX1.out 1
  have z2 : (w1).cell? ⟨w.heap.size, 2, none⟩ = some (.int .i64 d) := blk_cell HX1.out 2
  have z3 : (w1).cell? ⟨w.heap.size, 3, none⟩ = some (.int .i64 h) := blk_cell HX1.out 3
  have z4 : (w1).cell? ⟨w.heap.size, 4, none⟩ = some (.int .i64 i) := blk_cell HX1.out 4
  have z5 : (w1).cell? ⟨w.heap.size, 5, none⟩ = some (.int .i64 s) := blk_cell HX1.out 5
  have z6 : (w1).cell? ⟨w.heap.size, 6, none⟩ = some (.int .i64 u) := blk_cell HX1.out 6
  go_wp2_with fail
  refine (civ_to_calls y m d h i s u _).mono ?_
  rintro e w2 ⟨rfl, hb⟩
  have HB2 := Aside0.mk (below_step HB1.out hb)
  have HX2 := Aside0.mk (blk_below HX1.out hb)
  clear hb z0 z1 z2 z3 z4 z5 z6
  have z0 : (w2).cell? ⟨w.heap.size, 0, none⟩ = some (.int .i64 y) := blk_cell HX2.out 0
  have z1 : (w2).cell? ⟨w.heap.size, 1, none⟩ = some (.int .i64 m) := blk_cell HX2.out 1
  have z2 : (w2).cell? ⟨w.heap.size, 2, none⟩ = some (.int .i64 d) := blk_cell HX2.out 2
  have z3 : (w2).cell? ⟨w.heap.size, 3, none⟩ = some (.int .i64 h) := blk_cell HX2.out 3
  have z4 : (w2).cell? ⟨w.heap.size, 4, none⟩ = some (.int .i64 i) := blk_cell HX2.out 4
  have z5 : (w2).cell? ⟨w.heap.size, 5, none⟩ = some (.int .i64 s) := blk_cell HX2.out 5
  have z6 : (w2).cell? ⟨w.heap.size, 6, none⟩ = some (.int .i64 u) := blk_cell HX2.out 6
  go_wp2_with fail
  refine (civil_Text_calls y m d h i s u _ HR.out).mono ?_
  rintro e w3 ⟨rfl, hb⟩
  rw [HS.out]
  have HB3 := Aside0.mk (below_alloc (below_step HB2.out hb) (.cells #[.int .i64 10, .int .i64 16, .int .i64 19, .int .i64 26] 3))
  have HX3 := Aside0.mk (blk_alloc (blk_below HX2.out hb) (.cells #[.int .i64 10, .int .i64 16, .int .i64 19, .int .i64 26] 3))
  clear hb z0 z1 z2 z3 z4 z5 z6
  have z0 : (w3.alloc (.cells #[.int .i64 10, .int .i64 16, .int .i64 19, .int .i64 26] 3)).cell? ⟨w.heap.size, 0, none⟩ = some (.int .i64 y) := blk_cell HX3.out 0
  have z1 : (w3.alloc (.cells #[.int .i64 10, .int .i64 16, .int .i64 19, .int .i64 26] 3)).cell? ⟨w.heap.size, 1, none⟩ = some (.int .i64 m) := blk_cell HX3.out 1
  have z2 : (w3.alloc (.cells #[.int .i64 10, .int .i64 16, .int .i64 19, .int .i64 26] 3)).cell? ⟨w.heap.size, 2, none⟩ = some (.int .i64 d) := blk_cell HX3.out 2
  have z3 : (w3.alloc (.cells #[.int .i64 10, .int .i64 16, .int .i64 19, .int .i64 26] 3)).cell? ⟨w.heap.size, 3, none⟩ = some (.int .i64 h) := blk_cell HX3.out 3
  have z4 : (w3.alloc (.cells #[.int .i64 10, .int .i64 16, .int .i64 19, .int .i64 26] 3)).cell? ⟨w.heap.size, 4, none⟩ = some (.int .i64 i) := blk_cell HX3.out 4
  have z5 : (w3.alloc (.cells #[.int .i64 10, .int .i64 16, .int .i64 19, .int .i64 26] 3)).cell? ⟨w.heap.size, 5, none⟩ = some (.int .i64 s) := blk_cell HX3.out 5
  have z6 : (w3.alloc (.cells #[.int .i64 10, .int .i64 16, .int .i64 19, .int .i64 26] 3)).cell? ⟨w.heap.size, 6, none⟩ = some (.int .i64 u) := blk_cell HX3.out 6
  go_wp2_with fail
  refine (ref_Text_calls y m d h i s u _ HR.out).mono ?_
  rintro e w4 ⟨rfl, hb⟩
  have HB4 := Aside0.mk (below_step HB3.out hb)
  have HX4 := Aside0.mk (blk_below HX3.out hb)
  clear hb z0 z1 z2 z3 z4 z5 z6
  rw [HS.out]
  have z0 : (w4).cell? ⟨w.heap.size, 0, none⟩ = some (.int .i64 y) := blk_cell HX4.out 0
  have z1 : (w4).cell? ⟨w.heap.size, 1, none⟩ = some (.int .i64 m) := blk_cell HX4.out 1
  have z2 : (w4).cell? ⟨w.heap.size, 2, none⟩ = some (.int .i64 d) := blk_cell HX4.out 2
  have z3 : (w4).cell? ⟨w.heap.size, 3, none⟩ = some (.int .i64 h) := blk_cell HX4.out 3
  have z4 : (w4).cell? ⟨w.heap.size, 4, none⟩ = some (.int .i64 i) := blk_cell HX4.out 4
  have z5 : (w4).cell? ⟨w.heap.size, 5, none⟩ = some (.int .i64 s) := blk_cell HX4.out 5
  have z6 : (w4).cell? ⟨w.heap.size, 6, none⟩ = some (.int .i64 u) := blk_cell HX4.out 6
  go_wp2_with fail
  refine (civil_Parse_calls (S.extract 0 26) _ (by rw [ByteArray.size_extract]; omega)).mono ?_
  rintro e w5 ⟨rfl, hb⟩
  rw [HPV.out]
  have HB5 := Aside0.mk (below_alloc (below_step HB4.out hb) (.cells #[.int .i64 y, .int .i64 m, .int .i64 d, .int .i64 h, .int .i64 i, .int .i64 s, .int .i64 u] 28))
  have HX5 := Aside0.mk (blk_alloc (blk_below HX4.out hb) (.cells #[.int .i64 y, .int .i64 m, .int .i64 d, .int .i64 h, .int .i64 i, .int .i64 s, .int .i64 u] 28))
  have HV5 := Aside0.mk (blk_new w5 (.cells #[.int .i64 y, .int .i64 m, .int .i64 d, .int .i64 h, .int .i64 i, .int .i64 s, .int .i64 u] 28))
  clear hb z0 z1 z2 z3 z4 z5 z6
  have HY6 := Aside0.mk (blk_new (w5.alloc (.cells #[.int .i64 y, .int .i64 m, .int .i64 d, .int .i64 h, .int .i64 i, .int .i64 s, .int .i64 u] 28)) (.cells #[.int .i64 y, .int .i64 m, .int .i64 d, .int .i64 h, .int .i64 i, .int .i64 s, .int .i64 u] 31))
  rw [show (w5.alloc (.cells #[.int .i64 y, .int .i64 m, .int .i64 d, .int .i64 h, .int .i64 i, .int .i64 s, .int .i64 u] 28)).heap.size = w5.heap.size + 1 from Array.size_push _] at HY6
  have HV6 := Aside0.mk (blk_alloc HV5.out (.cells #[.int .i64 y, .int .i64 m, .int .i64 d, .int .i64 h, .int .i64 i, .int .i64 s, .int .i64 u] 31))
  have HB6 := Aside0.mk (below_alloc HB5.out (.cells #[.int .i64 y, .int .i64 m, .int .i64 d, .int .i64 h, .int .i64 i, .int .i64 s, .int .i64 u] 31))
  have hwp : w.heap.size ≤ w5.heap.size := HB5.out.size |> fun h => by have := HX5.out; have h2 := HV5.out; have h3 := (HB4.out.size); have h4 := blk_lt HX4.out; exact Nat.le_of_lt_succ (by have h5 := blk_lt HX5.out; simp at h5; omega)
  have z0 : (w5.alloc (.cells #[.int .i64 y, .int .i64 m, .int .i64 d, .int .i64 h, .int .i64 i, .int .i64 s, .int .i64 u] 28)).cell? ⟨w.heap.size, 0, none⟩ = some (.int .i64 y) := blk_cell HX5.out 0
  have z1 : (w5.alloc (.cells #[.int .i64 y, .int .i64 m, .int .i64 d, .int .i64 h, .int .i64 i, .int .i64 s, .int .i64 u] 28)).cell? ⟨w.heap.size, 1, none⟩ = some (.int .i64 m) := blk_cell HX5.out 1
  have z2 : (w5.alloc (.cells #[.int .i64 y, .int .i64 m, .int .i64 d, .int .i64 h, .int .i64 i, .int .i64 s, .int .i64 u] 28)).cell? ⟨w.heap.size, 2, none⟩ = some (.int .i64 d) := blk_cell HX5.out 2
  have z3 : (w5.alloc (.cells #[.int .i64 y, .int .i64 m, .int .i64 d, .int .i64 h, .int .i64 i, .int .i64 s, .int .i64 u] 28)).cell? ⟨w.heap.size, 3, none⟩ = some (.int .i64 h) := blk_cell HX5.out 3
  have z4 : (w5.alloc (.cells #[.int .i64 y, .int .i64 m, .int .i64 d, .int .i64 h, .int .i64 i, .int .i64 s, .int .i64 u] 28)).cell? ⟨w.heap.size, 4, none⟩ = some (.int .i64 i) := blk_cell HX5.out 4
  have z5 : (w5.alloc (.cells #[.int .i64 y, .int .i64 m, .int .i64 d, .int .i64 h, .int .i64 i, .int .i64 s, .int .i64 u] 28)).cell? ⟨w.heap.size, 5, none⟩ = some (.int .i64 s) := blk_cell HX5.out 5
  have z6 : (w5.alloc (.cells #[.int .i64 y, .int .i64 m, .int .i64 d, .int .i64 h, .int .i64 i, .int .i64 s, .int .i64 u] 28)).cell? ⟨w.heap.size, 6, none⟩ = some (.int .i64 u) := blk_cell HX5.out 6
  go_wp2_with fail
  go_loopw [10] (fun v10 w' => ∃ n : Nat, n ≤ 7 ∧ v10 = .int .i64 n ∧ Aside0 (w'.heap[w5.heap.size + 1]? = some (.cells (arrV (cutF 7 [y, m, d, h, i, s, u] n)) 31 (0, 0))) ∧ Aside0 (w'.heap[w5.heap.size]? = some (.cells #[.int .i64 y, .int .i64 m, .int .i64 d, .int .i64 h, .int .i64 i, .int .i64 s, .int .i64 u] 28 (0, 0))) ∧ Aside0 (Below w.heap.size w w')) (fun v10 _ => 7 - (intOf v10).toNat)
  case atStart => exact ⟨0, by omega, rfl, ⟨by rw [HC0.out]; exact HY6.out⟩, HV6, HB6⟩
  case round =>
    clear HY6 HV6 HB6 z0 z1 z2 z3 z4 z5 z6
    obtain ⟨n, hn, rfl, HY, HV, HB⟩ := hrel
    by_cases k1 : n < 7
    · have t33 : decide ((n : Int) < 7) = true := by simp; omega
      have HE := Aside0.mk (show wr.heap[w5.heap.size + 1]? = some (.cells (arrV (cutF 7 [y, m, d, h, i, s, u] (n + 1))) 31 (0, 0)) by rw [cutF_same (by omega)]; exact HY.out)
      go_wp2_with fail
      go_roundw
      case rel => exact ⟨n + 1, by omega, by go_num, HE, HV, HB⟩
      case measure => simp [intOf] <;> omega
    · obtain rfl : n = 7 := by omega
      have HY7 := Aside0.mk (show wr.heap[w5.heap.size + 1]? = some (.cells #[.int .i64 y, .int .i64 m, .int .i64 d, .int .i64 h, .int .i64 i, .int .i64 s, .int .i64 u] 31 (0, 0)) by rw [← HCV.out]; exact HY.out)
      clear k1
      go_wp2_with fail
      have a0 : (wr).cell? ⟨w5.heap.size, 0, none⟩ = some (.int .i64 y) := blk_cell HV.out 0
      have a1 : (wr).cell? ⟨w5.heap.size, 1, none⟩ = some (.int .i64 m) := blk_cell HV.out 1
      have a2 : (wr).cell? ⟨w5.heap.size, 2, none⟩ = some (.int .i64 d) := blk_cell HV.out 2
      have a3 : (wr).cell? ⟨w5.heap.size, 3, none⟩ = some (.int .i64 h) := blk_cell HV.out 3
      have a4 : (wr).cell? ⟨w5.heap.size, 4, none⟩ = some (.int .i64 i) := blk_cell HV.out 4
      have a5 : (wr).cell? ⟨w5.heap.size, 5, none⟩ = some (.int .i64 s) := blk_cell HV.out 5
      have a6 : (wr).cell? ⟨w5.heap.size, 6, none⟩ = some (.int .i64 u) := blk_cell HV.out 6
      have c0 : (wr).cell? ⟨w5.heap.size + 1, 0, none⟩ = some (.int .i64 y) := blk_cell HY7.out 0
      have c1 : (wr).cell? ⟨w5.heap.size + 1, 1, none⟩ = some (.int .i64 m) := blk_cell HY7.out 1
      have c2 : (wr).cell? ⟨w5.heap.size + 1, 2, none⟩ = some (.int .i64 d) := blk_cell HY7.out 2
      have c3 : (wr).cell? ⟨w5.heap.size + 1, 3, none⟩ = some (.int .i64 h) := blk_cell HY7.out 3
      have c4 : (wr).cell? ⟨w5.heap.size + 1, 4, none⟩ = some (.int .i64 i) := blk_cell HY7.out 4
      have c5 : (wr).cell? ⟨w5.heap.size + 1, 5, none⟩ = some (.int .i64 s) := blk_cell HY7.out 5
      have c6 : (wr).cell? ⟨w5.heap.size + 1, 6, none⟩ = some (.int .i64 u) := blk_cell HY7.out 6
      refine start_ (n := 11) (S := fun w' => w'.cell? ⟨w5.heap.size, 0, none⟩ = some (.int .i64 y) ∧ w'.cell? ⟨w5.heap.size, 1, none⟩ = some (.int .i64 m) ∧ w'.cell? ⟨w5.heap.size, 2, none⟩ = some (.int .i64 d) ∧ w'.cell? ⟨w5.heap.size, 3, none⟩ = some (.int .i64 h) ∧ w'.cell? ⟨w5.heap.size, 4, none⟩ = some (.int .i64 i) ∧ w'.cell? ⟨w5.heap.size, 5, none⟩ = some (.int .i64 s) ∧ w'.cell? ⟨w5.heap.size, 6, none⟩ = some (.int .i64 u) ∧ w'.cell? ⟨w5.heap.size + 1, 0, none⟩ = some (.int .i64 y) ∧ w'.cell? ⟨w5.heap.size + 1, 1, none⟩ = some (.int .i64 m) ∧ w'.cell? ⟨w5.heap.size + 1, 2, none⟩ = some (.int .i64 d) ∧ w'.cell? ⟨w5.heap.size + 1, 3, none⟩ = some (.int .i64 h) ∧ w'.cell? ⟨w5.heap.size + 1, 4, none⟩ = some (.int .i64 i) ∧ w'.cell? ⟨w5.heap.size + 1, 5, none⟩ = some (.int .i64 s) ∧ w'.cell? ⟨w5.heap.size + 1, 6, none⟩ = some (.int .i64 u)) (ds := []) #[false, false, false, false, false, false, false, false, false, false, false] (by kernel_rfl) rfl rfl ⟨a0, a1, a2, a3, a4, a5, a6, c0, c1, c2, c3, c4, c5, c6⟩ (fun hHeld => ?_)
      refine pure_ (i := 0) (N := some 71) (v := ?_) (a' := ?_) #[true, false, false, false, false, false, false, false, false, false, false] rfl rfl (by kernel_rfl) (fun _ _ _ h => h) (Or.inl ⟨by rfl, ?_⟩) ?_ ?_
      rotate_left
      · intro w'
        go_simp
        with_reducible rfl
      rotate_left
      · simp only [Act.put, List.setIfInBounds_toArray, List.set_cons_zero, List.set_cons_succ, i64_w, i32_w]
        rfl
      refine pure_ (i := 1) (N := some 72) (v := ?_) (a' := ?_) #[true, true, false, false, false, false, false, false, false, false, false] rfl rfl (by kernel_rfl) (fun _ _ _ h => h) (Or.inl ⟨by rfl, ?_⟩) ?_ ?_
      rotate_left
      · intro w'
        go_simp
        with_reducible rfl
      rotate_left
      · simp only [Act.put, List.setIfInBounds_toArray, List.set_cons_zero, List.set_cons_succ, i64_w, i32_w]
        rfl
      refine take_ (i := 2) (N := some 73) (v := ?_) (a' := ?_) #[true, true, true, false, false, false, false, false, false, false, false] rfl rfl (by kernel_rfl) (fun _ _ _ h => h) (Or.inl ⟨by rfl, ?_⟩) hHeld ?_ ?_
      rotate_left
      · rintro w' ⟨s0, s1, s2, s3, s4, s5, s6, s7, s8, s9, s10, s11, s12, s13⟩
        go_simp
        with_reducible rfl
      rotate_left
      · simp only [Act.put, List.setIfInBounds_toArray, List.set_cons_zero, List.set_cons_succ, i64_w, i32_w]
        rfl
      refine take_ (i := 3) (N := some 74) (v := ?_) (a' := ?_) #[true, true, true, true, false, false, false, false, false, false, false] rfl rfl (by kernel_rfl) (fun _ _ _ h => h) (Or.inl ⟨by rfl, ?_⟩) hHeld ?_ ?_
      rotate_left
      · rintro w' ⟨s0, s1, s2, s3, s4, s5, s6, s7, s8, s9, s10, s11, s12, s13⟩
        go_simp
        with_reducible rfl
      rotate_left
      · simp only [Act.put, List.setIfInBounds_toArray, List.set_cons_zero, List.set_cons_succ, i64_w, i32_w]
        rfl
      refine one_ (i := 4) (N := some 75) #[true, true, true, true, true, false, false, false, false, false, false] rfl rfl (by kernel_rfl) (by decide) (fun K hK => ?_)
      refine goes_ Try.func22 (by kernel_rfl) rfl #[.agg #[.int .i64 y, .int .i64 m, .int .i64 d, .int .i64 h, .int .i64 i, .int .i64 s, .int .i64 u]] (by rfl) rfl rfl (by (try simp only [List.map_toArray, List.map_cons, List.map_nil]); first | done | rfl) ?_
      with_reducible refine (civ_to_calls y m d h i s u _).mono ?_
      rintro e u1 ⟨rfl, hb1⟩
      refine ⟨_, rfl, ?_⟩
      refine hK.out _ _ ⟨(pw_cell_below hb1 hHeld.1), (pw_cell_below hb1 hHeld.2.1), (pw_cell_below hb1 hHeld.2.2.1), (pw_cell_below hb1 hHeld.2.2.2.1), (pw_cell_below hb1 hHeld.2.2.2.2.1), (pw_cell_below hb1 hHeld.2.2.2.2.2.1), (pw_cell_below hb1 hHeld.2.2.2.2.2.2.1), (pw_cell_below hb1 hHeld.2.2.2.2.2.2.2.1), (pw_cell_below hb1 hHeld.2.2.2.2.2.2.2.2.1), (pw_cell_below hb1 hHeld.2.2.2.2.2.2.2.2.2.1), (pw_cell_below hb1 hHeld.2.2.2.2.2.2.2.2.2.2.1), (pw_cell_below hb1 hHeld.2.2.2.2.2.2.2.2.2.2.2.1), (pw_cell_below hb1 hHeld.2.2.2.2.2.2.2.2.2.2.2.2.1), (pw_cell_below hb1 hHeld.2.2.2.2.2.2.2.2.2.2.2.2.2)⟩ (fun hHeld => ?_)
      clear hK K
      refine norm_ (a' := ?_) ?_ ?_
      rotate_left
      · show Act.put _ (some 75) _ = _
        simp only [Act.put, List.setIfInBounds_toArray, List.set_cons_zero, List.set_cons_succ, i64_w, i32_w]
        rfl
      refine pure_ (i := 5) (N := some 76) (v := ?_) (a' := ?_) #[true, true, true, true, true, true, false, false, false, false, false] rfl rfl (by kernel_rfl) (fun _ _ _ h => h) (Or.inl ⟨by rfl, ?_⟩) ?_ ?_
      rotate_left
      · intro w'
        go_simp
        with_reducible rfl
      rotate_left
      · simp only [Act.put, List.setIfInBounds_toArray, List.set_cons_zero, List.set_cons_succ, i64_w, i32_w]
        rfl
      refine pure_ (i := 6) (N := some 77) (v := ?_) (a' := ?_) #[true, true, true, true, true, true, true, false, false, false, false] rfl rfl (by kernel_rfl) (fun _ _ _ h => h) (Or.inl ⟨by rfl, ?_⟩) ?_ ?_
      rotate_left
      · intro w'
        go_simp
        with_reducible rfl
      rotate_left
      · simp only [Act.put, List.setIfInBounds_toArray, List.set_cons_zero, List.set_cons_succ, i64_w, i32_w]
        rfl
      refine pure_ (i := 7) (N := some 78) (v := ?_) (a' := ?_) #[true, true, true, true, true, true, true, true, false, false, false] rfl rfl (by kernel_rfl) (fun _ _ _ h => h) (Or.inl ⟨by rfl, ?_⟩) ?_ ?_
      rotate_left
      · intro w'
        go_simp
        with_reducible rfl
      rotate_left
      · simp only [Act.put, List.setIfInBounds_toArray, List.set_cons_zero, List.set_cons_succ, i64_w, i32_w]
        rfl
      refine one_ (i := 8) (N := some 79) #[true, true, true, true, true, true, true, true, true, false, false] rfl rfl (by kernel_rfl) (by decide) (fun K hK => ?_)
      refine goes_ Try.func19 (by kernel_rfl) rfl #[] (by rfl) rfl rfl (by (try simp only [List.map_toArray, List.map_cons, List.map_nil]); first | done | rfl) ?_
      with_reducible refine (civ_awake_calls _).mono ?_
      rintro e u2 ⟨rfl, hb2⟩
      refine ⟨_, rfl, ?_⟩
      refine hK.out _ _ ⟨(pw_cell_below hb2 hHeld.1), (pw_cell_below hb2 hHeld.2.1), (pw_cell_below hb2 hHeld.2.2.1), (pw_cell_below hb2 hHeld.2.2.2.1), (pw_cell_below hb2 hHeld.2.2.2.2.1), (pw_cell_below hb2 hHeld.2.2.2.2.2.1), (pw_cell_below hb2 hHeld.2.2.2.2.2.2.1), (pw_cell_below hb2 hHeld.2.2.2.2.2.2.2.1), (pw_cell_below hb2 hHeld.2.2.2.2.2.2.2.2.1), (pw_cell_below hb2 hHeld.2.2.2.2.2.2.2.2.2.1), (pw_cell_below hb2 hHeld.2.2.2.2.2.2.2.2.2.2.1), (pw_cell_below hb2 hHeld.2.2.2.2.2.2.2.2.2.2.2.1), (pw_cell_below hb2 hHeld.2.2.2.2.2.2.2.2.2.2.2.2.1), (pw_cell_below hb2 hHeld.2.2.2.2.2.2.2.2.2.2.2.2.2)⟩ (fun hHeld => ?_)
      clear hK K
      refine norm_ (a' := ?_) ?_ ?_
      rotate_left
      · show Act.put _ (some 79) _ = _
        simp only [Act.put, List.setIfInBounds_toArray, List.set_cons_zero, List.set_cons_succ, i64_w, i32_w]
        rfl
      refine pure_ (i := 9) (N := some 80) (v := ?_) (a' := ?_) #[true, true, true, true, true, true, true, true, true, true, false] rfl rfl (by kernel_rfl) (fun _ _ _ h => h) (Or.inl ⟨by rfl, ?_⟩) ?_ ?_
      rotate_left
      · intro w'
        go_simp
        with_reducible rfl
      rotate_left
      · simp only [Act.put, List.setIfInBounds_toArray, List.set_cons_zero, List.set_cons_succ, i64_w, i32_w]
        rfl
      refine pure_ (i := 10) (N := some 4) (v := ?_) (a' := ?_) #[true, true, true, true, true, true, true, true, true, true, true] rfl rfl (by kernel_rfl) (fun _ _ _ h => h) (Or.inl ⟨by rfl, ?_⟩) ?_ ?_
      rotate_left
      · intro w'
        go_simp
        with_reducible rfl
      rotate_left
      · simp only [Act.put, List.setIfInBounds_toArray, List.set_cons_zero, List.set_cons_succ, i64_w, i32_w]
        rfl
      refine done_ (by kernel_rfl) ?_
      have HBE := Aside0.mk (below_step (below_step (below_drew HB.out) hb1) hb2)
      clear hb1 hb2 a0 c0 a1 c1 a2 c2 a3 c3 a4 c4 a5 c5 a6 c6
      go_wp2_with fail
      go_ret
      exact ⟨rfl, HBE.out⟩


set_option maxHeartbeats 8000000 in
set_option maxRecDepth 100000 in
theorem CivilTexts_far (y m d h i s u cut : Int) (w : World) (hr : rightB y m d h i s u = false) :
    Calls Try.prog 8 #[.agg #[.int .i64 y, .int .i64 m, .int .i64 d, .int .i64 h, .int .i64 i, .int .i64 s, .int .i64 u], .int .u8 cut] w fun e w' => e = .returned (.bool true) ∧ Below w.heap.size w w' := by
  have HR := Aside0.mk hr
  have HX0 := Aside0.mk (blk_new w (.cells #[.int .i64 y, .int .i64 m, .int .i64 d, .int .i64 h, .int .i64 i, .int .i64 s, .int .i64 u] 31))
  clear hr
  have z0 : (w.alloc (.cells #[.int .i64 y, .int .i64 m, .int .i64 d, .int .i64 h, .int .i64 i, .int .i64 s, .int .i64 u] 31)).cell? ⟨w.heap.size, 0, none⟩ = some (.int .i64 y) := blk_cell HX0.out 0
  have z1 : (w.alloc (.cells #[.int .i64 y, .int .i64 m, .int .i64 d, .int .i64 h, .int .i64 i, .int .i64 s, .int .i64 u] 31)).cell? ⟨w.heap.size, 1, none⟩ = some (.int .i64 m) := blk_cell HX0.out 1
  have z2 : (w.alloc (.cells #[.int .i64 y, .int .i64 m, .int .i64 d, .int .i64 h, .int .i64 i, .int .i64 s, .int .i64 u] 31)).cell? ⟨w.heap.size, 2, none⟩ = some (.int .i64 d) := blk_cell HX0.out 2
  have z3 : (w.alloc (.cells #[.int .i64 y, .int .i64 m, .int .i64 d, .int .i64 h, .int .i64 i, .int .i64 s, .int .i64 u] 31)).cell? ⟨w.heap.size, 3, none⟩ = some (.int .i64 h) := blk_cell HX0.out 3
  have z4 : (w.alloc (.cells #[.int .i64 y, .int .i64 m, .int .i64 d, .int .i64 h, .int .i64 i, .int .i64 s, .int .i64 u] 31)).cell? ⟨w.heap.size, 4, none⟩ = some (.int .i64 i) := blk_cell HX0.out 4
  have z5 : (w.alloc (.cells #[.int .i64 y, .int .i64 m, .int .i64 d, .int .i64 h, .int .i64 i, .int .i64 s, .int .i64 u] 31)).cell? ⟨w.heap.size, 5, none⟩ = some (.int .i64 s) := blk_cell HX0.out 5
  have z6 : (w.alloc (.cells #[.int .i64 y, .int .i64 m, .int .i64 d, .int .i64 h, .int .i64 i, .int .i64 s, .int .i64 u] 31)).cell? ⟨w.heap.size, 6, none⟩ = some (.int .i64 u) := blk_cell HX0.out 6
  go_enter Try.func8, Try.ntmps8
  go_wp2_with fail
  refine (ref_Right_calls y m d h i s u _).mono ?_
  rintro e w1 ⟨rfl, hb⟩
  have HB1 := Aside0.mk (below_step (below_alloc (Below.refl w.heap.size w) (.cells #[.int .i64 y, .int .i64 m, .int .i64 d, .int .i64 h, .int .i64 i, .int .i64 s, .int .i64 u] 31)) hb)
  clear hb
  rw [HR.out]
  go_wp2_with fail
  refine (civ_awake_calls _).mono ?_
  rintro e w2 ⟨rfl, hb⟩
  have HB2 := Aside0.mk (below_step HB1.out hb)
  clear hb
  go_wp2_with fail
  go_ret
  exact ⟨rfl, HB2.out⟩

theorem CivilTexts_walk (y m d h i s u cut : Int) (w : World) (w1 : (Lit.int .u8 cut).wf = true) :
    Calls Try.prog 8 #[.agg #[.int .i64 y, .int .i64 m, .int .i64 d, .int .i64 h, .int .i64 i, .int .i64 s, .int .i64 u], .int .u8 cut] w fun e w' => e = .returned (.bool true) ∧ Below w.heap.size w w' := by
  obtain ⟨c0, c1⟩ := bounds_u8 w1
  cases hr : rightB y m d h i s u
  · exact CivilTexts_far y m d h i s u cut w hr
  · have hc : cut % 4 = 0 ∨ cut % 4 = 1 ∨ cut % 4 = 2 ∨ cut % 4 = 3 := by omega
    rcases hc with hc | hc | hc | hc
    · exact CivilTexts_0 y m d h i s u cut w hr hc c0 c1
    · exact CivilTexts_1 y m d h i s u cut w hr hc c0 c1
    · exact CivilTexts_2 y m d h i s u cut w hr hc c0 c1
    · exact CivilTexts_3 y m d h i s u cut w hr hc c0 c1
end Go.Proofs.Ytekbidjfddanhaa
