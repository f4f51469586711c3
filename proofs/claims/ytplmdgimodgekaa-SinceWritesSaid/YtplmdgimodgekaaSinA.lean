/- SinceSpans: the examples, the walk. -/
import Derived.Test.YtplmdgimodgekaaSinR
namespace Go.Proofs.Ytplmdgimodgekaa
open Go.RowKit Go.Proofs.YtplmdgimodgekaaW.PrintWords Go.Proofs.YtplmdgimodgekaaW.PrintLast Go.Proofs.YtplmdgimodgekaaW.PrintMore
attribute [local go_sem] max2_int min2_int max_two min_two max_three min_three max_four min_four   -- for this text's walks alone
set_option linter.unusedVariables false
set_option linter.unusedSimpArgs false

theorem sp_1h30 : spanP [49, 104, 51, 48, 109, 105, 110] = some 5400000000 := by decide +kernel
theorem sp_2d : spanP [50, 100] = some 172800000000 := by decide +kernel
set_option maxHeartbeats 8000000 in
set_option maxRecDepth 100000 in
theorem back_calls (a b : Int) (w : World) (a0 : 0 ≤ a) (a1 : a ≤ 18446744073709551615) (b0 : 0 ≤ b) (b1 : b ≤ 18446744073709551615) :
    Calls Try.prog 74 #[.int .u64 a, .int .u64 b] w fun e w' => e = .returned (.int .u64 (if a < b then 0 else a - b)) ∧ w = w' := by
  by_cases h : a < b
  · rw [if_pos h]
    clear a1 b1
    go_enter Try.func74, Try.ntmps74
    go_wp2_with fail
    go_ret
    exact ⟨rfl, rfl⟩
  · have hw : IntKind.u64.wrap (a - b) = a - b := by rw [IntKind.wrap_u64]; omega
    rw [if_neg h]
    clear a1 b1
    go_enter Try.func74, Try.ntmps74
    go_wp2_with fail
    go_ret
    exact ⟨rfl, rfl⟩
set_option maxHeartbeats 8000000 in
set_option maxRecDepth 100000 in
theorem Parse_2d (w : World) :
    Calls Try.prog 29 #[.string ⟨#[45, 50, 100]⟩, .int .u64 259200000000] w fun e w' => e = .returned (.tuple #[.int .u64 86400000000, .bool true]) ∧ Below w.heap.size w w' := by
  rw [show (⟨#[45, 50, 100]⟩ : ByteArray) = strOfNums [45, 50, 100] from rfl]
  have hs : (strOfNums [45, 50, 100]).size = 3 := rfl
  have x1 : (strOfNums [45, 50, 100]).extract 0 1 = ⟨#[45]⟩ := rfl
  have x2 : (strOfNums [45, 50, 100]).extract 1 3 = strOfNums [50, 100] := rfl
  have C1 := Aside0.mk (fun w => Span_calls [50, 100] w (fun x hx => by simp at hx; omega) (by decide))
  rw [spV_some sp_2d] at C1
  obtain ⟨T, hT⟩ : ∃ T, strOfNums [50, 100] = T := ⟨_, rfl⟩
  rw [hT] at x2 C1
  have f1 := lit_ne (l := [45, 50, 100]) (c := [110, 111, 119]) (fun x hx => by simp at hx; omega) (fun x hx => by simp at hx; omega) (by decide) (C := [110, 111, 119]) rfl
  have f2 := lit_ne (l := [45, 50, 100]) (c := [116, 111, 100, 97, 121]) (fun x hx => by simp at hx; omega) (fun x hx => by simp at hx; omega) (by decide) (C := [116, 111, 100, 97, 121]) rfl
  have f3 := lit_ne (l := [45, 50, 100]) (c := [121, 101, 115, 116, 101, 114, 100, 97, 121]) (fun x hx => by simp at hx; omega) (fun x hx => by simp at hx; omega) (by decide) (C := [121, 101, 115, 116, 101, 114, 100, 97, 121]) rfl
  have f4 := lit_ne (l := [45, 50, 100]) (c := [116, 111, 109, 111, 114, 114, 111, 119]) (fun x hx => by simp at hx; omega) (fun x hx => by simp at hx; omega) (by decide) (C := [116, 111, 109, 111, 114, 114, 111, 119]) rfl
  obtain ⟨S, hS⟩ : ∃ S, strOfNums [45, 50, 100] = S := ⟨_, rfl⟩
  rw [hS] at hs x1 x2 f1 f2 f3 f4 ⊢
  clear hT hS
  go_enter Try.func29, Try.ntmps29
  go_wp2_with fail
  go_quiet (fail)
  go_wp2_with fail
  refine (C1.out _).mono ?_
  rintro _ w1 ⟨rfl, hb⟩
  have HB := Aside0.mk (below_step (pw_below_drewN (Below.refl _ _) _) hb)
  clear hb
  go_wp2_with fail
  refine (back_calls 259200000000 172800000000 _ (by decide) (by decide) (by decide) (by decide)).mono ?_
  rintro _ w2 ⟨rfl, rfl⟩
  rw [show (if (259200000000 : Int) < 172800000000 then (0 : Int) else 259200000000 - 172800000000) = 86400000000 from by decide]
  go_wp2_with fail
  go_ret2
  exact ⟨rfl, HB.out⟩
set_option maxHeartbeats 8000000 in
set_option maxRecDepth 100000 in
theorem since_awake (w : World) : Calls Try.prog 26 #[] w fun e w' => e = .returned (.bool true) ∧ Below w.heap.size w w' := by
  have C1 := Aside0.mk (fun w => Span_calls [49, 104, 51, 48, 109, 105, 110] w (fun x hx => by simp at hx; omega) (by decide))
  rw [spV_some sp_1h30, show strOfNums [49, 104, 51, 48, 109, 105, 110] = (⟨#[49, 104, 51, 48, 109, 105, 110]⟩ : ByteArray) from rfl] at C1
  go_enter Try.func26, Try.ntmps26
  go_wp2_with fail
  refine (C1.out _).mono ?_
  rintro _ w1 ⟨rfl, hb⟩
  have HB := Aside0.mk hb
  clear hb
  go_wp2_with fail
  refine (Parse_2d _).mono ?_
  rintro _ w2 ⟨rfl, hb⟩
  replace HB := Aside0.mk (below_step HB.out hb)
  clear hb
  go_wp2_with fail
  go_ret
  exact ⟨rfl, HB.out⟩
set_option maxHeartbeats 8000000 in
set_option maxRecDepth 100000 in
theorem SinceSpans_calls (l : List Int) (w : World) (hl : isB l) (hm : l.length ≤ 140737488351232) :
    Calls Try.prog 7 #[.string (strOfNums l)] w fun e w' => e = .returned (.bool true) ∧ Below w.heap.size w w' := by
  have hs := strOf_size l
  obtain ⟨n, hn⟩ : ∃ n, l.length = n := ⟨_, rfl⟩
  rw [hn] at hs hm
  by_cases c1 : 500 < n
  · obtain ⟨S, hS⟩ : ∃ S, strOfNums l = S := ⟨_, rfl⟩
    rw [hS] at hs ⊢
    clear hS hl hn
    go_enter Try.func7, Try.ntmps7
    go_wp2_with fail
    refine (since_awake _).mono ?_
    rintro _ w1 ⟨rfl, hb⟩
    have HB := Aside0.mk hb
    clear hb
    go_wp2_with fail
    go_ret
    exact ⟨rfl, HB.out⟩
  · have C1 := Aside0.mk (fun w => Span_calls l w hl (by omega))
    have C2 := Aside0.mk (fun w => ref_Span_calls l w hl (by omega))
    rw [spV] at C1 C2
    obtain ⟨x, ex⟩ : ∃ x, (spanP l).getD 0 = x := ⟨_, rfl⟩
    obtain ⟨b, eb⟩ : ∃ x, (spanP l).isSome = x := ⟨_, rfl⟩
    rw [ex, eb] at C1 C2
    obtain ⟨S, hS⟩ : ∃ S, strOfNums l = S := ⟨_, rfl⟩
    rw [hS] at hs C1 C2 ⊢
    clear hS hl hn ex eb
    have f1 : (x == x) = true := by simp
    have f2 : (b == b) = true := by simp
    go_enter Try.func7, Try.ntmps7
    go_wp2_with fail
    refine (C1.out _).mono ?_
    rintro _ w1 ⟨rfl, hb⟩
    have HB := Aside0.mk hb
    clear hb
    go_wp2_with fail
    refine (C2.out _).mono ?_
    rintro _ w2 ⟨rfl, hb⟩
    replace HB := Aside0.mk (below_step HB.out hb)
    clear hb
    go_wp2_with fail
    refine (since_awake _).mono ?_
    rintro _ w3 ⟨rfl, hb⟩
    replace HB := Aside0.mk (below_step HB.out hb)
    clear hb
    go_wp2_with fail
    go_ret
    exact ⟨rfl, HB.out⟩
theorem SinceSpans_walk (a0 : ByteArray) (w : World) (w0 : a0.size ≤ 140737488351232) :
    Calls Try.prog 7 #[.string a0] w fun e w' => e = .returned (.bool true) ∧ Below w.heap.size w w' := by
  have := SinceSpans_calls (bytesOf a0) w (bytesOf_isB a0) (by rw [bytesOf_length]; exact w0)
  rwa [strOf_bytesOf] at this
end Go.Proofs.Ytplmdgimodgekaa
