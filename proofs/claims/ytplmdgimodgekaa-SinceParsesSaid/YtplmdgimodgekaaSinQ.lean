/- SinceParses: the walks. -/
import Derived.Test.YtplmdgimodgekaaSinA
import Derived.Test.YtplmdgimodgekaaCivRP
import Derived.Test.YtplmdgimodgekaaCiv5
namespace Go.Proofs.Ytplmdgimodgekaa
open Go.RowKit Go.Proofs.YtplmdgimodgekaaW.PrintWords Go.Proofs.YtplmdgimodgekaaW.PrintLast Go.Proofs.YtplmdgimodgekaaW.PrintMore
attribute [local go_sem] max2_int min2_int max_two min_two max_three min_three max_four min_four   -- for this text's walks alone
set_option linter.unusedVariables false
set_option linter.unusedSimpArgs false

def micL (l : List Int) : Int := microsZ (fld (padP l) 0 4) (fld (padP l) 5 7) (fld (padP l) 8 10) (fld (padP l) 11 13) (fld (padP l) 14 16) (fld (padP l) 17 19) (fld (padP l) 20 26)
def preT : List Int := [49, 57, 55, 48, 45, 48, 49, 45, 48, 49, 32]
theorem good_cases (l : List Int) : (goodP l = false ∧ parV l = .tuple #[.agg #[.int .i64 0, .int .i64 0, .int .i64 0, .int .i64 0, .int .i64 0, .int .i64 0, .int .i64 0], .bool false]) ∨ ∃ y m d h i s u : Int, goodP l = true ∧ parV l = .tuple #[.agg #[.int .i64 y, .int .i64 m, .int .i64 d, .int .i64 h, .int .i64 i, .int .i64 s, .int .i64 u], .bool true] ∧ rightB y m d h i s u = true ∧ micL l = microsZ y m d h i s u := by
  cases hg : goodP l with
  | false => exact .inl ⟨rfl, parV_no hg⟩
  | true =>
    refine .inr ⟨_, _, _, _, _, _, _, rfl, parV_yes hg rfl rfl rfl rfl rfl rfl rfl rfl, ?_, rfl⟩
    rw [goodP, Bool.and_eq_true] at hg
    have := hg.2
    rwa [timB] at this
theorem micros_bd (y m d h i s u : Int) (hr : rightB y m d h i s u = true) : 0 ≤ microsZ y m d h i s u ∧ microsZ y m d h i s u ≤ 1152921504606846976 := by
  obtain ⟨⟨y0, y1⟩, ⟨m0, m1⟩, ⟨d0, d1⟩, ⟨h0, h1⟩, ⟨i0, i1⟩, ⟨s0, s1⟩, ⟨u0, u1⟩⟩ := rightB_yes hr
  have hb := dayZ_bd y0 y1 ⟨m0, m1, d0, d1⟩
  unfold microsZ; omega
theorem good_digit {c : Int} {t : List Int} (h : dgB c = false) : goodP (c :: t) = false := by
  rw [goodP]
  cases h1 : lenOk (c :: t).length with
  | false => rfl
  | true =>
    have : likeB (padP (c :: t)) formL = false := likeB_no (i := 0) (by simp [padP]) (by
      rw [padP, List.cons_append, List.getD_cons_zero, show formL.getD 0 0 = 48 from rfl, likeC, if_pos rfl]; exact h)
    rw [this]; rfl
theorem good_digit2 {c : Int} {t : List Int} (h : dgB c = false) : goodP (preT ++ c :: t) = false := by
  rw [goodP]
  cases h1 : lenOk (preT ++ c :: t).length with
  | false => rfl
  | true =>
    have : likeB (padP (preT ++ c :: t)) formL = false := likeB_no (i := 11) (by simp [padP, preT]) (by
      rw [show formL.getD 11 0 = 48 from rfl, show (padP (preT ++ c :: t)).getD 11 0 = c by simp [padP, preT], likeC, if_pos rfl]; exact h)
    rw [this]; rfl
theorem good_pre : goodP preT = false := by decide
/-- What is read at the time n. -/
def psV (l : List Int) (n : Int) : Value :=
  if l = [110, 111, 119] then .tuple #[.int .u64 n, .bool true]
  else if l = [116, 111, 100, 97, 121] then .tuple #[.int .u64 (n - n % 86400000000), .bool true]
  else if l = [121, 101, 115, 116, 101, 114, 100, 97, 121] then .tuple #[.int .u64 (if n - n % 86400000000 < 86400000000 then 0 else n - n % 86400000000 - 86400000000), .bool true]
  else if l = [116, 111, 109, 111, 114, 114, 111, 119] then .tuple #[.int .u64 (IntKind.u64.wrap (n - n % 86400000000 + 86400000000)), .bool (decide (n < 1152921504606846976))]
  else match l with
    | [] => .tuple #[.int .u64 0, .bool false]
    | c :: t =>
      if c = 64 then nuV t
      else if c = 45 then (match spanP t with | some v => .tuple #[.int .u64 (if n < v then 0 else n - v), .bool true] | none => .tuple #[.int .u64 0, .bool false])
      else if c = 43 then (match spanP t with | some v => if n < 1152921504606846976 then .tuple #[.int .u64 (n + v), .bool true] else .tuple #[.int .u64 0, .bool false] | none => .tuple #[.int .u64 0, .bool false])
      else if goodP (c :: t) = true then .tuple #[.int .u64 (micL (c :: t)), .bool true]
      else if goodP (preT ++ c :: t) = true ∧ n < 1152921504606846976 then .tuple #[.int .u64 (n - n % 86400000000 + micL (preT ++ c :: t)), .bool true]
      else .tuple #[.int .u64 0, .bool false]
set_option maxHeartbeats 8000000 in
set_option maxRecDepth 100000 in
theorem less_calls (a b : Int) (w : World) (a0 : 0 ≤ a) (a1 : a ≤ 18446744073709551615) (b0 : 0 ≤ b) (b1 : b ≤ 18446744073709551615) :
    Calls Try.prog 77 #[.int .u64 a, .int .u64 b] w fun e w' => e = .returned (.int .u64 (if a < b then 0 else a - b)) ∧ w = w' := by
  by_cases h : a < b
  · rw [if_pos h]
    clear a1 b1
    go_enter Try.func77, Try.ntmps77
    go_wp2_with fail
    go_ret
    exact ⟨rfl, rfl⟩
  · have hw : IntKind.u64.wrap (a - b) = a - b := by rw [IntKind.wrap_u64]; omega
    rw [if_neg h]
    clear a1 b1
    go_enter Try.func77, Try.ntmps77
    go_wp2_with fail
    go_ret
    exact ⟨rfl, rfl⟩

set_option maxHeartbeats 8000000 in
set_option maxRecDepth 100000 in
theorem pP_n0 (n : Int) (w : World) (n0 : 0 ≤ n) (n1 : n ≤ 18446744073709551615) : Calls Try.prog 29 #[.string (strOfNums [110, 111, 119]), .int .u64 n] w fun e w' => e = .returned (psV [110, 111, 119] n) ∧ w = w' := by
  have HV := Aside0.mk (show psV [110, 111, 119] n = _ by rw [psV, if_pos rfl])
  rw [show strOfNums [110, 111, 119] = (⟨#[110, 111, 119]⟩ : ByteArray) from rfl]
  obtain ⟨M, hM⟩ : ∃ M, n % 86400000000 = M := ⟨_, rfl⟩
  have hM0 : 0 ≤ M := by omega
  have hMn : M ≤ n := by omega
  have hM2 : n.tmod 86400000000 = M := by rw [Int.tmod_eq_emod_of_nonneg n0]; exact hM
  obtain ⟨T, hT⟩ : ∃ T, n - M = T := ⟨_, rfl⟩
  have hT0 : 0 ≤ T := by omega
  have hT1 : T ≤ n := by omega
  have hwT : IntKind.u64.wrap (n - M) = T := by rw [IntKind.wrap_u64]; omega
  clear hT n1
  rw [HV.out]
  go_enter Try.func29, Try.ntmps29
  go_wp2_with fail
  go_ret2
  exact ⟨rfl, rfl⟩
set_option maxHeartbeats 8000000 in
set_option maxRecDepth 100000 in
theorem pP_n1 (n : Int) (w : World) (n0 : 0 ≤ n) (n1 : n ≤ 18446744073709551615) : Calls Try.prog 29 #[.string (strOfNums [116, 111, 100, 97, 121]), .int .u64 n] w fun e w' => e = .returned (psV [116, 111, 100, 97, 121] n) ∧ w = w' := by
  have HV := Aside0.mk (show psV [116, 111, 100, 97, 121] n = _ by rw [psV, if_neg (by decide), if_pos rfl])
  rw [show strOfNums [116, 111, 100, 97, 121] = (⟨#[116, 111, 100, 97, 121]⟩ : ByteArray) from rfl]
  obtain ⟨M, hM⟩ : ∃ M, n % 86400000000 = M := ⟨_, rfl⟩
  have hM0 : 0 ≤ M := by omega
  have hMn : M ≤ n := by omega
  have hM2 : n.tmod 86400000000 = M := by rw [Int.tmod_eq_emod_of_nonneg n0]; exact hM
  obtain ⟨T, hT⟩ : ∃ T, n - M = T := ⟨_, rfl⟩
  have hT0 : 0 ≤ T := by omega
  have hT1 : T ≤ n := by omega
  have hwT : IntKind.u64.wrap (n - M) = T := by rw [IntKind.wrap_u64]; omega
  rw [hM] at HV
  rw [hT] at HV
  clear hT n1
  rw [HV.out]
  go_enter Try.func29, Try.ntmps29
  go_wp2_with fail
  go_ret2
  exact ⟨rfl, rfl⟩
set_option maxHeartbeats 8000000 in
set_option maxRecDepth 100000 in
theorem pP_n2 (n : Int) (w : World) (n0 : 0 ≤ n) (n1 : n ≤ 18446744073709551615) : Calls Try.prog 29 #[.string (strOfNums [121, 101, 115, 116, 101, 114, 100, 97, 121]), .int .u64 n] w fun e w' => e = .returned (psV [121, 101, 115, 116, 101, 114, 100, 97, 121] n) ∧ w = w' := by
  have HV := Aside0.mk (show psV [121, 101, 115, 116, 101, 114, 100, 97, 121] n = _ by rw [psV, if_neg (by decide), if_neg (by decide), if_pos rfl])
  rw [show strOfNums [121, 101, 115, 116, 101, 114, 100, 97, 121] = (⟨#[121, 101, 115, 116, 101, 114, 100, 97, 121]⟩ : ByteArray) from rfl]
  obtain ⟨M, hM⟩ : ∃ M, n % 86400000000 = M := ⟨_, rfl⟩
  have hM0 : 0 ≤ M := by omega
  have hMn : M ≤ n := by omega
  have hM2 : n.tmod 86400000000 = M := by rw [Int.tmod_eq_emod_of_nonneg n0]; exact hM
  obtain ⟨T, hT⟩ : ∃ T, n - M = T := ⟨_, rfl⟩
  have hT0 : 0 ≤ T := by omega
  have hT1 : T ≤ n := by omega
  have hwT : IntKind.u64.wrap (n - M) = T := by rw [IntKind.wrap_u64]; omega
  rw [hM] at HV
  rw [hT] at HV
  have HC := Aside0.mk (fun w => back_calls T 86400000000 w hT0 (by omega) (by decide) (by decide))
  obtain ⟨X, hX⟩ : ∃ X, (if T < 86400000000 then 0 else T - 86400000000) = X := ⟨_, rfl⟩
  rw [hX] at HV HC
  clear hX
  clear hT n1
  rw [HV.out]
  go_enter Try.func29, Try.ntmps29
  go_wp2_with fail
  refine (HC.out _).mono ?_
  rintro _ w2 ⟨rfl, rfl⟩
  go_wp2_with fail
  go_ret2
  exact ⟨rfl, rfl⟩
set_option maxHeartbeats 8000000 in
set_option maxRecDepth 100000 in
theorem pP_n3 (n : Int) (w : World) (n0 : 0 ≤ n) (n1 : n ≤ 18446744073709551615) : Calls Try.prog 29 #[.string (strOfNums [116, 111, 109, 111, 114, 114, 111, 119]), .int .u64 n] w fun e w' => e = .returned (psV [116, 111, 109, 111, 114, 114, 111, 119] n) ∧ w = w' := by
  have HV := Aside0.mk (show psV [116, 111, 109, 111, 114, 114, 111, 119] n = _ by rw [psV, if_neg (by decide), if_neg (by decide), if_neg (by decide), if_pos rfl])
  rw [show strOfNums [116, 111, 109, 111, 114, 114, 111, 119] = (⟨#[116, 111, 109, 111, 114, 114, 111, 119]⟩ : ByteArray) from rfl]
  obtain ⟨M, hM⟩ : ∃ M, n % 86400000000 = M := ⟨_, rfl⟩
  have hM0 : 0 ≤ M := by omega
  have hMn : M ≤ n := by omega
  have hM2 : n.tmod 86400000000 = M := by rw [Int.tmod_eq_emod_of_nonneg n0]; exact hM
  obtain ⟨T, hT⟩ : ∃ T, n - M = T := ⟨_, rfl⟩
  have hT0 : 0 ≤ T := by omega
  have hT1 : T ≤ n := by omega
  have hwT : IntKind.u64.wrap (n - M) = T := by rw [IntKind.wrap_u64]; omega
  rw [hM] at HV
  rw [hT] at HV
  obtain ⟨X, hX⟩ : ∃ X, IntKind.u64.wrap (T + 86400000000) = X := ⟨_, rfl⟩
  have hX2 : (T + 86400000000) % 18446744073709551616 = X := by rw [← hX, IntKind.wrap_u64]
  rw [hX] at HV
  clear hT n1
  rw [HV.out]
  go_enter Try.func29, Try.ntmps29
  go_wp2_with fail
  go_ret2
  exact ⟨rfl, rfl⟩
set_option maxHeartbeats 8000000 in
set_option maxRecDepth 100000 in
theorem rP_n0 (n : Int) (w : World) (n0 : 0 ≤ n) (n1 : n ≤ 18446744073709551615) : Calls Try.prog 30 #[.string (strOfNums [110, 111, 119]), .int .u64 n] w fun e w' => e = .returned (psV [110, 111, 119] n) ∧ w = w' := by
  have HV := Aside0.mk (show psV [110, 111, 119] n = _ by rw [psV, if_pos rfl])
  rw [show strOfNums [110, 111, 119] = (⟨#[110, 111, 119]⟩ : ByteArray) from rfl]
  obtain ⟨M, hM⟩ : ∃ M, n % 86400000000 = M := ⟨_, rfl⟩
  have hM0 : 0 ≤ M := by omega
  have hMn : M ≤ n := by omega
  have hM2 : n.tmod 86400000000 = M := by rw [Int.tmod_eq_emod_of_nonneg n0]; exact hM
  obtain ⟨T, hT⟩ : ∃ T, n - M = T := ⟨_, rfl⟩
  have hT0 : 0 ≤ T := by omega
  have hT1 : T ≤ n := by omega
  have hwT : IntKind.u64.wrap (n - M) = T := by rw [IntKind.wrap_u64]; omega
  clear hT n1
  rw [HV.out]
  go_enter Try.func30, Try.ntmps30
  go_wp2_with fail
  go_ret2
  exact ⟨rfl, rfl⟩
set_option maxHeartbeats 8000000 in
set_option maxRecDepth 100000 in
theorem rP_n1 (n : Int) (w : World) (n0 : 0 ≤ n) (n1 : n ≤ 18446744073709551615) : Calls Try.prog 30 #[.string (strOfNums [116, 111, 100, 97, 121]), .int .u64 n] w fun e w' => e = .returned (psV [116, 111, 100, 97, 121] n) ∧ w = w' := by
  have HV := Aside0.mk (show psV [116, 111, 100, 97, 121] n = _ by rw [psV, if_neg (by decide), if_pos rfl])
  rw [show strOfNums [116, 111, 100, 97, 121] = (⟨#[116, 111, 100, 97, 121]⟩ : ByteArray) from rfl]
  obtain ⟨M, hM⟩ : ∃ M, n % 86400000000 = M := ⟨_, rfl⟩
  have hM0 : 0 ≤ M := by omega
  have hMn : M ≤ n := by omega
  have hM2 : n.tmod 86400000000 = M := by rw [Int.tmod_eq_emod_of_nonneg n0]; exact hM
  obtain ⟨T, hT⟩ : ∃ T, n - M = T := ⟨_, rfl⟩
  have hT0 : 0 ≤ T := by omega
  have hT1 : T ≤ n := by omega
  have hwT : IntKind.u64.wrap (n - M) = T := by rw [IntKind.wrap_u64]; omega
  rw [hM] at HV
  rw [hT] at HV
  clear hT n1
  rw [HV.out]
  go_enter Try.func30, Try.ntmps30
  go_wp2_with fail
  go_ret2
  exact ⟨rfl, rfl⟩
set_option maxHeartbeats 8000000 in
set_option maxRecDepth 100000 in
theorem rP_n2 (n : Int) (w : World) (n0 : 0 ≤ n) (n1 : n ≤ 18446744073709551615) : Calls Try.prog 30 #[.string (strOfNums [121, 101, 115, 116, 101, 114, 100, 97, 121]), .int .u64 n] w fun e w' => e = .returned (psV [121, 101, 115, 116, 101, 114, 100, 97, 121] n) ∧ w = w' := by
  have HV := Aside0.mk (show psV [121, 101, 115, 116, 101, 114, 100, 97, 121] n = _ by rw [psV, if_neg (by decide), if_neg (by decide), if_pos rfl])
  rw [show strOfNums [121, 101, 115, 116, 101, 114, 100, 97, 121] = (⟨#[121, 101, 115, 116, 101, 114, 100, 97, 121]⟩ : ByteArray) from rfl]
  obtain ⟨M, hM⟩ : ∃ M, n % 86400000000 = M := ⟨_, rfl⟩
  have hM0 : 0 ≤ M := by omega
  have hMn : M ≤ n := by omega
  have hM2 : n.tmod 86400000000 = M := by rw [Int.tmod_eq_emod_of_nonneg n0]; exact hM
  obtain ⟨T, hT⟩ : ∃ T, n - M = T := ⟨_, rfl⟩
  have hT0 : 0 ≤ T := by omega
  have hT1 : T ≤ n := by omega
  have hwT : IntKind.u64.wrap (n - M) = T := by rw [IntKind.wrap_u64]; omega
  rw [hM] at HV
  rw [hT] at HV
  have HC := Aside0.mk (fun w => less_calls T 86400000000 w hT0 (by omega) (by decide) (by decide))
  obtain ⟨X, hX⟩ : ∃ X, (if T < 86400000000 then 0 else T - 86400000000) = X := ⟨_, rfl⟩
  rw [hX] at HV HC
  clear hX
  clear hT n1
  rw [HV.out]
  go_enter Try.func30, Try.ntmps30
  go_wp2_with fail
  refine (HC.out _).mono ?_
  rintro _ w2 ⟨rfl, rfl⟩
  go_wp2_with fail
  go_ret2
  exact ⟨rfl, rfl⟩
set_option maxHeartbeats 8000000 in
set_option maxRecDepth 100000 in
theorem rP_n3 (n : Int) (w : World) (n0 : 0 ≤ n) (n1 : n ≤ 18446744073709551615) : Calls Try.prog 30 #[.string (strOfNums [116, 111, 109, 111, 114, 114, 111, 119]), .int .u64 n] w fun e w' => e = .returned (psV [116, 111, 109, 111, 114, 114, 111, 119] n) ∧ w = w' := by
  have HV := Aside0.mk (show psV [116, 111, 109, 111, 114, 114, 111, 119] n = _ by rw [psV, if_neg (by decide), if_neg (by decide), if_neg (by decide), if_pos rfl])
  rw [show strOfNums [116, 111, 109, 111, 114, 114, 111, 119] = (⟨#[116, 111, 109, 111, 114, 114, 111, 119]⟩ : ByteArray) from rfl]
  obtain ⟨M, hM⟩ : ∃ M, n % 86400000000 = M := ⟨_, rfl⟩
  have hM0 : 0 ≤ M := by omega
  have hMn : M ≤ n := by omega
  have hM2 : n.tmod 86400000000 = M := by rw [Int.tmod_eq_emod_of_nonneg n0]; exact hM
  obtain ⟨T, hT⟩ : ∃ T, n - M = T := ⟨_, rfl⟩
  have hT0 : 0 ≤ T := by omega
  have hT1 : T ≤ n := by omega
  have hwT : IntKind.u64.wrap (n - M) = T := by rw [IntKind.wrap_u64]; omega
  rw [hM] at HV
  rw [hT] at HV
  obtain ⟨X, hX⟩ : ∃ X, IntKind.u64.wrap (T + 86400000000) = X := ⟨_, rfl⟩
  have hX2 : (T + 86400000000) % 18446744073709551616 = X := by rw [← hX, IntKind.wrap_u64]
  rw [hX] at HV
  clear hT n1
  rw [HV.out]
  go_enter Try.func30, Try.ntmps30
  go_wp2_with fail
  go_ret2
  exact ⟨rfl, rfl⟩

theorem psV_cons (c : Int) (t : List Int) (n : Int) (h0 : c :: t ≠ [110, 111, 119]) (h1 : c :: t ≠ [116, 111, 100, 97, 121]) (h2 : c :: t ≠ [121, 101, 115, 116, 101, 114, 100, 97, 121]) (h3 : c :: t ≠ [116, 111, 109, 111, 114, 114, 111, 119]) : psV (c :: t) n =
      if c = 64 then nuV t
      else if c = 45 then (match spanP t with | some v => .tuple #[.int .u64 (if n < v then 0 else n - v), .bool true] | none => .tuple #[.int .u64 0, .bool false])
      else if c = 43 then (match spanP t with | some v => if n < 1152921504606846976 then .tuple #[.int .u64 (n + v), .bool true] else .tuple #[.int .u64 0, .bool false] | none => .tuple #[.int .u64 0, .bool false])
      else if goodP (c :: t) = true then .tuple #[.int .u64 (micL (c :: t)), .bool true]
      else if goodP (preT ++ c :: t) = true ∧ n < 1152921504606846976 then .tuple #[.int .u64 (n - n % 86400000000 + micL (preT ++ c :: t)), .bool true]
      else .tuple #[.int .u64 0, .bool false] := by
  rw [psV, if_neg h0, if_neg h1, if_neg h2, if_neg h3]
theorem one_lit {c k : Int} (hc : 0 ≤ c ∧ c ≤ 255) (hk : 0 ≤ k ∧ k ≤ 255) {K : UInt8} (hK : K = UInt8.ofNat k.toNat) : ((strOfNums [c]).toList == [K]) = decide (c = k) := by
  have e : ([K] : List UInt8) = (strOfNums [k]).toList := by rw [strOfNums_toList', hK]; rfl
  rw [e, same_iff (fun x hx => by simp at hx; omega) (fun x hx => by simp at hx; omega)]
  exact decide_eq_decide.2 ⟨fun h => (List.cons.inj h).1, fun h => by rw [h]⟩
theorem span_bd {l : List Int} {v : Int} (h : spanP l = some v) : 0 ≤ v ∧ v ≤ 1152921504606846976 := by
  have key : ∀ (f : Nat) (r : List Int) (s : Int), 0 ≤ s → s ≤ 1152921504606846976 → ∀ v, spF f r s = some v → 0 ≤ v ∧ v ≤ 1152921504606846976 := by
    intro f
    induction f with
    | zero => intro r s _ _ v h; cases h
    | succ f ih =>
      intro r s s0 s1 v h
      cases hg : numG (aL r) with
      | none => rw [spF_none f r s hg] at h; cases h
      | some x =>
        rw [spF_some f r s hg] at h
        split at h
        · cases h
        · rename_i hn
          have hu : 0 ≤ uOf r := by unfold uOf; split; (split <;> omega); exact (unit_bd _).1
          have hm := Int.mul_nonneg (numG_bd hg).1 hu
          have hm2 : x * uOf r ≤ 1152921504606846976 - s := by
            have : ¬ most - s < x * uOf r := fun e => hn (.inr e)
            unfold most at this; omega
          split at h
          · injection h with h; omega
          · exact ih _ _ (by omega) (by omega) v h
  rw [spanP] at h
  split at h
  · cases h
  · exact key _ _ _ (by omega) (by decide) v h
theorem there_blkR {W : World} {b T : Nat} {cs : Array Value} (H : W.heap[b]? = some (.cells cs T (0, 0))) : W.there b 0 cs.size := fun j hj => by
  rw [Nat.zero_add]
  exact ⟨by rw [blk_cell H j]; simp [hj], blk_frozen H j⟩
theorem below_cellsR {w : World} {b : Nat} (hb : w.heap.size ≤ b) : ∀ (vs : List Value) (o : Nat) (W : World), Below w.heap.size w W → Below w.heap.size w (W.setCells b o vs)
  | [], _, _, h => h
  | v :: r, o, W, h => below_cellsR hb r (o + 1) _ (h.setCell hb v)
theorem info7R : (Try.prog.info? 138).map (·.size) = some 7 := by kernel_rfl

set_option maxHeartbeats 8000000 in
set_option maxRecDepth 100000 in
theorem pP_c (c : Int) (t : List Int) (n : Int) (w : World) (hl : isB (c :: t)) (hm : (c :: t).length ≤ 500) (n0 : 0 ≤ n) (n1 : n ≤ 18446744073709551615) (h0 : c :: t ≠ [110, 111, 119]) (h1 : c :: t ≠ [116, 111, 100, 97, 121]) (h2 : c :: t ≠ [121, 101, 115, 116, 101, 114, 100, 97, 121]) (h3 : c :: t ≠ [116, 111, 109, 111, 114, 114, 111, 119]) :
    Calls Try.prog 29 #[.string (strOfNums (c :: t)), .int .u64 n] w fun e w' => e = .returned (psV (c :: t) n) ∧ Below w.heap.size w w' := by
  have hc := hl c (by simp)
  have ht : isB t := fun x hx => hl x (List.mem_cons_of_mem _ hx)
  rw [List.length_cons] at hm
  rw [psV_cons c t n h0 h1 h2 h3]
  have f0 := lit_ne hl (c := [110, 111, 119]) (fun x hx => by simp at hx; omega) (Ne.symm h0) (C := [110, 111, 119]) rfl
  have f1 := lit_ne hl (c := [116, 111, 100, 97, 121]) (fun x hx => by simp at hx; omega) (Ne.symm h1) (C := [116, 111, 100, 97, 121]) rfl
  have f2 := lit_ne hl (c := [121, 101, 115, 116, 101, 114, 100, 97, 121]) (fun x hx => by simp at hx; omega) (Ne.symm h2) (C := [121, 101, 115, 116, 101, 114, 100, 97, 121]) rfl
  have f3 := lit_ne hl (c := [116, 111, 109, 111, 114, 114, 111, 119]) (fun x hx => by simp at hx; omega) (Ne.symm h3) (C := [116, 111, 109, 111, 114, 114, 111, 119]) rfl
  have hs := strOf_size (c :: t)
  rw [List.length_cons] at hs
  have x1 : (strOfNums (c :: t)).extract 0 1 = strOfNums [c] := by rw [strOf_extract]; rfl
  have x2 : (strOfNums (c :: t)).extract 1 (t.length + 1) = strOfNums t := by rw [strOf_extract, List.take_of_length_le (by simp)]; rfl
  have hix := str_at (c :: t) hl 0 0 rfl (by simp)
  rw [List.getD_cons_zero] at hix
  have q64 := one_lit (k := 64) hc (by omega) (K := 64) rfl
  have q45 := one_lit (k := 45) hc (by omega) (K := 45) rfl
  have q43 := one_lit (k := 43) hc (by omega) (K := 43) rfl
  obtain ⟨e0, e1⟩ := str_ne (l := c :: t) (by simp)
  have CN := Aside0.mk (fun w => eNumber_calls t w ht (by omega))
  have CS := Aside0.mk (fun w => Span_calls t w ht (by omega))
  rw [spV] at CS
  have CP1 := Aside0.mk (fun w => civil_Parse_calls (strOfNums (c :: t)) w (by rw [strOf_size, List.length_cons]; omega))
  rw [bytesOf_strOf hl] at CP1
  have hpre : isB preT := fun x hx => by simp [preT] at hx; omega
  have hpb : isB (preT ++ c :: t) := hpre.app hl
  have CP2 := Aside0.mk (fun w => civil_Parse_calls (strOfNums (preT ++ c :: t)) w (by rw [strOf_size, List.length_append, List.length_cons]; simp [preT]; omega))
  rw [bytesOf_strOf hpb] at CP2
  have hcat : (⟨#[49, 57, 55, 48, 45, 48, 49, 45, 48, 49, 32]⟩ : ByteArray) ++ strOfNums (c :: t) = strOfNums (preT ++ c :: t) := by
    rw [show (⟨#[49, 57, 55, 48, 45, 48, 49, 45, 48, 49, 32]⟩ : ByteArray) = strOfNums preT from rfl, strOf_append]
  obtain ⟨N, hN⟩ : ∃ N, t.length + 1 = N := ⟨_, rfl⟩
  have hN1 : 1 ≤ N := by omega
  have hN5 : N ≤ 500 := by omega
  rw [hN] at hs x2
  have hcs : (9223372036854775807 < 11 + N) = False := by simp; omega
  have hmn : min (1 : Int) (N : Int) = 1 := by omega
  obtain ⟨S, hS⟩ : ∃ S, strOfNums (c :: t) = S := ⟨_, rfl⟩
  obtain ⟨F, hF⟩ : ∃ S, strOfNums [c] = S := ⟨_, rfl⟩
  obtain ⟨R, hR⟩ : ∃ S, strOfNums t = S := ⟨_, rfl⟩
  obtain ⟨P, hP⟩ : ∃ S, strOfNums (preT ++ c :: t) = S := ⟨_, rfl⟩
  rw [hS] at hs x1 x2 hix f0 f1 f2 f3 e0 e1 CP1 hcat ⊢
  rw [hF] at x1 q64 q45 q43
  rw [hR] at x2 CN CS
  rw [hP] at CP2 hcat
  obtain ⟨M, hM⟩ : ∃ M, n % 86400000000 = M := ⟨_, rfl⟩
  have hM0 : 0 ≤ M := by omega
  have hMn : M ≤ n := by omega
  have hM2 : n.tmod 86400000000 = M := by rw [Int.tmod_eq_emod_of_nonneg n0]; exact hM
  obtain ⟨T, hT⟩ : ∃ T, n - M = T := ⟨_, rfl⟩
  have hT0 : 0 ≤ T := by omega
  have hT1 : T ≤ n := by omega
  have hwT : IntKind.u64.wrap (n - M) = T := by rw [IntKind.wrap_u64]; omega
  rw [hM, hT]
  have HG1 := Aside0.mk (good_cases (c :: t))
  have HG2 := Aside0.mk (good_cases (preT ++ c :: t))
  have HD := Aside0.mk (show dgB c = false → goodP (c :: t) = false ∧ goodP (preT ++ c :: t) = false from fun h => ⟨good_digit h, good_digit2 h⟩)
  clear hl ht hm h0 h1 h2 h3 hS hF hR hP hN hpb hpre
  obtain ⟨c0, c9⟩ := hc
  by_cases c1 : c = 64
  · rw [if_pos c1]
    have b64 : (c == 64) = true := by rw [beq_iff_eq]; omega
    have b45 : (c == 45) = false := by rw [beq_eq_false_iff_ne]; omega
    have b43 : (c == 43) = false := by rw [beq_eq_false_iff_ne]; omega
    rw [decide_eq_true (show c = 64 by omega)] at q64
    rw [decide_eq_false (show ¬ c = 45 by omega)] at q45
    rw [decide_eq_false (show ¬ c = 43 by omega)] at q43
    rw [nuV] at CN ⊢
    obtain ⟨x, ex⟩ : ∃ x, (numG t).getD 0 = x := ⟨_, rfl⟩
    obtain ⟨b, eb⟩ : ∃ x, (numG t).isSome = x := ⟨_, rfl⟩
    rw [ex, eb] at CN ⊢
    clear ex eb n1 CS CP1 CP2 c1
    go_enter Try.func29, Try.ntmps29
    go_wp2_with fail
    go_quiet (fail)
    go_wp2_with fail
    refine (CN.out _).mono ?_
    rintro _ wz ⟨rfl, hb⟩
    have HB := Aside0.mk (below_step (pw_below_drewN (Below.refl _ _) _) hb)
    clear hb
    go_wp2_with fail
    go_ret2
    exact ⟨rfl, HB.out⟩
  rw [if_neg c1]
  by_cases c2 : c = 45
  · rw [if_pos c2]
    have b64 : (c == 64) = false := by rw [beq_eq_false_iff_ne]; omega
    have b45 : (c == 45) = true := by rw [beq_iff_eq]; omega
    have b43 : (c == 43) = false := by rw [beq_eq_false_iff_ne]; omega
    rw [decide_eq_false (show ¬ c = 64 by omega)] at q64
    rw [decide_eq_true (show c = 45 by omega)] at q45
    rw [decide_eq_false (show ¬ c = 43 by omega)] at q43
    cases hsp : spanP t with
    | some v =>
      rw [hsp] at CS
      obtain ⟨v0, v1⟩ := span_bd hsp
      have CB := Aside0.mk (fun w => back_calls n v w n0 n1 v0 (by omega))
      dsimp only [Option.getD_some, Option.isSome_some] at CS ⊢
      obtain ⟨X, hX⟩ : ∃ X, (if n < v then 0 else n - v) = X := ⟨_, rfl⟩
      rw [hX] at CB ⊢
      clear hX hsp n1 CN CP1 CP2 c1 c2
      go_enter Try.func29, Try.ntmps29
      go_wp2_with fail
      go_quiet (fail)
      go_wp2_with fail
      refine (CS.out _).mono ?_
      rintro _ wz ⟨rfl, hb⟩
      have HB := Aside0.mk (below_step (pw_below_drewN (Below.refl _ _) _) hb)
      clear hb
      go_wp2_with fail
      refine (CB.out _).mono ?_
      rintro _ wy ⟨rfl, rfl⟩
      go_wp2_with fail
      go_ret2
      exact ⟨rfl, HB.out⟩
    | none =>
      rw [hsp] at CS
      dsimp only [Option.getD_none, Option.isSome_none] at CS ⊢
      clear hsp n1 CN CP1 CP2 c1 c2
      go_enter Try.func29, Try.ntmps29
      go_wp2_with fail
      go_quiet (fail)
      go_wp2_with fail
      refine (CS.out _).mono ?_
      rintro _ wz ⟨rfl, hb⟩
      have HB := Aside0.mk (below_step (pw_below_drewN (Below.refl _ _) _) hb)
      clear hb
      go_wp2_with fail
      go_ret2
      exact ⟨rfl, HB.out⟩
  rw [if_neg c2]
  by_cases c3 : c = 43
  · rw [if_pos c3]
    have b64 : (c == 64) = false := by rw [beq_eq_false_iff_ne]; omega
    have b45 : (c == 45) = false := by rw [beq_eq_false_iff_ne]; omega
    have b43 : (c == 43) = true := by rw [beq_iff_eq]; omega
    rw [decide_eq_false (show ¬ c = 64 by omega)] at q64
    rw [decide_eq_false (show ¬ c = 45 by omega)] at q45
    rw [decide_eq_true (show c = 43 by omega)] at q43
    cases hsp : spanP t with
    | some v =>
      rw [hsp] at CS
      obtain ⟨v0, v1⟩ := span_bd hsp
      dsimp only [Option.getD_some, Option.isSome_some] at CS ⊢
      by_cases c4 : n < 1152921504606846976
      · rw [if_pos c4]
        have hwv : IntKind.u64.wrap (n + v) = n + v := by rw [IntKind.wrap_u64]; omega
        clear hsp n1 CN CP1 CP2 c1 c2 c3
        go_enter Try.func29, Try.ntmps29
        go_wp2_with fail
        go_quiet (fail)
        go_wp2_with fail
        refine (CS.out _).mono ?_
        rintro _ wz ⟨rfl, hb⟩
        have HB := Aside0.mk (below_step (pw_below_drewN (Below.refl _ _) _) hb)
        clear hb
        go_wp2_with fail
        go_ret2
        exact ⟨rfl, HB.out⟩
      · rw [if_neg c4]
        clear hsp n1 CN CP1 CP2 c1 c2 c3
        go_enter Try.func29, Try.ntmps29
        go_wp2_with fail
        go_quiet (fail)
        go_wp2_with fail
        refine (CS.out _).mono ?_
        rintro _ wz ⟨rfl, hb⟩
        have HB := Aside0.mk (below_step (pw_below_drewN (Below.refl _ _) _) hb)
        clear hb
        go_wp2_with fail
        go_ret2
        exact ⟨rfl, HB.out⟩
    | none =>
      rw [hsp] at CS
      dsimp only [Option.getD_none, Option.isSome_none] at CS ⊢
      clear hsp n1 CN CP1 CP2 c1 c2 c3
      go_enter Try.func29, Try.ntmps29
      go_wp2_with fail
      go_quiet (fail)
      go_wp2_with fail
      refine (CS.out _).mono ?_
      rintro _ wz ⟨rfl, hb⟩
      have HB := Aside0.mk (below_step (pw_below_drewN (Below.refl _ _) _) hb)
      clear hb
      go_wp2_with fail
      go_ret2
      exact ⟨rfl, HB.out⟩
  rw [if_neg c3]
  have b64 : (c == 64) = false := by rw [beq_eq_false_iff_ne]; omega
  have b45 : (c == 45) = false := by rw [beq_eq_false_iff_ne]; omega
  have b43 : (c == 43) = false := by rw [beq_eq_false_iff_ne]; omega
  rw [decide_eq_false (show ¬ c = 64 by omega)] at q64
  rw [decide_eq_false (show ¬ c = 45 by omega)] at q45
  rw [decide_eq_false (show ¬ c = 43 by omega)] at q43
  obtain ⟨x, ex⟩ : ∃ x, (spanP t).getD 0 = x := ⟨_, rfl⟩
  obtain ⟨b, eb⟩ : ∃ x, (spanP t).isSome = x := ⟨_, rfl⟩
  rw [ex, eb] at CS
  clear ex eb CN c1 c2 c3 HD
  rcases HG1.out with ⟨g1, p1⟩ | ⟨y, m, d, h, i, s, u, g1, p1, hr, hmi⟩
  · rw [if_neg (by rw [g1]; decide)]
    rw [p1] at CP1
    rcases HG2.out with ⟨g2, p2⟩ | ⟨y, m, d, h, i, s, u, g2, p2, hr, hmi⟩
    · rw [if_neg (fun hh => by rw [g2] at hh; cases hh.1)]
      rw [p2] at CP2
      clear g1 p1 g2 p2 n1 HG1 HG2
      go_enter Try.func29, Try.ntmps29
      go_wp2_with fail
      go_quiet (fail)
      go_wp2_with fail
      refine (CP1.out _).mono ?_
      rintro _ wz ⟨rfl, hb⟩
      have HB := Aside0.mk (below_step (pw_below_drewN (Below.refl _ _) _) hb)
      clear hb
      go_wp2_with fail
      refine (CP2.out _).mono ?_
      rintro _ wz2 ⟨rfl, hb⟩
      have HSZ := Aside0.mk HB.out.size
      replace HB := Aside0.mk (below_step (below_alloc HB.out _) hb)
      clear hb
      go_wp2_with fail
      go_ret2
      exact ⟨rfl, below_alloc HB.out _⟩
    · rw [p2] at CP2
      by_cases c4 : n < 1152921504606846976
      · rw [if_pos ⟨g2, c4⟩, hmi]
        obtain ⟨mb0, mb1⟩ := micros_bd y m d h i s u hr
        have HR := Aside0.mk hr
        obtain ⟨X, hX⟩ : ∃ X, microsZ y m d h i s u = X := ⟨_, rfl⟩
        have HC := Aside0.mk (fun w => civil_Micros_yes y m d h i s u w HR.out)
        rw [hX] at HC mb0 mb1 ⊢
        have hwx : IntKind.u64.wrap (T + X) = T + X := by rw [IntKind.wrap_u64]; omega
        clear g1 p1 g2 p2 n1 HG1 HG2 hX hmi hr
        go_enter Try.func29, Try.ntmps29
        go_wp2_with fail
        go_quiet (fail)
        go_wp2_with fail
        refine (CP1.out _).mono ?_
        rintro _ wz ⟨rfl, hb⟩
        have HB := Aside0.mk (below_step (pw_below_drewN (Below.refl _ _) _) hb)
        clear hb
        go_wp2_with fail
        refine (CP2.out _).mono ?_
        rintro _ wz2 ⟨rfl, hb⟩
        have HSZ := Aside0.mk HB.out.size
        replace HB := Aside0.mk (below_step (below_alloc HB.out _) hb)
        clear hb
        go_wp2_with fail
        refine (HC.out _).mono ?_
        rintro _ wz ⟨rfl, hb⟩
        replace HB := Aside0.mk (below_step (below_alloc HB.out _) hb)
        clear hb
        go_wp2_with fail
        go_ret2
        exact ⟨rfl, HB.out⟩
      · rw [if_neg (fun hh => c4 hh.2)]
        clear g1 p1 g2 p2 n1 HG1 HG2 hmi hr
        go_enter Try.func29, Try.ntmps29
        go_wp2_with fail
        go_quiet (fail)
        go_wp2_with fail
        refine (CP1.out _).mono ?_
        rintro _ wz ⟨rfl, hb⟩
        have HB := Aside0.mk (below_step (pw_below_drewN (Below.refl _ _) _) hb)
        clear hb
        go_wp2_with fail
        refine (CP2.out _).mono ?_
        rintro _ wz2 ⟨rfl, hb⟩
        have HSZ := Aside0.mk HB.out.size
        replace HB := Aside0.mk (below_step (below_alloc HB.out _) hb)
        clear hb
        go_wp2_with fail
        go_ret2
        exact ⟨rfl, below_alloc HB.out _⟩
  · rw [if_pos g1, hmi]
    rw [p1] at CP1
    have HR := Aside0.mk hr
    obtain ⟨X, hX⟩ : ∃ X, microsZ y m d h i s u = X := ⟨_, rfl⟩
    have HC := Aside0.mk (fun w => civil_Micros_yes y m d h i s u w HR.out)
    rw [hX] at HC ⊢
    clear g1 p1 n1 HG1 HG2 hX hmi hr
    go_enter Try.func29, Try.ntmps29
    go_wp2_with fail
    go_quiet (fail)
    go_wp2_with fail
    refine (CP1.out _).mono ?_
    rintro _ wz ⟨rfl, hb⟩
    have HB := Aside0.mk (below_step (pw_below_drewN (Below.refl _ _) _) hb)
    clear hb
    go_wp2_with fail
    refine (HC.out _).mono ?_
    rintro _ wz ⟨rfl, hb⟩
    replace HB := Aside0.mk (below_step (below_alloc HB.out _) hb)
    clear hb
    go_wp2_with fail
    go_ret2
    exact ⟨rfl, HB.out⟩
set_option maxHeartbeats 8000000 in
set_option maxRecDepth 100000 in
theorem rP_c (c : Int) (t : List Int) (n : Int) (w : World) (hl : isB (c :: t)) (hm : (c :: t).length ≤ 500) (n0 : 0 ≤ n) (n1 : n ≤ 18446744073709551615) (h0 : c :: t ≠ [110, 111, 119]) (h1 : c :: t ≠ [116, 111, 100, 97, 121]) (h2 : c :: t ≠ [121, 101, 115, 116, 101, 114, 100, 97, 121]) (h3 : c :: t ≠ [116, 111, 109, 111, 114, 114, 111, 119]) :
    Calls Try.prog 30 #[.string (strOfNums (c :: t)), .int .u64 n] w fun e w' => e = .returned (psV (c :: t) n) ∧ Below w.heap.size w w' := by
  have hc := hl c (by simp)
  have ht : isB t := fun x hx => hl x (List.mem_cons_of_mem _ hx)
  rw [List.length_cons] at hm
  rw [psV_cons c t n h0 h1 h2 h3]
  have f0 := lit_ne hl (c := [110, 111, 119]) (fun x hx => by simp at hx; omega) (Ne.symm h0) (C := [110, 111, 119]) rfl
  have f1 := lit_ne hl (c := [116, 111, 100, 97, 121]) (fun x hx => by simp at hx; omega) (Ne.symm h1) (C := [116, 111, 100, 97, 121]) rfl
  have f2 := lit_ne hl (c := [121, 101, 115, 116, 101, 114, 100, 97, 121]) (fun x hx => by simp at hx; omega) (Ne.symm h2) (C := [121, 101, 115, 116, 101, 114, 100, 97, 121]) rfl
  have f3 := lit_ne hl (c := [116, 111, 109, 111, 114, 114, 111, 119]) (fun x hx => by simp at hx; omega) (Ne.symm h3) (C := [116, 111, 109, 111, 114, 114, 111, 119]) rfl
  have hs := strOf_size (c :: t)
  rw [List.length_cons] at hs
  have x1 : (strOfNums (c :: t)).extract 0 1 = strOfNums [c] := by rw [strOf_extract]; rfl
  have x2 : (strOfNums (c :: t)).extract 1 (t.length + 1) = strOfNums t := by rw [strOf_extract, List.take_of_length_le (by simp)]; rfl
  have hix := str_at (c :: t) hl 0 0 rfl (by simp)
  rw [List.getD_cons_zero] at hix
  have q64 := one_lit (k := 64) hc (by omega) (K := 64) rfl
  have q45 := one_lit (k := 45) hc (by omega) (K := 45) rfl
  have q43 := one_lit (k := 43) hc (by omega) (K := 43) rfl
  obtain ⟨e0, e1⟩ := str_ne (l := c :: t) (by simp)
  have CN := Aside0.mk (fun w => ref_DNumber_calls t w ht (by omega))
  have CS := Aside0.mk (fun w => ref_Span_calls t w ht (by omega))
  rw [spV] at CS
  have CP1 := Aside0.mk (fun w => ref_Parse_calls (strOfNums (c :: t)) w (by rw [strOf_size, List.length_cons]; omega))
  rw [bytesOf_strOf hl] at CP1
  have hpre : isB preT := fun x hx => by simp [preT] at hx; omega
  have hpb : isB (preT ++ c :: t) := hpre.app hl
  have CP2 := Aside0.mk (fun w => ref_Parse_calls (strOfNums (preT ++ c :: t)) w (by rw [strOf_size, List.length_append, List.length_cons]; simp [preT]; omega))
  rw [bytesOf_strOf hpb] at CP2
  have hcat : (⟨#[49, 57, 55, 48, 45, 48, 49, 45, 48, 49, 32]⟩ : ByteArray) ++ strOfNums (c :: t) = strOfNums (preT ++ c :: t) := by
    rw [show (⟨#[49, 57, 55, 48, 45, 48, 49, 45, 48, 49, 32]⟩ : ByteArray) = strOfNums preT from rfl, strOf_append]
  obtain ⟨N, hN⟩ : ∃ N, t.length + 1 = N := ⟨_, rfl⟩
  have hN1 : 1 ≤ N := by omega
  have hN5 : N ≤ 500 := by omega
  rw [hN] at hs x2
  have hcs : (9223372036854775807 < 11 + N) = False := by simp; omega
  have hmn : min (1 : Int) (N : Int) = 1 := by omega
  obtain ⟨S, hS⟩ : ∃ S, strOfNums (c :: t) = S := ⟨_, rfl⟩
  obtain ⟨F, hF⟩ : ∃ S, strOfNums [c] = S := ⟨_, rfl⟩
  obtain ⟨R, hR⟩ : ∃ S, strOfNums t = S := ⟨_, rfl⟩
  obtain ⟨P, hP⟩ : ∃ S, strOfNums (preT ++ c :: t) = S := ⟨_, rfl⟩
  rw [hS] at hs x1 x2 hix f0 f1 f2 f3 e0 e1 CP1 hcat ⊢
  rw [hF] at x1 q64 q45 q43
  rw [hR] at x2 CN CS
  rw [hP] at CP2 hcat
  obtain ⟨M, hM⟩ : ∃ M, n % 86400000000 = M := ⟨_, rfl⟩
  have hM0 : 0 ≤ M := by omega
  have hMn : M ≤ n := by omega
  have hM2 : n.tmod 86400000000 = M := by rw [Int.tmod_eq_emod_of_nonneg n0]; exact hM
  obtain ⟨T, hT⟩ : ∃ T, n - M = T := ⟨_, rfl⟩
  have hT0 : 0 ≤ T := by omega
  have hT1 : T ≤ n := by omega
  have hwT : IntKind.u64.wrap (n - M) = T := by rw [IntKind.wrap_u64]; omega
  rw [hM, hT]
  have HG1 := Aside0.mk (good_cases (c :: t))
  have HG2 := Aside0.mk (good_cases (preT ++ c :: t))
  have HD := Aside0.mk (show dgB c = false → goodP (c :: t) = false ∧ goodP (preT ++ c :: t) = false from fun h => ⟨good_digit h, good_digit2 h⟩)
  clear hl ht hm h0 h1 h2 h3 hS hF hR hP hN hpb hpre
  obtain ⟨c0, c9⟩ := hc
  by_cases c1 : c = 64
  · rw [if_pos c1]
    have b64 : (c == 64) = true := by rw [beq_iff_eq]; omega
    have b45 : (c == 45) = false := by rw [beq_eq_false_iff_ne]; omega
    have b43 : (c == 43) = false := by rw [beq_eq_false_iff_ne]; omega
    rw [decide_eq_true (show c = 64 by omega)] at q64
    rw [decide_eq_false (show ¬ c = 45 by omega)] at q45
    rw [decide_eq_false (show ¬ c = 43 by omega)] at q43
    rw [nuV] at CN ⊢
    obtain ⟨x, ex⟩ : ∃ x, (numG t).getD 0 = x := ⟨_, rfl⟩
    obtain ⟨b, eb⟩ : ∃ x, (numG t).isSome = x := ⟨_, rfl⟩
    rw [ex, eb] at CN ⊢
    clear ex eb n1 CS CP1 CP2 c1
    go_enter Try.func30, Try.ntmps30
    go_wp2_with fail
    refine (CN.out _).mono ?_
    rintro _ wz ⟨rfl, hb⟩
    have HB := Aside0.mk (below_step (Below.refl _ _) hb)
    clear hb
    go_wp2_with fail
    go_ret2
    exact ⟨rfl, HB.out⟩
  rw [if_neg c1]
  by_cases c2 : c = 45
  · rw [if_pos c2]
    have b64 : (c == 64) = false := by rw [beq_eq_false_iff_ne]; omega
    have b45 : (c == 45) = true := by rw [beq_iff_eq]; omega
    have b43 : (c == 43) = false := by rw [beq_eq_false_iff_ne]; omega
    rw [decide_eq_false (show ¬ c = 64 by omega)] at q64
    rw [decide_eq_true (show c = 45 by omega)] at q45
    rw [decide_eq_false (show ¬ c = 43 by omega)] at q43
    cases hsp : spanP t with
    | some v =>
      rw [hsp] at CS
      obtain ⟨v0, v1⟩ := span_bd hsp
      have CB := Aside0.mk (fun w => less_calls n v w n0 n1 v0 (by omega))
      dsimp only [Option.getD_some, Option.isSome_some] at CS ⊢
      obtain ⟨X, hX⟩ : ∃ X, (if n < v then 0 else n - v) = X := ⟨_, rfl⟩
      rw [hX] at CB ⊢
      clear hX hsp n1 CN CP1 CP2 c1 c2
      go_enter Try.func30, Try.ntmps30
      go_wp2_with fail
      refine (CS.out _).mono ?_
      rintro _ wz ⟨rfl, hb⟩
      have HB := Aside0.mk (below_step (Below.refl _ _) hb)
      clear hb
      go_wp2_with fail
      refine (CB.out _).mono ?_
      rintro _ wy ⟨rfl, rfl⟩
      go_wp2_with fail
      go_ret2
      exact ⟨rfl, HB.out⟩
    | none =>
      rw [hsp] at CS
      dsimp only [Option.getD_none, Option.isSome_none] at CS ⊢
      have hd := HD.out (by rw [dgB, decide_eq_false (by omega)]; rfl)
      have hp1 : parV (c :: t) = .tuple #[.agg #[.int .i64 0, .int .i64 0, .int .i64 0, .int .i64 0, .int .i64 0, .int .i64 0, .int .i64 0], .bool false] := parV_no hd.1
      have hp2 : parV (preT ++ c :: t) = .tuple #[.agg #[.int .i64 0, .int .i64 0, .int .i64 0, .int .i64 0, .int .i64 0, .int .i64 0, .int .i64 0], .bool false] := parV_no hd.2
      rw [hp1] at CP1
      rw [hp2] at CP2
      clear hsp n1 CN c1 c2 hd hp1 hp2 HG1 HG2 HD
      go_enter Try.func30, Try.ntmps30
      go_wp2_with fail
      refine (CS.out _).mono ?_
      rintro _ wz ⟨rfl, hb⟩
      have HB := Aside0.mk (below_step (Below.refl _ _) hb)
      clear hb
      go_wp2_with fail
      refine (CP1.out _).mono ?_
      rintro _ wz ⟨rfl, hb⟩
      replace HB := Aside0.mk (below_step HB.out hb)
      clear hb
      go_wp2_with fail
      refine (CP2.out _).mono ?_
      rintro _ wz2 ⟨rfl, hb⟩
      have HSZ := Aside0.mk HB.out.size
      replace HB := Aside0.mk (below_step (below_alloc HB.out _) hb)
      have H1 := blk_below (blk_new wz _) hb
      have g0 := blk_cell H1 0
      have j0 := blk_frozen H1 0
      have g1 := blk_cell H1 1
      have j1 := blk_frozen H1 1
      have g2 := blk_cell H1 2
      have j2 := blk_frozen H1 2
      have g3 := blk_cell H1 3
      have j3 := blk_frozen H1 3
      have g4 := blk_cell H1 4
      have j4 := blk_frozen H1 4
      have g5 := blk_cell H1 5
      have j5 := blk_frozen H1 5
      have g6 := blk_cell H1 6
      have j6 := blk_frozen H1 6
      clear H1 hb
      go_wp2_with fail
      replace HB := Aside0.mk (below_set7 HB.out HSZ.out (.int .i64 0) (.int .i64 0) (.int .i64 0) (.int .i64 0) (.int .i64 0) (.int .i64 0) (.int .i64 0))
      go_ret2
      exact ⟨rfl, HB.out⟩
  rw [if_neg c2]
  by_cases c3 : c = 43
  · rw [if_pos c3]
    have b64 : (c == 64) = false := by rw [beq_eq_false_iff_ne]; omega
    have b45 : (c == 45) = false := by rw [beq_eq_false_iff_ne]; omega
    have b43 : (c == 43) = true := by rw [beq_iff_eq]; omega
    rw [decide_eq_false (show ¬ c = 64 by omega)] at q64
    rw [decide_eq_false (show ¬ c = 45 by omega)] at q45
    rw [decide_eq_true (show c = 43 by omega)] at q43
    cases hsp : spanP t with
    | some v =>
      rw [hsp] at CS
      obtain ⟨v0, v1⟩ := span_bd hsp
      dsimp only [Option.getD_some, Option.isSome_some] at CS ⊢
      by_cases c4 : n < 1152921504606846976
      · rw [if_pos c4]
        have hwv : IntKind.u64.wrap (n + v) = n + v := by rw [IntKind.wrap_u64]; omega
        clear hsp n1 CN CP1 CP2 c1 c2 c3
        go_enter Try.func30, Try.ntmps30
        go_wp2_with fail
        refine (CS.out _).mono ?_
        rintro _ wz ⟨rfl, hb⟩
        have HB := Aside0.mk (below_step (Below.refl _ _) hb)
        clear hb
        go_wp2_with fail
        go_ret2
        exact ⟨rfl, HB.out⟩
      · rw [if_neg c4]
        have hd := HD.out (by rw [dgB, decide_eq_false (by omega)]; rfl)
        have hp1 : parV (c :: t) = .tuple #[.agg #[.int .i64 0, .int .i64 0, .int .i64 0, .int .i64 0, .int .i64 0, .int .i64 0, .int .i64 0], .bool false] := parV_no hd.1
        have hp2 : parV (preT ++ c :: t) = .tuple #[.agg #[.int .i64 0, .int .i64 0, .int .i64 0, .int .i64 0, .int .i64 0, .int .i64 0, .int .i64 0], .bool false] := parV_no hd.2
        rw [hp1] at CP1
        rw [hp2] at CP2
        clear hsp n1 CN c1 c2 c3 hd hp1 hp2 HG1 HG2 HD
        go_enter Try.func30, Try.ntmps30
        go_wp2_with fail
        refine (CS.out _).mono ?_
        rintro _ wz ⟨rfl, hb⟩
        have HB := Aside0.mk (below_step (Below.refl _ _) hb)
        clear hb
        go_wp2_with fail
        refine (CP1.out _).mono ?_
        rintro _ wz ⟨rfl, hb⟩
        replace HB := Aside0.mk (below_step HB.out hb)
        clear hb
        go_wp2_with fail
        refine (CP2.out _).mono ?_
        rintro _ wz2 ⟨rfl, hb⟩
        have HSZ := Aside0.mk HB.out.size
        replace HB := Aside0.mk (below_step (below_alloc HB.out _) hb)
        have H1 := blk_below (blk_new wz _) hb
        have g0 := blk_cell H1 0
        have j0 := blk_frozen H1 0
        have g1 := blk_cell H1 1
        have j1 := blk_frozen H1 1
        have g2 := blk_cell H1 2
        have j2 := blk_frozen H1 2
        have g3 := blk_cell H1 3
        have j3 := blk_frozen H1 3
        have g4 := blk_cell H1 4
        have j4 := blk_frozen H1 4
        have g5 := blk_cell H1 5
        have j5 := blk_frozen H1 5
        have g6 := blk_cell H1 6
        have j6 := blk_frozen H1 6
        clear H1 hb
        go_wp2_with fail
        replace HB := Aside0.mk (below_set7 HB.out HSZ.out (.int .i64 0) (.int .i64 0) (.int .i64 0) (.int .i64 0) (.int .i64 0) (.int .i64 0) (.int .i64 0))
        go_ret2
        exact ⟨rfl, HB.out⟩
    | none =>
      rw [hsp] at CS
      dsimp only [Option.getD_none, Option.isSome_none] at CS ⊢
      have hd := HD.out (by rw [dgB, decide_eq_false (by omega)]; rfl)
      have hp1 : parV (c :: t) = .tuple #[.agg #[.int .i64 0, .int .i64 0, .int .i64 0, .int .i64 0, .int .i64 0, .int .i64 0, .int .i64 0], .bool false] := parV_no hd.1
      have hp2 : parV (preT ++ c :: t) = .tuple #[.agg #[.int .i64 0, .int .i64 0, .int .i64 0, .int .i64 0, .int .i64 0, .int .i64 0, .int .i64 0], .bool false] := parV_no hd.2
      rw [hp1] at CP1
      rw [hp2] at CP2
      clear hsp n1 CN c1 c2 c3 hd hp1 hp2 HG1 HG2 HD
      go_enter Try.func30, Try.ntmps30
      go_wp2_with fail
      refine (CS.out _).mono ?_
      rintro _ wz ⟨rfl, hb⟩
      have HB := Aside0.mk (below_step (Below.refl _ _) hb)
      clear hb
      go_wp2_with fail
      refine (CP1.out _).mono ?_
      rintro _ wz ⟨rfl, hb⟩
      replace HB := Aside0.mk (below_step HB.out hb)
      clear hb
      go_wp2_with fail
      refine (CP2.out _).mono ?_
      rintro _ wz2 ⟨rfl, hb⟩
      have HSZ := Aside0.mk HB.out.size
      replace HB := Aside0.mk (below_step (below_alloc HB.out _) hb)
      have H1 := blk_below (blk_new wz _) hb
      have g0 := blk_cell H1 0
      have j0 := blk_frozen H1 0
      have g1 := blk_cell H1 1
      have j1 := blk_frozen H1 1
      have g2 := blk_cell H1 2
      have j2 := blk_frozen H1 2
      have g3 := blk_cell H1 3
      have j3 := blk_frozen H1 3
      have g4 := blk_cell H1 4
      have j4 := blk_frozen H1 4
      have g5 := blk_cell H1 5
      have j5 := blk_frozen H1 5
      have g6 := blk_cell H1 6
      have j6 := blk_frozen H1 6
      clear H1 hb
      go_wp2_with fail
      replace HB := Aside0.mk (below_set7 HB.out HSZ.out (.int .i64 0) (.int .i64 0) (.int .i64 0) (.int .i64 0) (.int .i64 0) (.int .i64 0) (.int .i64 0))
      go_ret2
      exact ⟨rfl, HB.out⟩
  rw [if_neg c3]
  have b64 : (c == 64) = false := by rw [beq_eq_false_iff_ne]; omega
  have b45 : (c == 45) = false := by rw [beq_eq_false_iff_ne]; omega
  have b43 : (c == 43) = false := by rw [beq_eq_false_iff_ne]; omega
  rw [decide_eq_false (show ¬ c = 64 by omega)] at q64
  rw [decide_eq_false (show ¬ c = 45 by omega)] at q45
  rw [decide_eq_false (show ¬ c = 43 by omega)] at q43
  obtain ⟨x, ex⟩ : ∃ x, (spanP t).getD 0 = x := ⟨_, rfl⟩
  obtain ⟨b, eb⟩ : ∃ x, (spanP t).isSome = x := ⟨_, rfl⟩
  rw [ex, eb] at CS
  clear ex eb CN c1 c2 c3 HD
  rcases HG1.out with ⟨g1, p1⟩ | ⟨y, m, d, h, i, s, u, g1, p1, hr, hmi⟩
  · rw [if_neg (by rw [g1]; decide)]
    rw [p1] at CP1
    rcases HG2.out with ⟨g2, p2⟩ | ⟨y, m, d, h, i, s, u, g2, p2, hr, hmi⟩
    · rw [if_neg (fun hh => by rw [g2] at hh; cases hh.1)]
      rw [p2] at CP2
      clear g1 p1 g2 p2 n1 HG1 HG2
      go_enter Try.func30, Try.ntmps30
      go_wp2_with fail
      refine (CS.out _).mono ?_
      rintro _ wz ⟨rfl, hb⟩
      have HB := Aside0.mk (below_step (Below.refl _ _) hb)
      clear hb
      go_wp2_with fail
      refine (CP1.out _).mono ?_
      rintro _ wz ⟨rfl, hb⟩
      replace HB := Aside0.mk (below_step HB.out hb)
      clear hb
      go_wp2_with fail
      refine (CP2.out _).mono ?_
      rintro _ wz2 ⟨rfl, hb⟩
      have HSZ := Aside0.mk HB.out.size
      replace HB := Aside0.mk (below_step (below_alloc HB.out _) hb)
      have H1 := blk_below (blk_new wz _) hb
      have g0 := blk_cell H1 0
      have j0 := blk_frozen H1 0
      have g1 := blk_cell H1 1
      have j1 := blk_frozen H1 1
      have g2 := blk_cell H1 2
      have j2 := blk_frozen H1 2
      have g3 := blk_cell H1 3
      have j3 := blk_frozen H1 3
      have g4 := blk_cell H1 4
      have j4 := blk_frozen H1 4
      have g5 := blk_cell H1 5
      have j5 := blk_frozen H1 5
      have g6 := blk_cell H1 6
      have j6 := blk_frozen H1 6
      clear H1 hb
      go_wp2_with fail
      replace HB := Aside0.mk (below_set7 HB.out HSZ.out (.int .i64 0) (.int .i64 0) (.int .i64 0) (.int .i64 0) (.int .i64 0) (.int .i64 0) (.int .i64 0))
      go_ret2
      exact ⟨rfl, HB.out⟩
    · rw [p2] at CP2
      by_cases c4 : n < 1152921504606846976
      · rw [if_pos ⟨g2, c4⟩, hmi]
        obtain ⟨mb0, mb1⟩ := micros_bd y m d h i s u hr
        have HR := Aside0.mk hr
        obtain ⟨X, hX⟩ : ∃ X, microsZ y m d h i s u = X := ⟨_, rfl⟩
        have HC := Aside0.mk (fun w => ref_Micros_calls y m d h i s u w HR.out)
        rw [hX] at HC mb0 mb1 ⊢
        have hwx : IntKind.u64.wrap (T + X) = T + X := by rw [IntKind.wrap_u64]; omega
        clear g1 p1 g2 p2 n1 HG1 HG2 hX hmi hr
        go_enter Try.func30, Try.ntmps30
        go_wp2_with fail
        refine (CS.out _).mono ?_
        rintro _ wz ⟨rfl, hb⟩
        have HB := Aside0.mk (below_step (Below.refl _ _) hb)
        clear hb
        go_wp2_with fail
        refine (CP1.out _).mono ?_
        rintro _ wz ⟨rfl, hb⟩
        replace HB := Aside0.mk (below_step HB.out hb)
        clear hb
        go_wp2_with fail
        refine (CP2.out _).mono ?_
        rintro _ wz2 ⟨rfl, hb⟩
        have HSZ := Aside0.mk HB.out.size
        replace HB := Aside0.mk (below_step (below_alloc HB.out _) hb)
        have H1 := blk_below (blk_new wz _) hb
        have g0 := blk_cell H1 0
        have j0 := blk_frozen H1 0
        have g1 := blk_cell H1 1
        have j1 := blk_frozen H1 1
        have g2 := blk_cell H1 2
        have j2 := blk_frozen H1 2
        have g3 := blk_cell H1 3
        have j3 := blk_frozen H1 3
        have g4 := blk_cell H1 4
        have j4 := blk_frozen H1 4
        have g5 := blk_cell H1 5
        have j5 := blk_frozen H1 5
        have g6 := blk_cell H1 6
        have j6 := blk_frozen H1 6
        clear H1 hb
        go_wp2_with fail
        refine (HC.out _).mono ?_
        rintro _ wz3 ⟨rfl, hb⟩
        replace HB := Aside0.mk (below_step (below_set7 HB.out HSZ.out _ _ _ _ _ _ _) hb)
        clear hb
        go_wp2_with fail
        go_ret2
        exact ⟨rfl, HB.out⟩
      · rw [if_neg (fun hh => c4 hh.2)]
        clear g1 p1 g2 p2 n1 HG1 HG2 hmi hr
        go_enter Try.func30, Try.ntmps30
        go_wp2_with fail
        refine (CS.out _).mono ?_
        rintro _ wz ⟨rfl, hb⟩
        have HB := Aside0.mk (below_step (Below.refl _ _) hb)
        clear hb
        go_wp2_with fail
        refine (CP1.out _).mono ?_
        rintro _ wz ⟨rfl, hb⟩
        replace HB := Aside0.mk (below_step HB.out hb)
        clear hb
        go_wp2_with fail
        refine (CP2.out _).mono ?_
        rintro _ wz2 ⟨rfl, hb⟩
        have HSZ := Aside0.mk HB.out.size
        replace HB := Aside0.mk (below_step (below_alloc HB.out _) hb)
        have H1 := blk_below (blk_new wz _) hb
        have g0 := blk_cell H1 0
        have j0 := blk_frozen H1 0
        have g1 := blk_cell H1 1
        have j1 := blk_frozen H1 1
        have g2 := blk_cell H1 2
        have j2 := blk_frozen H1 2
        have g3 := blk_cell H1 3
        have j3 := blk_frozen H1 3
        have g4 := blk_cell H1 4
        have j4 := blk_frozen H1 4
        have g5 := blk_cell H1 5
        have j5 := blk_frozen H1 5
        have g6 := blk_cell H1 6
        have j6 := blk_frozen H1 6
        clear H1 hb
        go_wp2_with fail
        replace HB := Aside0.mk (below_set7 HB.out HSZ.out (.int .i64 y) (.int .i64 m) (.int .i64 d) (.int .i64 h) (.int .i64 i) (.int .i64 s) (.int .i64 u))
        go_ret2
        exact ⟨rfl, HB.out⟩
  · rw [if_pos g1, hmi]
    rw [p1] at CP1
    have HR := Aside0.mk hr
    obtain ⟨X, hX⟩ : ∃ X, microsZ y m d h i s u = X := ⟨_, rfl⟩
    have HC := Aside0.mk (fun w => ref_Micros_calls y m d h i s u w HR.out)
    rw [hX] at HC ⊢
    clear g1 p1 n1 HG1 HG2 hX hmi hr
    go_enter Try.func30, Try.ntmps30
    go_wp2_with fail
    refine (CS.out _).mono ?_
    rintro _ wz ⟨rfl, hb⟩
    have HB := Aside0.mk (below_step (Below.refl _ _) hb)
    clear hb
    go_wp2_with fail
    refine (CP1.out _).mono ?_
    rintro _ wz ⟨rfl, hb⟩
    replace HB := Aside0.mk (below_step HB.out hb)
    clear hb
    go_wp2_with fail
    refine (HC.out _).mono ?_
    rintro _ wz ⟨rfl, hb⟩
    replace HB := Aside0.mk (below_step (below_alloc HB.out _) hb)
    clear hb
    go_wp2_with fail
    go_ret2
    exact ⟨rfl, HB.out⟩

end Go.Proofs.Ytplmdgimodgekaa
