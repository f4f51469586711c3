/- Syslog: which letters a name has: the program's, the reference's. -/
import Derived.Test.YtplmdgimodgekaaStrC
import Derived.Test.YtplmdgimodgekaaSinU
namespace Go.Proofs.Ytplmdgimodgekaa
open Go.RowKit Go.Proofs.YtplmdgimodgekaaW.PrintWords Go.Proofs.YtplmdgimodgekaaW.PrintLast Go.Proofs.YtplmdgimodgekaaW.PrintMore
attribute [local go_sem] max2_int min2_int max_two min_two max_three min_three max_four min_four   -- for this text's walks alone
set_option linter.unusedVariables false
set_option linter.unusedSimpArgs false

def namL : List Int := [45, 95, 46, 47, 48, 49, 50, 51, 52, 53, 54, 55, 56, 57, 65, 66, 67, 68, 69, 70, 71, 72, 73, 74, 75, 76, 77, 78, 79, 80, 81, 82, 83, 84, 85, 86, 87, 88, 89, 90, 97, 98, 99, 100, 101, 102, 103, 104, 105, 106, 107, 108, 109, 110, 111, 112, 113, 114, 115, 116, 117, 118, 119, 120, 121, 122]
def namB (c : Int) : Bool := decide (48 ≤ c ∧ c ≤ 57 ∨ 65 ≤ c ∧ c ≤ 90 ∨ 97 ≤ c ∧ c ≤ 122 ∨ c = 45 ∨ c = 46 ∨ c = 47 ∨ c = 95)
theorem namB_in : ∀ k : Nat, k < 66 → namB (namL.getD k 0) = true := by
  have h : ∀ k : Fin 66, namB (namL.getD k.val 0) = true := by decide +kernel
  exact fun k hk => h ⟨k, hk⟩
theorem namB_out {c : Int} (h : ∀ k : Nat, k < 66 → namL.getD k 0 ≠ c) : namB c = false := by
  cases hb : namB c with
  | false => rfl
  | true =>
    exfalso
    rw [namB] at hb
    have hb := of_decide_eq_true hb
    have hc : 45 ≤ c ∧ c ≤ 122 := by omega
    have key : ∀ d : Fin 78, namB ((d.val : Int) + 45) = true → ∃ k : Fin 66, namL.getD k.val 0 = (d.val : Int) + 45 := by decide +kernel
    obtain ⟨k, hk⟩ := key ⟨(c - 45).toNat, by omega⟩ (by
      rw [show (((⟨(c - 45).toNat, by omega⟩ : Fin 78).val : Nat) : Int) + 45 = c by show (((c - 45).toNat : Nat) : Int) + 45 = c; omega]
      rw [namB]; exact decide_eq_true hb)
    refine h k.val k.isLt ?_
    rw [hk]
    show (((c - 45).toNat : Nat) : Int) + 45 = c
    omega

set_option maxHeartbeats 8000000 in
set_option maxRecDepth 100000 in
theorem naming_0 (c : Int) (w : World) (h0 : 0 ≤ c) (h1 : c ≤ 44) : Calls Try.prog 84 #[.int .u8 c] w fun e w' => e = .returned (.bool false) ∧ w = w' := by
  have b45 : (c == 45) = false := by rw [beq_eq_false_iff_ne]; omega
  have b46 : (c == 46) = false := by rw [beq_eq_false_iff_ne]; omega
  have b47 : (c == 47) = false := by rw [beq_eq_false_iff_ne]; omega
  have b95 : (c == 95) = false := by rw [beq_eq_false_iff_ne]; omega
  go_enter Try.func84, Try.ntmps84
  go_wp2_with fail
  go_ret
  exact ⟨rfl, rfl⟩
set_option maxHeartbeats 8000000 in
set_option maxRecDepth 100000 in
theorem naming_1 (c : Int) (w : World) (h0 : 45 ≤ c) (h1 : c ≤ 45) : Calls Try.prog 84 #[.int .u8 c] w fun e w' => e = .returned (.bool true) ∧ w = w' := by
  obtain rfl : c = 45 := by omega
  clear h0 h1
  go_enter Try.func84, Try.ntmps84
  go_wp2_with fail
  go_ret
  exact ⟨rfl, rfl⟩
set_option maxHeartbeats 8000000 in
set_option maxRecDepth 100000 in
theorem naming_2 (c : Int) (w : World) (h0 : 46 ≤ c) (h1 : c ≤ 46) : Calls Try.prog 84 #[.int .u8 c] w fun e w' => e = .returned (.bool true) ∧ w = w' := by
  obtain rfl : c = 46 := by omega
  clear h0 h1
  go_enter Try.func84, Try.ntmps84
  go_wp2_with fail
  go_ret
  exact ⟨rfl, rfl⟩
set_option maxHeartbeats 8000000 in
set_option maxRecDepth 100000 in
theorem naming_3 (c : Int) (w : World) (h0 : 47 ≤ c) (h1 : c ≤ 47) : Calls Try.prog 84 #[.int .u8 c] w fun e w' => e = .returned (.bool true) ∧ w = w' := by
  obtain rfl : c = 47 := by omega
  clear h0 h1
  go_enter Try.func84, Try.ntmps84
  go_wp2_with fail
  go_ret
  exact ⟨rfl, rfl⟩
set_option maxHeartbeats 8000000 in
set_option maxRecDepth 100000 in
theorem naming_4 (c : Int) (w : World) (h0 : 48 ≤ c) (h1 : c ≤ 57) : Calls Try.prog 84 #[.int .u8 c] w fun e w' => e = .returned (.bool true) ∧ w = w' := by
  have b45 : (c == 45) = false := by rw [beq_eq_false_iff_ne]; omega
  have b46 : (c == 46) = false := by rw [beq_eq_false_iff_ne]; omega
  have b47 : (c == 47) = false := by rw [beq_eq_false_iff_ne]; omega
  have b95 : (c == 95) = false := by rw [beq_eq_false_iff_ne]; omega
  go_enter Try.func84, Try.ntmps84
  go_wp2_with fail
  go_ret
  exact ⟨rfl, rfl⟩
set_option maxHeartbeats 8000000 in
set_option maxRecDepth 100000 in
theorem naming_5 (c : Int) (w : World) (h0 : 58 ≤ c) (h1 : c ≤ 64) : Calls Try.prog 84 #[.int .u8 c] w fun e w' => e = .returned (.bool false) ∧ w = w' := by
  have b45 : (c == 45) = false := by rw [beq_eq_false_iff_ne]; omega
  have b46 : (c == 46) = false := by rw [beq_eq_false_iff_ne]; omega
  have b47 : (c == 47) = false := by rw [beq_eq_false_iff_ne]; omega
  have b95 : (c == 95) = false := by rw [beq_eq_false_iff_ne]; omega
  have d57 : decide (c ≤ 57) = false := decide_eq_false (by omega)
  go_enter Try.func84, Try.ntmps84
  go_wp2_with fail
  go_ret
  exact ⟨rfl, rfl⟩
set_option maxHeartbeats 8000000 in
set_option maxRecDepth 100000 in
theorem naming_6 (c : Int) (w : World) (h0 : 65 ≤ c) (h1 : c ≤ 90) : Calls Try.prog 84 #[.int .u8 c] w fun e w' => e = .returned (.bool true) ∧ w = w' := by
  have b45 : (c == 45) = false := by rw [beq_eq_false_iff_ne]; omega
  have b46 : (c == 46) = false := by rw [beq_eq_false_iff_ne]; omega
  have b47 : (c == 47) = false := by rw [beq_eq_false_iff_ne]; omega
  have b95 : (c == 95) = false := by rw [beq_eq_false_iff_ne]; omega
  have d57 : decide (c ≤ 57) = false := decide_eq_false (by omega)
  go_enter Try.func84, Try.ntmps84
  go_wp2_with fail
  go_ret
  exact ⟨rfl, rfl⟩
set_option maxHeartbeats 8000000 in
set_option maxRecDepth 100000 in
theorem naming_7 (c : Int) (w : World) (h0 : 91 ≤ c) (h1 : c ≤ 94) : Calls Try.prog 84 #[.int .u8 c] w fun e w' => e = .returned (.bool false) ∧ w = w' := by
  have b45 : (c == 45) = false := by rw [beq_eq_false_iff_ne]; omega
  have b46 : (c == 46) = false := by rw [beq_eq_false_iff_ne]; omega
  have b47 : (c == 47) = false := by rw [beq_eq_false_iff_ne]; omega
  have b95 : (c == 95) = false := by rw [beq_eq_false_iff_ne]; omega
  have d57 : decide (c ≤ 57) = false := decide_eq_false (by omega)
  have d90 : decide (c ≤ 90) = false := decide_eq_false (by omega)
  go_enter Try.func84, Try.ntmps84
  go_wp2_with fail
  go_ret
  exact ⟨rfl, rfl⟩
set_option maxHeartbeats 8000000 in
set_option maxRecDepth 100000 in
theorem naming_8 (c : Int) (w : World) (h0 : 95 ≤ c) (h1 : c ≤ 95) : Calls Try.prog 84 #[.int .u8 c] w fun e w' => e = .returned (.bool true) ∧ w = w' := by
  obtain rfl : c = 95 := by omega
  clear h0 h1
  go_enter Try.func84, Try.ntmps84
  go_wp2_with fail
  go_ret
  exact ⟨rfl, rfl⟩
set_option maxHeartbeats 8000000 in
set_option maxRecDepth 100000 in
theorem naming_9 (c : Int) (w : World) (h0 : 96 ≤ c) (h1 : c ≤ 96) : Calls Try.prog 84 #[.int .u8 c] w fun e w' => e = .returned (.bool false) ∧ w = w' := by
  obtain rfl : c = 96 := by omega
  clear h0 h1
  go_enter Try.func84, Try.ntmps84
  go_wp2_with fail
  go_ret
  exact ⟨rfl, rfl⟩
set_option maxHeartbeats 8000000 in
set_option maxRecDepth 100000 in
theorem naming_10 (c : Int) (w : World) (h0 : 97 ≤ c) (h1 : c ≤ 122) : Calls Try.prog 84 #[.int .u8 c] w fun e w' => e = .returned (.bool true) ∧ w = w' := by
  have b45 : (c == 45) = false := by rw [beq_eq_false_iff_ne]; omega
  have b46 : (c == 46) = false := by rw [beq_eq_false_iff_ne]; omega
  have b47 : (c == 47) = false := by rw [beq_eq_false_iff_ne]; omega
  have b95 : (c == 95) = false := by rw [beq_eq_false_iff_ne]; omega
  have d57 : decide (c ≤ 57) = false := decide_eq_false (by omega)
  have d90 : decide (c ≤ 90) = false := decide_eq_false (by omega)
  go_enter Try.func84, Try.ntmps84
  go_wp2_with fail
  go_ret
  exact ⟨rfl, rfl⟩
set_option maxHeartbeats 8000000 in
set_option maxRecDepth 100000 in
theorem naming_11 (c : Int) (w : World) (h0 : 123 ≤ c) (h1 : c ≤ 255) : Calls Try.prog 84 #[.int .u8 c] w fun e w' => e = .returned (.bool false) ∧ w = w' := by
  have b45 : (c == 45) = false := by rw [beq_eq_false_iff_ne]; omega
  have b46 : (c == 46) = false := by rw [beq_eq_false_iff_ne]; omega
  have b47 : (c == 47) = false := by rw [beq_eq_false_iff_ne]; omega
  have b95 : (c == 95) = false := by rw [beq_eq_false_iff_ne]; omega
  have d57 : decide (c ≤ 57) = false := decide_eq_false (by omega)
  have d90 : decide (c ≤ 90) = false := decide_eq_false (by omega)
  have d122 : decide (c ≤ 122) = false := decide_eq_false (by omega)
  go_enter Try.func84, Try.ntmps84
  go_wp2_with fail
  go_ret
  exact ⟨rfl, rfl⟩
theorem naming_calls (c : Int) (w : World) (h0 : 0 ≤ c) (h1 : c ≤ 255) : Calls Try.prog 84 #[.int .u8 c] w fun e w' => e = .returned (.bool (namB c)) ∧ w = w' := by
  by_cases c0 : c ≤ 44
  · rw [show namB c = false by rw [namB]; exact decide_eq_false (by omega)]; exact naming_0 c w (by omega) c0
  by_cases c1 : c ≤ 45
  · rw [show namB c = true by rw [namB]; exact decide_eq_true (by omega)]; exact naming_1 c w (by omega) c1
  by_cases c2 : c ≤ 46
  · rw [show namB c = true by rw [namB]; exact decide_eq_true (by omega)]; exact naming_2 c w (by omega) c2
  by_cases c3 : c ≤ 47
  · rw [show namB c = true by rw [namB]; exact decide_eq_true (by omega)]; exact naming_3 c w (by omega) c3
  by_cases c4 : c ≤ 57
  · rw [show namB c = true by rw [namB]; exact decide_eq_true (by omega)]; exact naming_4 c w (by omega) c4
  by_cases c5 : c ≤ 64
  · rw [show namB c = false by rw [namB]; exact decide_eq_false (by omega)]; exact naming_5 c w (by omega) c5
  by_cases c6 : c ≤ 90
  · rw [show namB c = true by rw [namB]; exact decide_eq_true (by omega)]; exact naming_6 c w (by omega) c6
  by_cases c7 : c ≤ 94
  · rw [show namB c = false by rw [namB]; exact decide_eq_false (by omega)]; exact naming_7 c w (by omega) c7
  by_cases c8 : c ≤ 95
  · rw [show namB c = true by rw [namB]; exact decide_eq_true (by omega)]; exact naming_8 c w (by omega) c8
  by_cases c9 : c ≤ 96
  · rw [show namB c = false by rw [namB]; exact decide_eq_false (by omega)]; exact naming_9 c w (by omega) c9
  by_cases c10 : c ≤ 122
  · rw [show namB c = true by rw [namB]; exact decide_eq_true (by omega)]; exact naming_10 c w (by omega) c10
  by_cases c11 : c ≤ 255
  · rw [show namB c = false by rw [namB]; exact decide_eq_false (by omega)]; exact naming_11 c w (by omega) c11
  omega

set_option maxHeartbeats 8000000 in
set_option maxRecDepth 100000 in
theorem ref_naming_calls (c : Int) (w : World) (h0 : 0 ≤ c) (h1 : c ≤ 255) : Calls Try.prog 80 #[.int .u8 c] w fun e w' => e = .returned (.bool (namB c)) ∧ w = w' := by
  have hL : isB namL := by
    have : namL.all (fun x => decide (0 ≤ x ∧ x ≤ 255)) = true := by decide
    exact fun x hx => of_decide_eq_true (List.all_eq_true.1 this x hx)
  have HL := Aside0.mk hL
  clear hL
  go_enter Try.func80, Try.ntmps80
  go_upto_region 1 with fail
  go_cut [3] (fun v wx => v = .string (strOfNums namL) ∧ w = wx)
  case first =>
    go_wp2_with fail
    go_meet
    exact ⟨rfl, rfl⟩
  case rest =>
  obtain ⟨rfl, rfl⟩ := hcut
  have hs : (strOfNums namL).size = 66 := rfl
  obtain ⟨S, hS⟩ : ∃ S, strOfNums namL = S := ⟨_, rfl⟩
  rw [hS] at hs ⊢
  have HS := Aside0.mk hS
  clear hS
  go_wp2_with fail
  go_loop [4] (fun v4 => ∃ k : Nat, k ≤ 66 ∧ v4 = .int .i64 k ∧ Aside0 (∀ j, j < k → namL.getD j 0 ≠ c)) (fun v4 => 66 - (intOf v4).toNat)
  case atStart => exact ⟨0, by omega, rfl, ⟨fun j h => by omega⟩⟩
  case round =>
    obtain ⟨k, hk, rfl, HK⟩ := hrel
    by_cases c1 : k < 66
    · have hix := str_at namL HL.out k k rfl (by rw [show namL.length = 66 from rfl]; exact c1)
      rw [HS.out] at hix
      obtain ⟨x, hx⟩ : ∃ x, namL.getD k 0 = x := ⟨_, rfl⟩
      have HX := Aside0.mk hx
      rw [hx] at hix
      clear hx
      by_cases c2 : x = c
      · have HR := Aside0.mk (show namB c = true by rw [← c2, ← HX.out]; exact namB_in k c1)
        have b1 : (x == c) = true := by rw [beq_iff_eq]; exact c2
        clear c2
        go_wp2_with fail
        go_ret
        exact ⟨by rw [HR.out]; rfl, rfl⟩
      · have HK2 := Aside0.mk (show ∀ j, j < k + 1 → namL.getD j 0 ≠ c from fun j hj => by
          by_cases e : j = k
          · rw [e, HX.out]; exact c2
          · exact HK.out j (by omega))
        have b1 : (x == c) = false := by rw [beq_eq_false_iff_ne]; exact c2
        clear c2
        go_wp2_with fail
        go_round
        case rel => exact ⟨k + 1, by omega, by go_num, HK2⟩
        case measure => simp [intOf] <;> omega
    · obtain rfl : k = 66 := by omega
      have HR := Aside0.mk (namB_out HK.out)
      go_wp2_with fail
      go_ret
      exact ⟨by rw [HR.out]; rfl, rfl⟩
end Go.Proofs.Ytplmdgimodgekaa
