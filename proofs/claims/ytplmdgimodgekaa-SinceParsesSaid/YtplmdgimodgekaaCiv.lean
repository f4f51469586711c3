/- Contracts of package civil, and of its reference: leap years, months, right times. -/
import Derived.Test.YtplmdgimodgekaaCivPure
namespace Go.Proofs.Ytplmdgimodgekaa
open Go.RowKit Go.Proofs.YtplmdgimodgekaaW.PrintWords Go.Proofs.YtplmdgimodgekaaW.PrintLast Go.Proofs.YtplmdgimodgekaaW.PrintMore
attribute [local go_sem] max2_int min2_int max_two min_two max_three min_three max_four min_four   -- for this text's walks alone
set_option linter.unusedVariables false
set_option linter.unusedSimpArgs false

theorem leap_ways (y : Int) : (leapB y = false ∧ ¬ (4 : Int) ∣ y ∧ ¬ (100 : Int) ∣ y ∧ ¬ (400 : Int) ∣ y) ∨ (leapB y = true ∧ (4 : Int) ∣ y ∧ ¬ (100 : Int) ∣ y ∧ ¬ (400 : Int) ∣ y) ∨ (leapB y = false ∧ (4 : Int) ∣ y ∧ (100 : Int) ∣ y ∧ ¬ (400 : Int) ∣ y) ∨ (leapB y = true ∧ (4 : Int) ∣ y ∧ (100 : Int) ∣ y ∧ (400 : Int) ∣ y) := by
  by_cases h4 : (4 : Int) ∣ y <;> by_cases h100 : (100 : Int) ∣ y <;> by_cases h400 : (400 : Int) ∣ y <;> simp [leapB, h4, h100, h400] <;> omega

set_option maxHeartbeats 8000000 in
set_option maxRecDepth 100000 in
theorem civil_Leap_calls (y : Int) (w : World) : Calls Try.prog 147 #[.int .i64 y] w fun e w' => e = .returned (.bool (leapB y)) ∧ w = w' := by
  rcases leap_ways y with ⟨h, h4, h100, h400⟩ | ⟨h, h4, h100, h400⟩ | ⟨h, h4, h100, h400⟩ | ⟨h, h4, h100, h400⟩
  · obtain ⟨e4, f4⟩ := tz_no h4
    obtain ⟨e100, f100⟩ := tz_no h100
    obtain ⟨e400, f400⟩ := tz_no h400
    have HE := Aside0.mk h
    clear h4 h100 h400 h
    go_enter Try.func147, Try.ntmps147
    go_wp2
    go_ret
    exact ⟨by rw [HE.out]; rfl, rfl⟩
  · obtain ⟨e4, f4⟩ := tz_yes h4
    obtain ⟨e100, f100⟩ := tz_no h100
    obtain ⟨e400, f400⟩ := tz_no h400
    have HE := Aside0.mk h
    clear h4 h100 h400 h
    go_enter Try.func147, Try.ntmps147
    go_wp2
    go_ret
    exact ⟨by rw [HE.out]; rfl, rfl⟩
  · obtain ⟨e4, f4⟩ := tz_yes h4
    obtain ⟨e100, f100⟩ := tz_yes h100
    obtain ⟨e400, f400⟩ := tz_no h400
    have HE := Aside0.mk h
    clear h4 h100 h400 h
    go_enter Try.func147, Try.ntmps147
    go_wp2
    go_ret
    exact ⟨by rw [HE.out]; rfl, rfl⟩
  · obtain ⟨e4, f4⟩ := tz_yes h4
    obtain ⟨e100, f100⟩ := tz_yes h100
    obtain ⟨e400, f400⟩ := tz_yes h400
    have HE := Aside0.mk h
    clear h4 h100 h400 h
    go_enter Try.func147, Try.ntmps147
    go_wp2
    go_ret
    exact ⟨by rw [HE.out]; rfl, rfl⟩

set_option maxHeartbeats 8000000 in
set_option maxRecDepth 100000 in
theorem ref_Leap_calls (y : Int) (w : World) : Calls Try.prog 139 #[.int .i64 y] w fun e w' => e = .returned (.bool (leapB y)) ∧ w = w' := by
  rcases leap_ways y with ⟨h, h4, h100, h400⟩ | ⟨h, h4, h100, h400⟩ | ⟨h, h4, h100, h400⟩ | ⟨h, h4, h100, h400⟩
  · obtain ⟨e4, f4⟩ := tz_no h4
    obtain ⟨e100, f100⟩ := tz_no h100
    obtain ⟨e400, f400⟩ := tz_no h400
    have HE := Aside0.mk h
    clear h4 h100 h400 h
    go_enter Try.func139, Try.ntmps139
    go_wp2
    go_ret
    exact ⟨by rw [HE.out]; rfl, rfl⟩
  · obtain ⟨e4, f4⟩ := tz_yes h4
    obtain ⟨e100, f100⟩ := tz_no h100
    obtain ⟨e400, f400⟩ := tz_no h400
    have HE := Aside0.mk h
    clear h4 h100 h400 h
    go_enter Try.func139, Try.ntmps139
    go_wp2
    go_ret
    exact ⟨by rw [HE.out]; rfl, rfl⟩
  · obtain ⟨e4, f4⟩ := tz_yes h4
    obtain ⟨e100, f100⟩ := tz_yes h100
    obtain ⟨e400, f400⟩ := tz_no h400
    have HE := Aside0.mk h
    clear h4 h100 h400 h
    go_enter Try.func139, Try.ntmps139
    go_wp2
    go_ret
    exact ⟨by rw [HE.out]; rfl, rfl⟩
  · obtain ⟨e4, f4⟩ := tz_yes h4
    obtain ⟨e100, f100⟩ := tz_yes h100
    obtain ⟨e400, f400⟩ := tz_yes h400
    have HE := Aside0.mk h
    clear h4 h100 h400 h
    go_enter Try.func139, Try.ntmps139
    go_wp2
    go_ret
    exact ⟨by rw [HE.out]; rfl, rfl⟩

theorem month_ways (m : Int) : m = 1 ∨ m = 2 ∨ m = 3 ∨ m = 4 ∨ m = 5 ∨ m = 6 ∨ m = 7 ∨ m = 8 ∨ m = 9 ∨ m = 10 ∨ m = 11 ∨ m = 12 ∨ m < 1 ∨ 12 < m := by omega
theorem dimZ_feb (y : Int) (b : Bool) (h : leapB y = b) : dimZ y 2 = if b = true then 29 else 28 := by
  subst h
  simp [dimZ, lpZ]
  split <;> rfl
set_option maxHeartbeats 8000000 in
set_option maxRecDepth 100000 in
theorem civil_Days_calls (y m : Int) (w : World) : Calls Try.prog 137 #[.int .i64 y, .int .i64 m] w fun e w' => e = .returned (.int .i64 (dimZ y m)) ∧ w = w' := by
  rcases month_ways m with rfl | rfl | rfl | rfl | rfl | rfl | rfl | rfl | rfl | rfl | rfl | rfl | h | h
  · have HD := Aside0.mk (show dimZ y 1 = 31 by simp [dimZ])
    go_enter Try.func137, Try.ntmps137
    go_wp2
    go_ret
    exact ⟨by rw [HD.out]; rfl, rfl⟩
  · cases hl : leapB y
    all_goals
      have HD := Aside0.mk (dimZ_feb y _ hl)
      have HL := Aside0.mk hl
      clear hl
      go_enter Try.func137, Try.ntmps137
      go_wp2_with fail
      refine (civil_Leap_calls y _).mono ?_
      rintro e w' ⟨rfl, rfl⟩
      rw [HL.out]
      go_wp2
      go_ret
      exact ⟨by rw [HD.out]; rfl, rfl⟩
  · have HD := Aside0.mk (show dimZ y 3 = 31 by simp [dimZ])
    go_enter Try.func137, Try.ntmps137
    go_wp2
    go_ret
    exact ⟨by rw [HD.out]; rfl, rfl⟩
  · have HD := Aside0.mk (show dimZ y 4 = 30 by simp [dimZ])
    go_enter Try.func137, Try.ntmps137
    go_wp2
    go_ret
    exact ⟨by rw [HD.out]; rfl, rfl⟩
  · have HD := Aside0.mk (show dimZ y 5 = 31 by simp [dimZ])
    go_enter Try.func137, Try.ntmps137
    go_wp2
    go_ret
    exact ⟨by rw [HD.out]; rfl, rfl⟩
  · have HD := Aside0.mk (show dimZ y 6 = 30 by simp [dimZ])
    go_enter Try.func137, Try.ntmps137
    go_wp2
    go_ret
    exact ⟨by rw [HD.out]; rfl, rfl⟩
  · have HD := Aside0.mk (show dimZ y 7 = 31 by simp [dimZ])
    go_enter Try.func137, Try.ntmps137
    go_wp2
    go_ret
    exact ⟨by rw [HD.out]; rfl, rfl⟩
  · have HD := Aside0.mk (show dimZ y 8 = 31 by simp [dimZ])
    go_enter Try.func137, Try.ntmps137
    go_wp2
    go_ret
    exact ⟨by rw [HD.out]; rfl, rfl⟩
  · have HD := Aside0.mk (show dimZ y 9 = 30 by simp [dimZ])
    go_enter Try.func137, Try.ntmps137
    go_wp2
    go_ret
    exact ⟨by rw [HD.out]; rfl, rfl⟩
  · have HD := Aside0.mk (show dimZ y 10 = 31 by simp [dimZ])
    go_enter Try.func137, Try.ntmps137
    go_wp2
    go_ret
    exact ⟨by rw [HD.out]; rfl, rfl⟩
  · have HD := Aside0.mk (show dimZ y 11 = 30 by simp [dimZ])
    go_enter Try.func137, Try.ntmps137
    go_wp2
    go_ret
    exact ⟨by rw [HD.out]; rfl, rfl⟩
  · have HD := Aside0.mk (show dimZ y 12 = 31 by simp [dimZ])
    go_enter Try.func137, Try.ntmps137
    go_wp2
    go_ret
    exact ⟨by rw [HD.out]; rfl, rfl⟩

  · have HD := Aside0.mk (show dimZ y m = 0 by rw [dimZ, if_neg (by omega), if_neg (by omega), if_neg (by omega)])
    have n1 : (m == 1) = false := by rw [beq_eq_false_iff_ne]; omega
    have n2 : (m == 2) = false := by rw [beq_eq_false_iff_ne]; omega
    have n3 : (m == 3) = false := by rw [beq_eq_false_iff_ne]; omega
    have n4 : (m == 4) = false := by rw [beq_eq_false_iff_ne]; omega
    have n5 : (m == 5) = false := by rw [beq_eq_false_iff_ne]; omega
    have n6 : (m == 6) = false := by rw [beq_eq_false_iff_ne]; omega
    have n7 : (m == 7) = false := by rw [beq_eq_false_iff_ne]; omega
    have n8 : (m == 8) = false := by rw [beq_eq_false_iff_ne]; omega
    have n9 : (m == 9) = false := by rw [beq_eq_false_iff_ne]; omega
    have n10 : (m == 10) = false := by rw [beq_eq_false_iff_ne]; omega
    have n11 : (m == 11) = false := by rw [beq_eq_false_iff_ne]; omega
    have n12 : (m == 12) = false := by rw [beq_eq_false_iff_ne]; omega
    clear h
    go_enter Try.func137, Try.ntmps137
    go_wp2
    go_ret
    exact ⟨by rw [HD.out]; rfl, rfl⟩
  · have HD := Aside0.mk (show dimZ y m = 0 by rw [dimZ, if_neg (by omega), if_neg (by omega), if_neg (by omega)])
    have n1 : (m == 1) = false := by rw [beq_eq_false_iff_ne]; omega
    have n2 : (m == 2) = false := by rw [beq_eq_false_iff_ne]; omega
    have n3 : (m == 3) = false := by rw [beq_eq_false_iff_ne]; omega
    have n4 : (m == 4) = false := by rw [beq_eq_false_iff_ne]; omega
    have n5 : (m == 5) = false := by rw [beq_eq_false_iff_ne]; omega
    have n6 : (m == 6) = false := by rw [beq_eq_false_iff_ne]; omega
    have n7 : (m == 7) = false := by rw [beq_eq_false_iff_ne]; omega
    have n8 : (m == 8) = false := by rw [beq_eq_false_iff_ne]; omega
    have n9 : (m == 9) = false := by rw [beq_eq_false_iff_ne]; omega
    have n10 : (m == 10) = false := by rw [beq_eq_false_iff_ne]; omega
    have n11 : (m == 11) = false := by rw [beq_eq_false_iff_ne]; omega
    have n12 : (m == 12) = false := by rw [beq_eq_false_iff_ne]; omega
    clear h
    go_enter Try.func137, Try.ntmps137
    go_wp2
    go_ret
    exact ⟨by rw [HD.out]; rfl, rfl⟩

set_option maxHeartbeats 8000000 in
set_option maxRecDepth 100000 in
theorem ref_Days_calls (y m : Int) (w : World) : Calls Try.prog 116 #[.int .i64 y, .int .i64 m] w fun e w' => e = .returned (.int .i64 (dimZ y m)) ∧ Below w.heap.size w w' := by
  rcases month_ways m with rfl | rfl | rfl | rfl | rfl | rfl | rfl | rfl | rfl | rfl | rfl | rfl | h | h
  · have HD := Aside0.mk (show dimZ y 1 = 31 by simp [dimZ])
    go_enter Try.func116, Try.ntmps116
    go_wp2
    go_ret
    exact ⟨by rw [HD.out]; rfl, below_alloc (Below.refl _ _) _⟩
  · cases hl : leapB y
    all_goals
      have HD := Aside0.mk (dimZ_feb y _ hl)
      have HL := Aside0.mk hl
      clear hl
      go_enter Try.func116, Try.ntmps116
      go_wp2_with fail
      refine (ref_Leap_calls y _).mono ?_
      rintro e w' ⟨rfl, rfl⟩
      rw [HL.out]
      go_wp2
      go_ret
      exact ⟨by rw [HD.out]; rfl, by first | exact below_alloc (Below.refl _ _) _ | exact Below.refl _ _⟩
  · have HD := Aside0.mk (show dimZ y 3 = 31 by simp [dimZ])
    go_enter Try.func116, Try.ntmps116
    go_wp2
    go_ret
    exact ⟨by rw [HD.out]; rfl, below_alloc (Below.refl _ _) _⟩
  · have HD := Aside0.mk (show dimZ y 4 = 30 by simp [dimZ])
    go_enter Try.func116, Try.ntmps116
    go_wp2
    go_ret
    exact ⟨by rw [HD.out]; rfl, below_alloc (Below.refl _ _) _⟩
  · have HD := Aside0.mk (show dimZ y 5 = 31 by simp [dimZ])
    go_enter Try.func116, Try.ntmps116
    go_wp2
    go_ret
    exact ⟨by rw [HD.out]; rfl, below_alloc (Below.refl _ _) _⟩
  · have HD := Aside0.mk (show dimZ y 6 = 30 by simp [dimZ])
    go_enter Try.func116, Try.ntmps116
    go_wp2
    go_ret
    exact ⟨by rw [HD.out]; rfl, below_alloc (Below.refl _ _) _⟩
  · have HD := Aside0.mk (show dimZ y 7 = 31 by simp [dimZ])
    go_enter Try.func116, Try.ntmps116
    go_wp2
    go_ret
    exact ⟨by rw [HD.out]; rfl, below_alloc (Below.refl _ _) _⟩
  · have HD := Aside0.mk (show dimZ y 8 = 31 by simp [dimZ])
    go_enter Try.func116, Try.ntmps116
    go_wp2
    go_ret
    exact ⟨by rw [HD.out]; rfl, below_alloc (Below.refl _ _) _⟩
  · have HD := Aside0.mk (show dimZ y 9 = 30 by simp [dimZ])
    go_enter Try.func116, Try.ntmps116
    go_wp2
    go_ret
    exact ⟨by rw [HD.out]; rfl, below_alloc (Below.refl _ _) _⟩
  · have HD := Aside0.mk (show dimZ y 10 = 31 by simp [dimZ])
    go_enter Try.func116, Try.ntmps116
    go_wp2
    go_ret
    exact ⟨by rw [HD.out]; rfl, below_alloc (Below.refl _ _) _⟩
  · have HD := Aside0.mk (show dimZ y 11 = 30 by simp [dimZ])
    go_enter Try.func116, Try.ntmps116
    go_wp2
    go_ret
    exact ⟨by rw [HD.out]; rfl, below_alloc (Below.refl _ _) _⟩
  · have HD := Aside0.mk (show dimZ y 12 = 31 by simp [dimZ])
    go_enter Try.func116, Try.ntmps116
    go_wp2
    go_ret
    exact ⟨by rw [HD.out]; rfl, below_alloc (Below.refl _ _) _⟩

  · have HD := Aside0.mk (show dimZ y m = 0 by rw [dimZ, if_neg (by omega), if_neg (by omega), if_neg (by omega)])
    go_enter Try.func116, Try.ntmps116
    go_wp2
    go_ret
    exact ⟨by rw [HD.out]; rfl, Below.refl _ _⟩
  · have HD := Aside0.mk (show dimZ y m = 0 by rw [dimZ, if_neg (by omega), if_neg (by omega), if_neg (by omega)])
    go_enter Try.func116, Try.ntmps116
    go_wp2
    go_ret
    exact ⟨by rw [HD.out]; rfl, Below.refl _ _⟩

set_option maxHeartbeats 8000000 in
set_option maxRecDepth 100000 in
theorem ref_days_calls (y : Int) (w : World) : Calls Try.prog 115 #[.int .i64 y] w fun e w' => e = .returned (.int .u64 (365 + lpZ y)) ∧ w = w' := by
  cases hl : leapB y
  · have HD := Aside0.mk (lpZ_no hl)
    have HL := Aside0.mk hl
    clear hl
    go_enter Try.func115, Try.ntmps115
    go_wp2_with fail
    refine (ref_Leap_calls y _).mono ?_
    rintro e w' ⟨rfl, rfl⟩
    rw [HL.out]
    go_wp2
    go_ret
    exact ⟨by rw [HD.out]; rfl, rfl⟩
  · have HD := Aside0.mk (lpZ_yes hl)
    have HL := Aside0.mk hl
    clear hl
    go_enter Try.func115, Try.ntmps115
    go_wp2_with fail
    refine (ref_Leap_calls y _).mono ?_
    rintro e w' ⟨rfl, rfl⟩
    rw [HL.out]
    go_wp2
    go_ret
    exact ⟨by rw [HD.out]; rfl, rfl⟩
def inB (lo n hi : Int) : Bool := decide (lo ≤ n ∧ n ≤ hi)
set_option maxHeartbeats 8000000 in
set_option maxRecDepth 100000 in
theorem within_calls (lo n hi : Int) (b : Bool) (h : inB lo n hi = b) (w : World) : Calls Try.prog 136 #[.int .i64 n, .int .i64 lo, .int .i64 hi] w fun e w' => e = .returned (.bool b) ∧ w' = w := by
  subst h
  by_cases h1 : lo ≤ n
  · by_cases h2 : n ≤ hi
    · have HE := Aside0.mk (show inB lo n hi = true from decide_eq_true ⟨h1, h2⟩)
      go_enter Try.func136, Try.ntmps136
      go_wp2
      go_ret
      exact ⟨by rw [HE.out]; first | rfl | simp [h2], rfl⟩
    · have HE := Aside0.mk (show inB lo n hi = false from decide_eq_false (fun h => h2 h.2))
      go_enter Try.func136, Try.ntmps136
      go_wp2
      go_ret
      exact ⟨by rw [HE.out]; first | rfl | simp [h2], rfl⟩
  · have HE := Aside0.mk (show inB lo n hi = false from decide_eq_false (fun h => h1 h.1))
    go_enter Try.func136, Try.ntmps136
    go_wp2
    go_ret
    exact ⟨by rw [HE.out]; first | rfl | simp [h1], rfl⟩
theorem within_quiet (lo n hi : Int) (b : Bool) (h : inB lo n hi = b) (w : World) (k : Nat) : Calls Try.prog 136 #[.int .i64 n, .int .i64 lo, .int .i64 hi] (w.drewN k) fun e w' => e = .returned (.bool b) ∧ ∃ m, w' = w.drewN m := Calls.quiet_of_same (within_calls lo n hi b h _)
theorem Days_quiet (y m : Int) (w : World) (k : Nat) : Calls Try.prog 137 #[.int .i64 y, .int .i64 m] (w.drewN k) fun e w' => e = .returned (.int .i64 (dimZ y m)) ∧ ∃ m, w' = w.drewN m := Calls.quiet_of_same ((civil_Days_calls y m _).mono fun _ _ ⟨a, b⟩ => ⟨a, b.symm⟩)
def rightC (y m d h i s u : Int) : Bool := inB 1970 y 9999 && (inB 1 m 12 && (inB 1 d (dimZ y m) && (inB 0 h 23 && (inB 0 i 59 && (inB 0 s 59 && inB 0 u 999999)))))
theorem rightC_eq (y m d h i s u : Int) : rightC y m d h i s u = rightB y m d h i s u := by
  rw [Bool.eq_iff_iff]
  simp [rightC, rightB, inB]
abbrev timeV (y m d h i s u : Int) : Value := .agg #[.int .i64 y, .int .i64 m, .int .i64 d, .int .i64 h, .int .i64 i, .int .i64 s, .int .i64 u]
end Go.Proofs.Ytplmdgimodgekaa
