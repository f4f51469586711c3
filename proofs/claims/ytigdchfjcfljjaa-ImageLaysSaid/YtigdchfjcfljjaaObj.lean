/- Contracts of package obj, and of its reference: words, places, which objects may be. -/
import Derived.Test.YtigdchfjcfljjaaBk
namespace Go.Proofs.Ytigdchfjcfljjaa
open Go.RowKit Go.Proofs.YtigdchfjcfljjaaW.PrintWords Go.Proofs.YtigdchfjcfljjaaW.PrintLast Go.Proofs.YtigdchfjcfljjaaW.PrintMore
attribute [local go_sem] max2_int min2_int max_two min_two max_three min_three max_four min_four   -- for this text's walks alone
set_option linter.unusedVariables false
set_option linter.unusedSimpArgs false

/-- How many words a kind has. -/
def wN (k : Int) : Int := if k = 1 ∨ k = 3 then 5 else if k = 2 then 3 else if k = 4 then 1 else 0
theorem wN_bd (k : Int) : 0 ≤ wN k ∧ wN k ≤ 5 := by unfold wN; split <;> (try split) <;> (try split) <;> omega
theorem kind_ways (k : Int) : k = 1 ∨ k = 2 ∨ k = 3 ∨ k = 4 ∨ (k ≠ 1 ∧ k ≠ 2 ∧ k ≠ 3 ∧ k ≠ 4) := by omega

set_option maxHeartbeats 8000000 in
set_option maxRecDepth 100000 in
theorem obj_Words_calls (k : Int) (w : World) : Calls Try.prog 105 #[.int .i64 k] w fun e w' => e = .returned (.int .i64 (wN k)) ∧ w = w' := by
  rcases kind_ways k with rfl | rfl | rfl | rfl | ⟨h1, h2, h3, h4⟩
  · go_enter Try.func105, Try.ntmps105
    go_wp2
    go_ret
    exact ⟨rfl, rfl⟩
  · go_enter Try.func105, Try.ntmps105
    go_wp2
    go_ret
    exact ⟨rfl, rfl⟩
  · go_enter Try.func105, Try.ntmps105
    go_wp2
    go_ret
    exact ⟨rfl, rfl⟩
  · go_enter Try.func105, Try.ntmps105
    go_wp2
    go_ret
    exact ⟨rfl, rfl⟩
  · have HE := Aside0.mk (show wN k = 0 by simp [wN, h1, h2, h3, h4])
    have n1 : (k == 1) = false := by rw [beq_eq_false_iff_ne]; exact h1
    have n2 : (k == 2) = false := by rw [beq_eq_false_iff_ne]; exact h2
    have n3 : (k == 3) = false := by rw [beq_eq_false_iff_ne]; exact h3
    have n4 : (k == 4) = false := by rw [beq_eq_false_iff_ne]; exact h4
    clear h1 h2 h3 h4
    go_enter Try.func105, Try.ntmps105
    go_wp2
    go_ret
    exact ⟨by rw [HE.out]; rfl, rfl⟩
set_option maxHeartbeats 8000000 in
set_option maxRecDepth 100000 in
theorem ref_oWords_calls (k : Int) (w : World) : Calls Try.prog 98 #[.int .i64 k] w fun e w' => e = .returned (.int .i64 (wN k)) ∧ w = w' := by
  rcases kind_ways k with rfl | rfl | rfl | rfl | ⟨h1, h2, h3, h4⟩
  · go_enter Try.func98, Try.ntmps98
    go_wp2
    go_ret
    exact ⟨rfl, rfl⟩
  · go_enter Try.func98, Try.ntmps98
    go_wp2
    go_ret
    exact ⟨rfl, rfl⟩
  · go_enter Try.func98, Try.ntmps98
    go_wp2
    go_ret
    exact ⟨rfl, rfl⟩
  · go_enter Try.func98, Try.ntmps98
    go_wp2
    go_ret
    exact ⟨rfl, rfl⟩
  · have HE := Aside0.mk (show wN k = 0 by simp [wN, h1, h2, h3, h4])
    have n1 : (k == 1) = false := by rw [beq_eq_false_iff_ne]; exact h1
    have n2 : (k == 2) = false := by rw [beq_eq_false_iff_ne]; exact h2
    have n3 : (k == 3) = false := by rw [beq_eq_false_iff_ne]; exact h3
    have n4 : (k == 4) = false := by rw [beq_eq_false_iff_ne]; exact h4
    clear h1 h2 h3 h4
    go_enter Try.func98, Try.ntmps98
    go_wp2
    go_ret
    exact ⟨by rw [HE.out]; rfl, rfl⟩

theorem ref_oWords_quiet (k : Int) (w : World) (n : Nat) : Calls Try.prog 98 #[.int .i64 k] (w.drewN n) fun e w' => e = .returned (.int .i64 (wN k)) ∧ ∃ m, w' = w.drewN m := Calls.quiet_of_same ((ref_oWords_calls k _).mono fun _ _ ⟨a, b⟩ => ⟨a, b.symm⟩)
set_option maxHeartbeats 8000000 in
set_option maxRecDepth 100000 in
theorem obj_Front_calls (k : Int) (w : World) : Calls Try.prog 100 #[.int .i64 k] w fun e w' => e = .returned (.int .i64 (16 + 8 * wN k)) ∧ w = w' := by
  obtain ⟨h0, h1⟩ := wN_bd k
  go_enter Try.func100, Try.ntmps100
  go_wp2_with fail
  refine (obj_Words_calls k _).mono ?_
  rintro e w1 ⟨rfl, rfl⟩
  go_wp2
  go_ret
  exact ⟨rfl, rfl⟩
set_option maxHeartbeats 8000000 in
set_option maxRecDepth 100000 in
theorem obj_At_calls (k : Int) (w : World) (h0 : 0 ≤ k) (h1 : k ≤ 100000) : Calls Try.prog 131 #[.int .i64 k] w fun e w' => e = .returned (.int .i64 (16 + 8 * k)) ∧ w = w' := by
  go_enter Try.func131, Try.ntmps131
  go_wp2
  go_ret
  exact ⟨rfl, rfl⟩
set_option maxHeartbeats 8000000 in
set_option maxRecDepth 100000 in
theorem obj_ItemAt_calls (k i : Int) (w : World) (h0 : 0 ≤ i) (h1 : i ≤ 100000) : Calls Try.prog 130 #[.int .i64 k, .int .i64 i] w fun e w' => e = .returned (.int .i64 (16 + 8 * wN k + 8 * i)) ∧ w = w' := by
  obtain ⟨b0, b1⟩ := wN_bd k
  go_enter Try.func130, Try.ntmps130
  go_wp2_with fail
  refine (obj_Front_calls k _).mono ?_
  rintro e w1 ⟨rfl, rfl⟩
  go_wp2
  go_ret
  exact ⟨rfl, rfl⟩
theorem ret_yes {p : Prop} [Decidable p] (h : p) : Ending.returned (.bool (decide p)) = .returned (.bool true) := by rw [decide_eq_true h]
theorem ret_no {p : Prop} [Decidable p] (h : ¬ p) : Ending.returned (.bool (decide p)) = .returned (.bool false) := by rw [decide_eq_false h]
/-- May an object be: its kind, and how many words, bytes, numbers it has. -/
def oR (k : Int) (nW nR nI : Nat) : Bool := decide ((k = 1 ∧ nW = 5 ∧ nI = 0 ∧ 1 ≤ nR ∧ nR ≤ 1024) ∨ (k = 2 ∧ nW = 3 ∧ nI = 0 ∧ 1 ≤ nR ∧ nR ≤ 64) ∨ (k = 3 ∧ nW = 5 ∧ nR = 0 ∧ 1 ≤ nI ∧ nI ≤ 64) ∨ (k = 4 ∧ nW = 1 ∧ nR = 0 ∧ 1 ≤ nI ∧ nI ≤ 1024))
theorem oR_yes {k : Int} {nW nR nI : Nat} (h : (k = 1 ∧ nW = 5 ∧ nI = 0 ∧ 1 ≤ nR ∧ nR ≤ 1024) ∨ (k = 2 ∧ nW = 3 ∧ nI = 0 ∧ 1 ≤ nR ∧ nR ≤ 64) ∨ (k = 3 ∧ nW = 5 ∧ nR = 0 ∧ 1 ≤ nI ∧ nI ≤ 64) ∨ (k = 4 ∧ nW = 1 ∧ nR = 0 ∧ 1 ≤ nI ∧ nI ≤ 1024)) : oR k nW nR nI = true := decide_eq_true h
theorem oR_no {k : Int} {nW nR nI : Nat} (h : ¬ ((k = 1 ∧ nW = 5 ∧ nI = 0 ∧ 1 ≤ nR ∧ nR ≤ 1024) ∨ (k = 2 ∧ nW = 3 ∧ nI = 0 ∧ 1 ≤ nR ∧ nR ≤ 64) ∨ (k = 3 ∧ nW = 5 ∧ nR = 0 ∧ 1 ≤ nI ∧ nI ≤ 64) ∨ (k = 4 ∧ nW = 1 ∧ nR = 0 ∧ 1 ≤ nI ∧ nI ≤ 1024))) : oR k nW nR nI = false := decide_eq_false h

set_option maxHeartbeats 8000000 in
set_option maxRecDepth 100000 in
theorem obj_Right_calls_1 (A1 A2 A3 : Option Addr) (nW nR nI c1 c2 c3 : Nat) (w : World) (bW : nW ≤ 140737488355328) (bR : nR ≤ 140737488355328) (bI : nI ≤ 140737488355328) : Calls Try.prog 99 #[.agg #[.int .i64 1, .slice A1 nW c1, .slice A2 nR c2, .slice A3 nI c3]] w fun e w' => e = .returned (.bool (oR 1 nW nR nI)) ∧ Below w.heap.size w w' := by
  have HW := Aside0.mk (show wN 1 = 5 from rfl)
  by_cases e1 : nW = 5
  · subst e1
    by_cases e2 : nI = 0
    · subst e2
      by_cases e3 : 1 ≤ nR
      · by_cases e4 : nR ≤ 1024
        · have HE := Aside0.mk (oR_yes (k := 1) (nW := 5) (nR := nR) (nI := 0) (by omega))
          go_enter Try.func99, Try.ntmps99
          go_wp2_with fail
          refine (obj_Words_calls _ _).mono ?_
          rintro e w1 ⟨rfl, rfl⟩
          try rw [HW.out]
          go_wp2_with fail
          go_ret
          exact ⟨by rw [HE.out]; first | rfl | exact ret_yes (by omega) | exact ret_no (by omega), below_alloc (Below.refl _ _) _⟩
        · have HE := Aside0.mk (oR_no (k := 1) (nW := 5) (nR := nR) (nI := 0) (by omega))
          go_enter Try.func99, Try.ntmps99
          go_wp2_with fail
          refine (obj_Words_calls _ _).mono ?_
          rintro e w1 ⟨rfl, rfl⟩
          try rw [HW.out]
          go_wp2_with fail
          go_ret
          exact ⟨by rw [HE.out]; first | rfl | exact ret_yes (by omega) | exact ret_no (by omega), below_alloc (Below.refl _ _) _⟩
      · have HE := Aside0.mk (oR_no (k := 1) (nW := 5) (nR := nR) (nI := 0) (by omega))
        go_enter Try.func99, Try.ntmps99
        go_wp2_with fail
        refine (obj_Words_calls _ _).mono ?_
        rintro e w1 ⟨rfl, rfl⟩
        try rw [HW.out]
        go_wp2_with fail
        go_ret
        exact ⟨by rw [HE.out]; first | rfl | exact ret_yes (by omega) | exact ret_no (by omega), below_alloc (Below.refl _ _) _⟩
    · have HE := Aside0.mk (oR_no (k := 1) (nW := 5) (nR := nR) (nI := nI) (by omega))
      have t2 : ((nI : Int) == 0) = false := by simp; omega
      go_enter Try.func99, Try.ntmps99
      go_wp2_with fail
      refine (obj_Words_calls _ _).mono ?_
      rintro e w1 ⟨rfl, rfl⟩
      try rw [HW.out]
      go_wp2_with fail
      go_ret
      exact ⟨by rw [HE.out]; first | rfl | exact ret_yes (by omega) | exact ret_no (by omega), below_alloc (Below.refl _ _) _⟩
  · have HE := Aside0.mk (oR_no (k := 1) (nW := nW) (nR := nR) (nI := nI) (by omega))
    have t1 : ((nW : Int) != 5) = true := by simp; omega
    go_enter Try.func99, Try.ntmps99
    go_wp2_with fail
    refine (obj_Words_calls _ _).mono ?_
    rintro e w1 ⟨rfl, rfl⟩
    try rw [HW.out]
    go_wp2_with fail
    go_ret
    exact ⟨by rw [HE.out]; first | rfl | exact ret_yes (by omega) | exact ret_no (by omega), below_alloc (Below.refl _ _) _⟩
set_option maxHeartbeats 8000000 in
set_option maxRecDepth 100000 in
theorem obj_Right_calls_2 (A1 A2 A3 : Option Addr) (nW nR nI c1 c2 c3 : Nat) (w : World) (bW : nW ≤ 140737488355328) (bR : nR ≤ 140737488355328) (bI : nI ≤ 140737488355328) : Calls Try.prog 99 #[.agg #[.int .i64 2, .slice A1 nW c1, .slice A2 nR c2, .slice A3 nI c3]] w fun e w' => e = .returned (.bool (oR 2 nW nR nI)) ∧ Below w.heap.size w w' := by
  have HW := Aside0.mk (show wN 2 = 3 from rfl)
  by_cases e1 : nW = 3
  · subst e1
    by_cases e2 : nI = 0
    · subst e2
      by_cases e3 : 1 ≤ nR
      · by_cases e4 : nR ≤ 64
        · have HE := Aside0.mk (oR_yes (k := 2) (nW := 3) (nR := nR) (nI := 0) (by omega))
          go_enter Try.func99, Try.ntmps99
          go_wp2_with fail
          refine (obj_Words_calls _ _).mono ?_
          rintro e w1 ⟨rfl, rfl⟩
          try rw [HW.out]
          go_wp2_with fail
          go_ret
          exact ⟨by rw [HE.out]; first | rfl | exact ret_yes (by omega) | exact ret_no (by omega), below_alloc (Below.refl _ _) _⟩
        · have HE := Aside0.mk (oR_no (k := 2) (nW := 3) (nR := nR) (nI := 0) (by omega))
          go_enter Try.func99, Try.ntmps99
          go_wp2_with fail
          refine (obj_Words_calls _ _).mono ?_
          rintro e w1 ⟨rfl, rfl⟩
          try rw [HW.out]
          go_wp2_with fail
          go_ret
          exact ⟨by rw [HE.out]; first | rfl | exact ret_yes (by omega) | exact ret_no (by omega), below_alloc (Below.refl _ _) _⟩
      · have HE := Aside0.mk (oR_no (k := 2) (nW := 3) (nR := nR) (nI := 0) (by omega))
        go_enter Try.func99, Try.ntmps99
        go_wp2_with fail
        refine (obj_Words_calls _ _).mono ?_
        rintro e w1 ⟨rfl, rfl⟩
        try rw [HW.out]
        go_wp2_with fail
        go_ret
        exact ⟨by rw [HE.out]; first | rfl | exact ret_yes (by omega) | exact ret_no (by omega), below_alloc (Below.refl _ _) _⟩
    · have HE := Aside0.mk (oR_no (k := 2) (nW := 3) (nR := nR) (nI := nI) (by omega))
      have t2 : ((nI : Int) == 0) = false := by simp; omega
      go_enter Try.func99, Try.ntmps99
      go_wp2_with fail
      refine (obj_Words_calls _ _).mono ?_
      rintro e w1 ⟨rfl, rfl⟩
      try rw [HW.out]
      go_wp2_with fail
      go_ret
      exact ⟨by rw [HE.out]; first | rfl | exact ret_yes (by omega) | exact ret_no (by omega), below_alloc (Below.refl _ _) _⟩
  · have HE := Aside0.mk (oR_no (k := 2) (nW := nW) (nR := nR) (nI := nI) (by omega))
    have t1 : ((nW : Int) != 3) = true := by simp; omega
    go_enter Try.func99, Try.ntmps99
    go_wp2_with fail
    refine (obj_Words_calls _ _).mono ?_
    rintro e w1 ⟨rfl, rfl⟩
    try rw [HW.out]
    go_wp2_with fail
    go_ret
    exact ⟨by rw [HE.out]; first | rfl | exact ret_yes (by omega) | exact ret_no (by omega), below_alloc (Below.refl _ _) _⟩
set_option maxHeartbeats 8000000 in
set_option maxRecDepth 100000 in
theorem obj_Right_calls_3 (A1 A2 A3 : Option Addr) (nW nR nI c1 c2 c3 : Nat) (w : World) (bW : nW ≤ 140737488355328) (bR : nR ≤ 140737488355328) (bI : nI ≤ 140737488355328) : Calls Try.prog 99 #[.agg #[.int .i64 3, .slice A1 nW c1, .slice A2 nR c2, .slice A3 nI c3]] w fun e w' => e = .returned (.bool (oR 3 nW nR nI)) ∧ Below w.heap.size w w' := by
  have HW := Aside0.mk (show wN 3 = 5 from rfl)
  by_cases e1 : nW = 5
  · subst e1
    by_cases e2 : nR = 0
    · subst e2
      by_cases e3 : 1 ≤ nI
      · by_cases e4 : nI ≤ 64
        · have HE := Aside0.mk (oR_yes (k := 3) (nW := 5) (nR := 0) (nI := nI) (by omega))
          go_enter Try.func99, Try.ntmps99
          go_wp2_with fail
          refine (obj_Words_calls _ _).mono ?_
          rintro e w1 ⟨rfl, rfl⟩
          try rw [HW.out]
          go_wp2_with fail
          go_ret
          exact ⟨by rw [HE.out]; first | rfl | exact ret_yes (by omega) | exact ret_no (by omega), below_alloc (Below.refl _ _) _⟩
        · have HE := Aside0.mk (oR_no (k := 3) (nW := 5) (nR := 0) (nI := nI) (by omega))
          go_enter Try.func99, Try.ntmps99
          go_wp2_with fail
          refine (obj_Words_calls _ _).mono ?_
          rintro e w1 ⟨rfl, rfl⟩
          try rw [HW.out]
          go_wp2_with fail
          go_ret
          exact ⟨by rw [HE.out]; first | rfl | exact ret_yes (by omega) | exact ret_no (by omega), below_alloc (Below.refl _ _) _⟩
      · have HE := Aside0.mk (oR_no (k := 3) (nW := 5) (nR := 0) (nI := nI) (by omega))
        go_enter Try.func99, Try.ntmps99
        go_wp2_with fail
        refine (obj_Words_calls _ _).mono ?_
        rintro e w1 ⟨rfl, rfl⟩
        try rw [HW.out]
        go_wp2_with fail
        go_ret
        exact ⟨by rw [HE.out]; first | rfl | exact ret_yes (by omega) | exact ret_no (by omega), below_alloc (Below.refl _ _) _⟩
    · have HE := Aside0.mk (oR_no (k := 3) (nW := 5) (nR := nR) (nI := nI) (by omega))
      have t2 : ((nR : Int) == 0) = false := by simp; omega
      go_enter Try.func99, Try.ntmps99
      go_wp2_with fail
      refine (obj_Words_calls _ _).mono ?_
      rintro e w1 ⟨rfl, rfl⟩
      try rw [HW.out]
      go_wp2_with fail
      go_ret
      exact ⟨by rw [HE.out]; first | rfl | exact ret_yes (by omega) | exact ret_no (by omega), below_alloc (Below.refl _ _) _⟩
  · have HE := Aside0.mk (oR_no (k := 3) (nW := nW) (nR := nR) (nI := nI) (by omega))
    have t1 : ((nW : Int) != 5) = true := by simp; omega
    go_enter Try.func99, Try.ntmps99
    go_wp2_with fail
    refine (obj_Words_calls _ _).mono ?_
    rintro e w1 ⟨rfl, rfl⟩
    try rw [HW.out]
    go_wp2_with fail
    go_ret
    exact ⟨by rw [HE.out]; first | rfl | exact ret_yes (by omega) | exact ret_no (by omega), below_alloc (Below.refl _ _) _⟩
set_option maxHeartbeats 8000000 in
set_option maxRecDepth 100000 in
theorem obj_Right_calls_4 (A1 A2 A3 : Option Addr) (nW nR nI c1 c2 c3 : Nat) (w : World) (bW : nW ≤ 140737488355328) (bR : nR ≤ 140737488355328) (bI : nI ≤ 140737488355328) : Calls Try.prog 99 #[.agg #[.int .i64 4, .slice A1 nW c1, .slice A2 nR c2, .slice A3 nI c3]] w fun e w' => e = .returned (.bool (oR 4 nW nR nI)) ∧ Below w.heap.size w w' := by
  have HW := Aside0.mk (show wN 4 = 1 from rfl)
  by_cases e1 : nW = 1
  · subst e1
    by_cases e2 : nR = 0
    · subst e2
      by_cases e3 : 1 ≤ nI
      · by_cases e4 : nI ≤ 1024
        · have HE := Aside0.mk (oR_yes (k := 4) (nW := 1) (nR := 0) (nI := nI) (by omega))
          go_enter Try.func99, Try.ntmps99
          go_wp2_with fail
          refine (obj_Words_calls _ _).mono ?_
          rintro e w1 ⟨rfl, rfl⟩
          try rw [HW.out]
          go_wp2_with fail
          go_ret
          exact ⟨by rw [HE.out]; first | rfl | exact ret_yes (by omega) | exact ret_no (by omega), below_alloc (Below.refl _ _) _⟩
        · have HE := Aside0.mk (oR_no (k := 4) (nW := 1) (nR := 0) (nI := nI) (by omega))
          go_enter Try.func99, Try.ntmps99
          go_wp2_with fail
          refine (obj_Words_calls _ _).mono ?_
          rintro e w1 ⟨rfl, rfl⟩
          try rw [HW.out]
          go_wp2_with fail
          go_ret
          exact ⟨by rw [HE.out]; first | rfl | exact ret_yes (by omega) | exact ret_no (by omega), below_alloc (Below.refl _ _) _⟩
      · have HE := Aside0.mk (oR_no (k := 4) (nW := 1) (nR := 0) (nI := nI) (by omega))
        go_enter Try.func99, Try.ntmps99
        go_wp2_with fail
        refine (obj_Words_calls _ _).mono ?_
        rintro e w1 ⟨rfl, rfl⟩
        try rw [HW.out]
        go_wp2_with fail
        go_ret
        exact ⟨by rw [HE.out]; first | rfl | exact ret_yes (by omega) | exact ret_no (by omega), below_alloc (Below.refl _ _) _⟩
    · have HE := Aside0.mk (oR_no (k := 4) (nW := 1) (nR := nR) (nI := nI) (by omega))
      have t2 : ((nR : Int) == 0) = false := by simp; omega
      go_enter Try.func99, Try.ntmps99
      go_wp2_with fail
      refine (obj_Words_calls _ _).mono ?_
      rintro e w1 ⟨rfl, rfl⟩
      try rw [HW.out]
      go_wp2_with fail
      go_ret
      exact ⟨by rw [HE.out]; first | rfl | exact ret_yes (by omega) | exact ret_no (by omega), below_alloc (Below.refl _ _) _⟩
  · have HE := Aside0.mk (oR_no (k := 4) (nW := nW) (nR := nR) (nI := nI) (by omega))
    have t1 : ((nW : Int) != 1) = true := by simp; omega
    go_enter Try.func99, Try.ntmps99
    go_wp2_with fail
    refine (obj_Words_calls _ _).mono ?_
    rintro e w1 ⟨rfl, rfl⟩
    try rw [HW.out]
    go_wp2_with fail
    go_ret
    exact ⟨by rw [HE.out]; first | rfl | exact ret_yes (by omega) | exact ret_no (by omega), below_alloc (Below.refl _ _) _⟩
set_option maxHeartbeats 8000000 in
set_option maxRecDepth 100000 in
theorem obj_Right_calls_0 (k : Int) (h1 : k ≠ 1) (h2 : k ≠ 2) (h3 : k ≠ 3) (h4 : k ≠ 4) (A1 A2 A3 : Option Addr) (nW nR nI c1 c2 c3 : Nat) (w : World) (bW : nW ≤ 140737488355328) (bR : nR ≤ 140737488355328) (bI : nI ≤ 140737488355328) : Calls Try.prog 99 #[.agg #[.int .i64 k, .slice A1 nW c1, .slice A2 nR c2, .slice A3 nI c3]] w fun e w' => e = .returned (.bool (oR k nW nR nI)) ∧ Below w.heap.size w w' := by
  have HE := Aside0.mk (oR_no (k := k) (nW := nW) (nR := nR) (nI := nI) (by omega))
  have hw : wN k = 0 := by simp [wN, h1, h2, h3, h4]
  have HW := Aside0.mk hw
  clear hw h1 h2 h3 h4
  go_enter Try.func99, Try.ntmps99
  go_wp2_with fail
  refine (obj_Words_calls _ _).mono ?_
  rintro e w1 ⟨rfl, rfl⟩
  try rw [HW.out]
  go_wp2_with fail
  go_ret
  exact ⟨by rw [HE.out]; first | rfl | exact ret_yes (by omega) | exact ret_no (by omega), below_alloc (Below.refl _ _) _⟩
theorem obj_Right_calls (k : Int) (A1 A2 A3 : Option Addr) (nW nR nI c1 c2 c3 : Nat) (w : World) (bW : nW ≤ 140737488355328) (bR : nR ≤ 140737488355328) (bI : nI ≤ 140737488355328) : Calls Try.prog 99 #[.agg #[.int .i64 k, .slice A1 nW c1, .slice A2 nR c2, .slice A3 nI c3]] w fun e w' => e = .returned (.bool (oR k nW nR nI)) ∧ Below w.heap.size w w' := by
  rcases kind_ways k with rfl | rfl | rfl | rfl | ⟨h1, h2, h3, h4⟩
  · exact obj_Right_calls_1 A1 A2 A3 nW nR nI c1 c2 c3 w bW bR bI
  · exact obj_Right_calls_2 A1 A2 A3 nW nR nI c1 c2 c3 w bW bR bI
  · exact obj_Right_calls_3 A1 A2 A3 nW nR nI c1 c2 c3 w bW bR bI
  · exact obj_Right_calls_4 A1 A2 A3 nW nR nI c1 c2 c3 w bW bR bI
  · exact obj_Right_calls_0 k h1 h2 h3 h4 A1 A2 A3 nW nR nI c1 c2 c3 w bW bR bI

set_option maxHeartbeats 8000000 in
set_option maxRecDepth 100000 in
theorem ref_oRight_calls_1 (A1 A2 A3 : Option Addr) (nW nR nI c1 c2 c3 : Nat) (w : World) (bW : nW ≤ 140737488355328) (bR : nR ≤ 140737488355328) (bI : nI ≤ 140737488355328) : Calls Try.prog 29 #[.agg #[.int .i64 1, .slice A1 nW c1, .slice A2 nR c2, .slice A3 nI c3]] w fun e w' => e = .returned (.bool (oR 1 nW nR nI)) ∧ Below w.heap.size w w' := by
  have HW := Aside0.mk (show wN 1 = 5 from rfl)
  have QQ : ∀ (w : World) (j : Nat), Calls Try.prog 98 #[.int .i64 1] (w.drewN j) fun e w' => e = .returned (.int .i64 5) ∧ ∃ m, w' = w.drewN m := fun w j => ref_oWords_quiet 1 w j
  by_cases e1 : nW = 5
  · subst e1
    by_cases e2 : nI = 0
    · subst e2
      by_cases e3 : 1 ≤ nR
      · by_cases e4 : nR ≤ 1024
        · have HE := Aside0.mk (oR_yes (k := 1) (nW := 5) (nR := nR) (nI := 0) (by omega))
          go_enter Try.func29, Try.ntmps29
          go_wp2_with fail
          go_quiet ((go_at_call 98; with_reducible exact QQ _ _))
          go_wp2_with fail
          try (go_quiet (fail); go_wp2_with fail)
          go_ret
          exact ⟨by rw [HE.out]; first | rfl | exact ret_yes (by omega) | exact ret_no (by omega), by (repeat (first | exact below_alloc (Below.refl _ _) _ | apply pw_below_drewN))⟩
        · have HE := Aside0.mk (oR_no (k := 1) (nW := 5) (nR := nR) (nI := 0) (by omega))
          go_enter Try.func29, Try.ntmps29
          go_wp2_with fail
          go_quiet ((go_at_call 98; with_reducible exact QQ _ _))
          go_wp2_with fail
          try (go_quiet (fail); go_wp2_with fail)
          go_ret
          exact ⟨by rw [HE.out]; first | rfl | exact ret_yes (by omega) | exact ret_no (by omega), by (repeat (first | exact below_alloc (Below.refl _ _) _ | apply pw_below_drewN))⟩
      · have HE := Aside0.mk (oR_no (k := 1) (nW := 5) (nR := nR) (nI := 0) (by omega))
        go_enter Try.func29, Try.ntmps29
        go_wp2_with fail
        go_quiet ((go_at_call 98; with_reducible exact QQ _ _))
        go_wp2_with fail
        try (go_quiet (fail); go_wp2_with fail)
        go_ret
        exact ⟨by rw [HE.out]; first | rfl | exact ret_yes (by omega) | exact ret_no (by omega), by (repeat (first | exact below_alloc (Below.refl _ _) _ | apply pw_below_drewN))⟩
    · have HE := Aside0.mk (oR_no (k := 1) (nW := 5) (nR := nR) (nI := nI) (by omega))
      have t2 : ((nI : Int) == 0) = false := by simp; omega
      go_enter Try.func29, Try.ntmps29
      go_wp2_with fail
      go_quiet ((go_at_call 98; with_reducible exact QQ _ _))
      go_wp2_with fail
      try (go_quiet (fail); go_wp2_with fail)
      go_ret
      exact ⟨by rw [HE.out]; first | rfl | exact ret_yes (by omega) | exact ret_no (by omega), by (repeat (first | exact below_alloc (Below.refl _ _) _ | apply pw_below_drewN))⟩
  · have HE := Aside0.mk (oR_no (k := 1) (nW := nW) (nR := nR) (nI := nI) (by omega))
    have t1 : ((nW : Int) != 5) = true := by simp; omega
    go_enter Try.func29, Try.ntmps29
    go_wp2_with fail
    go_quiet ((go_at_call 98; with_reducible exact QQ _ _))
    go_wp2_with fail
    try (go_quiet (fail); go_wp2_with fail)
    go_ret
    exact ⟨by rw [HE.out]; first | rfl | exact ret_yes (by omega) | exact ret_no (by omega), by (repeat (first | exact below_alloc (Below.refl _ _) _ | apply pw_below_drewN))⟩
set_option maxHeartbeats 8000000 in
set_option maxRecDepth 100000 in
theorem ref_oRight_calls_2 (A1 A2 A3 : Option Addr) (nW nR nI c1 c2 c3 : Nat) (w : World) (bW : nW ≤ 140737488355328) (bR : nR ≤ 140737488355328) (bI : nI ≤ 140737488355328) : Calls Try.prog 29 #[.agg #[.int .i64 2, .slice A1 nW c1, .slice A2 nR c2, .slice A3 nI c3]] w fun e w' => e = .returned (.bool (oR 2 nW nR nI)) ∧ Below w.heap.size w w' := by
  have HW := Aside0.mk (show wN 2 = 3 from rfl)
  have QQ : ∀ (w : World) (j : Nat), Calls Try.prog 98 #[.int .i64 2] (w.drewN j) fun e w' => e = .returned (.int .i64 3) ∧ ∃ m, w' = w.drewN m := fun w j => ref_oWords_quiet 2 w j
  by_cases e1 : nW = 3
  · subst e1
    by_cases e2 : nI = 0
    · subst e2
      by_cases e3 : 1 ≤ nR
      · by_cases e4 : nR ≤ 64
        · have HE := Aside0.mk (oR_yes (k := 2) (nW := 3) (nR := nR) (nI := 0) (by omega))
          go_enter Try.func29, Try.ntmps29
          go_wp2_with fail
          go_quiet ((go_at_call 98; with_reducible exact QQ _ _))
          go_wp2_with fail
          try (go_quiet (fail); go_wp2_with fail)
          go_ret
          exact ⟨by rw [HE.out]; first | rfl | exact ret_yes (by omega) | exact ret_no (by omega), by (repeat (first | exact below_alloc (Below.refl _ _) _ | apply pw_below_drewN))⟩
        · have HE := Aside0.mk (oR_no (k := 2) (nW := 3) (nR := nR) (nI := 0) (by omega))
          go_enter Try.func29, Try.ntmps29
          go_wp2_with fail
          go_quiet ((go_at_call 98; with_reducible exact QQ _ _))
          go_wp2_with fail
          try (go_quiet (fail); go_wp2_with fail)
          go_ret
          exact ⟨by rw [HE.out]; first | rfl | exact ret_yes (by omega) | exact ret_no (by omega), by (repeat (first | exact below_alloc (Below.refl _ _) _ | apply pw_below_drewN))⟩
      · have HE := Aside0.mk (oR_no (k := 2) (nW := 3) (nR := nR) (nI := 0) (by omega))
        go_enter Try.func29, Try.ntmps29
        go_wp2_with fail
        go_quiet ((go_at_call 98; with_reducible exact QQ _ _))
        go_wp2_with fail
        try (go_quiet (fail); go_wp2_with fail)
        go_ret
        exact ⟨by rw [HE.out]; first | rfl | exact ret_yes (by omega) | exact ret_no (by omega), by (repeat (first | exact below_alloc (Below.refl _ _) _ | apply pw_below_drewN))⟩
    · have HE := Aside0.mk (oR_no (k := 2) (nW := 3) (nR := nR) (nI := nI) (by omega))
      have t2 : ((nI : Int) == 0) = false := by simp; omega
      go_enter Try.func29, Try.ntmps29
      go_wp2_with fail
      go_quiet ((go_at_call 98; with_reducible exact QQ _ _))
      go_wp2_with fail
      try (go_quiet (fail); go_wp2_with fail)
      go_ret
      exact ⟨by rw [HE.out]; first | rfl | exact ret_yes (by omega) | exact ret_no (by omega), by (repeat (first | exact below_alloc (Below.refl _ _) _ | apply pw_below_drewN))⟩
  · have HE := Aside0.mk (oR_no (k := 2) (nW := nW) (nR := nR) (nI := nI) (by omega))
    have t1 : ((nW : Int) != 3) = true := by simp; omega
    go_enter Try.func29, Try.ntmps29
    go_wp2_with fail
    go_quiet ((go_at_call 98; with_reducible exact QQ _ _))
    go_wp2_with fail
    try (go_quiet (fail); go_wp2_with fail)
    go_ret
    exact ⟨by rw [HE.out]; first | rfl | exact ret_yes (by omega) | exact ret_no (by omega), by (repeat (first | exact below_alloc (Below.refl _ _) _ | apply pw_below_drewN))⟩
set_option maxHeartbeats 8000000 in
set_option maxRecDepth 100000 in
theorem ref_oRight_calls_3 (A1 A2 A3 : Option Addr) (nW nR nI c1 c2 c3 : Nat) (w : World) (bW : nW ≤ 140737488355328) (bR : nR ≤ 140737488355328) (bI : nI ≤ 140737488355328) : Calls Try.prog 29 #[.agg #[.int .i64 3, .slice A1 nW c1, .slice A2 nR c2, .slice A3 nI c3]] w fun e w' => e = .returned (.bool (oR 3 nW nR nI)) ∧ Below w.heap.size w w' := by
  have HW := Aside0.mk (show wN 3 = 5 from rfl)
  have QQ : ∀ (w : World) (j : Nat), Calls Try.prog 98 #[.int .i64 3] (w.drewN j) fun e w' => e = .returned (.int .i64 5) ∧ ∃ m, w' = w.drewN m := fun w j => ref_oWords_quiet 3 w j
  by_cases e1 : nW = 5
  · subst e1
    by_cases e2 : nR = 0
    · subst e2
      by_cases e3 : 1 ≤ nI
      · by_cases e4 : nI ≤ 64
        · have HE := Aside0.mk (oR_yes (k := 3) (nW := 5) (nR := 0) (nI := nI) (by omega))
          go_enter Try.func29, Try.ntmps29
          go_wp2_with fail
          go_quiet ((go_at_call 98; with_reducible exact QQ _ _))
          go_wp2_with fail
          try (go_quiet (fail); go_wp2_with fail)
          go_ret
          exact ⟨by rw [HE.out]; first | rfl | exact ret_yes (by omega) | exact ret_no (by omega), by (repeat (first | exact below_alloc (Below.refl _ _) _ | apply pw_below_drewN))⟩
        · have HE := Aside0.mk (oR_no (k := 3) (nW := 5) (nR := 0) (nI := nI) (by omega))
          go_enter Try.func29, Try.ntmps29
          go_wp2_with fail
          go_quiet ((go_at_call 98; with_reducible exact QQ _ _))
          go_wp2_with fail
          try (go_quiet (fail); go_wp2_with fail)
          go_ret
          exact ⟨by rw [HE.out]; first | rfl | exact ret_yes (by omega) | exact ret_no (by omega), by (repeat (first | exact below_alloc (Below.refl _ _) _ | apply pw_below_drewN))⟩
      · have HE := Aside0.mk (oR_no (k := 3) (nW := 5) (nR := 0) (nI := nI) (by omega))
        go_enter Try.func29, Try.ntmps29
        go_wp2_with fail
        go_quiet ((go_at_call 98; with_reducible exact QQ _ _))
        go_wp2_with fail
        try (go_quiet (fail); go_wp2_with fail)
        go_ret
        exact ⟨by rw [HE.out]; first | rfl | exact ret_yes (by omega) | exact ret_no (by omega), by (repeat (first | exact below_alloc (Below.refl _ _) _ | apply pw_below_drewN))⟩
    · have HE := Aside0.mk (oR_no (k := 3) (nW := 5) (nR := nR) (nI := nI) (by omega))
      have t2 : ((nR : Int) == 0) = false := by simp; omega
      go_enter Try.func29, Try.ntmps29
      go_wp2_with fail
      go_quiet ((go_at_call 98; with_reducible exact QQ _ _))
      go_wp2_with fail
      try (go_quiet (fail); go_wp2_with fail)
      go_ret
      exact ⟨by rw [HE.out]; first | rfl | exact ret_yes (by omega) | exact ret_no (by omega), by (repeat (first | exact below_alloc (Below.refl _ _) _ | apply pw_below_drewN))⟩
  · have HE := Aside0.mk (oR_no (k := 3) (nW := nW) (nR := nR) (nI := nI) (by omega))
    have t1 : ((nW : Int) != 5) = true := by simp; omega
    go_enter Try.func29, Try.ntmps29
    go_wp2_with fail
    go_quiet ((go_at_call 98; with_reducible exact QQ _ _))
    go_wp2_with fail
    try (go_quiet (fail); go_wp2_with fail)
    go_ret
    exact ⟨by rw [HE.out]; first | rfl | exact ret_yes (by omega) | exact ret_no (by omega), by (repeat (first | exact below_alloc (Below.refl _ _) _ | apply pw_below_drewN))⟩
set_option maxHeartbeats 8000000 in
set_option maxRecDepth 100000 in
theorem ref_oRight_calls_4 (A1 A2 A3 : Option Addr) (nW nR nI c1 c2 c3 : Nat) (w : World) (bW : nW ≤ 140737488355328) (bR : nR ≤ 140737488355328) (bI : nI ≤ 140737488355328) : Calls Try.prog 29 #[.agg #[.int .i64 4, .slice A1 nW c1, .slice A2 nR c2, .slice A3 nI c3]] w fun e w' => e = .returned (.bool (oR 4 nW nR nI)) ∧ Below w.heap.size w w' := by
  have HW := Aside0.mk (show wN 4 = 1 from rfl)
  have QQ : ∀ (w : World) (j : Nat), Calls Try.prog 98 #[.int .i64 4] (w.drewN j) fun e w' => e = .returned (.int .i64 1) ∧ ∃ m, w' = w.drewN m := fun w j => ref_oWords_quiet 4 w j
  by_cases e1 : nW = 1
  · subst e1
    by_cases e2 : nR = 0
    · subst e2
      by_cases e3 : 1 ≤ nI
      · by_cases e4 : nI ≤ 1024
        · have HE := Aside0.mk (oR_yes (k := 4) (nW := 1) (nR := 0) (nI := nI) (by omega))
          go_enter Try.func29, Try.ntmps29
          go_wp2_with fail
          go_quiet ((go_at_call 98; with_reducible exact QQ _ _))
          go_wp2_with fail
          try (go_quiet (fail); go_wp2_with fail)
          go_ret
          exact ⟨by rw [HE.out]; first | rfl | exact ret_yes (by omega) | exact ret_no (by omega), by (repeat (first | exact below_alloc (Below.refl _ _) _ | apply pw_below_drewN))⟩
        · have HE := Aside0.mk (oR_no (k := 4) (nW := 1) (nR := 0) (nI := nI) (by omega))
          go_enter Try.func29, Try.ntmps29
          go_wp2_with fail
          go_quiet ((go_at_call 98; with_reducible exact QQ _ _))
          go_wp2_with fail
          try (go_quiet (fail); go_wp2_with fail)
          go_ret
          exact ⟨by rw [HE.out]; first | rfl | exact ret_yes (by omega) | exact ret_no (by omega), by (repeat (first | exact below_alloc (Below.refl _ _) _ | apply pw_below_drewN))⟩
      · have HE := Aside0.mk (oR_no (k := 4) (nW := 1) (nR := 0) (nI := nI) (by omega))
        go_enter Try.func29, Try.ntmps29
        go_wp2_with fail
        go_quiet ((go_at_call 98; with_reducible exact QQ _ _))
        go_wp2_with fail
        try (go_quiet (fail); go_wp2_with fail)
        go_ret
        exact ⟨by rw [HE.out]; first | rfl | exact ret_yes (by omega) | exact ret_no (by omega), by (repeat (first | exact below_alloc (Below.refl _ _) _ | apply pw_below_drewN))⟩
    · have HE := Aside0.mk (oR_no (k := 4) (nW := 1) (nR := nR) (nI := nI) (by omega))
      have t2 : ((nR : Int) == 0) = false := by simp; omega
      go_enter Try.func29, Try.ntmps29
      go_wp2_with fail
      go_quiet ((go_at_call 98; with_reducible exact QQ _ _))
      go_wp2_with fail
      try (go_quiet (fail); go_wp2_with fail)
      go_ret
      exact ⟨by rw [HE.out]; first | rfl | exact ret_yes (by omega) | exact ret_no (by omega), by (repeat (first | exact below_alloc (Below.refl _ _) _ | apply pw_below_drewN))⟩
  · have HE := Aside0.mk (oR_no (k := 4) (nW := nW) (nR := nR) (nI := nI) (by omega))
    have t1 : ((nW : Int) != 1) = true := by simp; omega
    go_enter Try.func29, Try.ntmps29
    go_wp2_with fail
    go_quiet ((go_at_call 98; with_reducible exact QQ _ _))
    go_wp2_with fail
    try (go_quiet (fail); go_wp2_with fail)
    go_ret
    exact ⟨by rw [HE.out]; first | rfl | exact ret_yes (by omega) | exact ret_no (by omega), by (repeat (first | exact below_alloc (Below.refl _ _) _ | apply pw_below_drewN))⟩
set_option maxHeartbeats 8000000 in
set_option maxRecDepth 100000 in
theorem ref_oRight_calls_0 (k : Int) (h1 : k ≠ 1) (h2 : k ≠ 2) (h3 : k ≠ 3) (h4 : k ≠ 4) (A1 A2 A3 : Option Addr) (nW nR nI c1 c2 c3 : Nat) (w : World) (bW : nW ≤ 140737488355328) (bR : nR ≤ 140737488355328) (bI : nI ≤ 140737488355328) : Calls Try.prog 29 #[.agg #[.int .i64 k, .slice A1 nW c1, .slice A2 nR c2, .slice A3 nI c3]] w fun e w' => e = .returned (.bool (oR k nW nR nI)) ∧ Below w.heap.size w w' := by
  have HE := Aside0.mk (oR_no (k := k) (nW := nW) (nR := nR) (nI := nI) (by omega))
  have hw : wN k = 0 := by simp [wN, h1, h2, h3, h4]
  have HW := Aside0.mk hw
  have QQ : ∀ (w : World) (j : Nat), Calls Try.prog 98 #[.int .i64 k] (w.drewN j) fun e w' => e = .returned (.int .i64 0) ∧ ∃ m, w' = w.drewN m := fun w j => by have := ref_oWords_quiet k w j; rwa [hw] at this
  clear hw h1 h2 h3 h4
  go_enter Try.func29, Try.ntmps29
  go_wp2_with fail
  go_quiet ((go_at_call 98; with_reducible exact QQ _ _))
  go_wp2_with fail
  try (go_quiet (fail); go_wp2_with fail)
  go_ret
  exact ⟨by rw [HE.out]; first | rfl | exact ret_yes (by omega) | exact ret_no (by omega), by (repeat (first | exact below_alloc (Below.refl _ _) _ | apply pw_below_drewN))⟩
theorem ref_oRight_calls (k : Int) (A1 A2 A3 : Option Addr) (nW nR nI c1 c2 c3 : Nat) (w : World) (bW : nW ≤ 140737488355328) (bR : nR ≤ 140737488355328) (bI : nI ≤ 140737488355328) : Calls Try.prog 29 #[.agg #[.int .i64 k, .slice A1 nW c1, .slice A2 nR c2, .slice A3 nI c3]] w fun e w' => e = .returned (.bool (oR k nW nR nI)) ∧ Below w.heap.size w w' := by
  rcases kind_ways k with rfl | rfl | rfl | rfl | ⟨h1, h2, h3, h4⟩
  · exact ref_oRight_calls_1 A1 A2 A3 nW nR nI c1 c2 c3 w bW bR bI
  · exact ref_oRight_calls_2 A1 A2 A3 nW nR nI c1 c2 c3 w bW bR bI
  · exact ref_oRight_calls_3 A1 A2 A3 nW nR nI c1 c2 c3 w bW bR bI
  · exact ref_oRight_calls_4 A1 A2 A3 nW nR nI c1 c2 c3 w bW bR bI
  · exact ref_oRight_calls_0 k h1 h2 h3 h4 A1 A2 A3 nW nR nI c1 c2 c3 w bW bR bI

end Go.Proofs.Ytigdchfjcfljjaa
