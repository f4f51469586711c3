/- Numbers in digits of ten: the program's Decimal, the reference's; padded. -/
import Derived.Test.YtplmdgimodgekaaDecP
import Derived.Test.YtplmdgimodgekaaKp
namespace Go.Proofs.Ytplmdgimodgekaa
open Go.RowKit Go.Proofs.YtplmdgimodgekaaW.PrintWords Go.Proofs.YtplmdgimodgekaaW.PrintLast Go.Proofs.YtplmdgimodgekaaW.PrintMore
attribute [local go_sem] max2_int min2_int max_two min_two max_three min_three max_four min_four   -- for this text's walks alone
set_option linter.unusedVariables false
set_option linter.unusedSimpArgs false

theorem str1 (W : World) (x : Int) : (convert 37 9 (.slice (some ⟨W.heap.size, 0, none⟩) 1 1)).run Try.prog (W.alloc (.cells #[.int .u8 x] 5)) = .ok (.string (strOfNums [x])) (W.alloc (.cells #[.int .u8 x] 5)) :=
  string_of_reads (P := Try.prog) (c := 1) Try.underlying37 Try.underlying5 Try.underlying9 (own_reads' (own_lit W 0 5 .u8 [x] (Nat.zero_le _) (by simp)))
theorem pow10_19 : ∀ {k : Nat}, k ≤ 19 → (10 : Int) ^ k ≤ 10000000000000000000 := by decide
set_option maxHeartbeats 8000000 in
set_option maxRecDepth 100000 in
theorem Decimal_small (n : Int) (w : World) (h0 : 0 ≤ n) (h1 : n < 10) :
    Calls Try.prog 81 #[.int .u64 n] w fun e w' => e = .returned (.string (strOfNums [48 + n])) ∧ Below w.heap.size w w' := by
  have hcv := fun W => str1 W (48 + n)
  have hm : (48 + n) % 256 = 48 + n := by omega
  go_enter Try.func81, Try.ntmps81
  go_wp2_with fail
  go_ret
  exact ⟨rfl, below_alloc (Below.refl _ _) _⟩

theorem strOf_cons (x : Int) (l : List Int) : strOfNums [x] ++ strOfNums l = strOfNums (x :: l) := strOf_append [x] l
set_option maxHeartbeats 8000000 in
set_option maxRecDepth 100000 in
theorem Decimal_step (k : Nat) (ih : ∀ (n : Int) (w : World), 0 ≤ n → n < 10 ^ (k + 1) → n ≤ 18446744073709551615 → Calls Try.prog 81 #[.int .u64 n] w fun e w' => e = .returned (.string (strOfNums (decD (k + 1) n))) ∧ Below w.heap.size w w') (n : Int) (w : World) (h0 : 0 ≤ n) (h1 : ¬ n < 10) (h2 : n / 10 < 10 ^ (k + 1)) (h3 : n ≤ 18446744073709551615) (hk : k ≤ 30) :
    Calls Try.prog 81 #[.int .u64 n] w fun e w' => e = .returned (.string (strOfNums (decD (k + 1) (n / 10) ++ [48 + n % 10]))) ∧ Below w.heap.size w w' := by
  have IH := Aside0.mk (fun w => ih (n / 10) w (by omega) h2 (by omega))
  have HF := Aside0.mk (strOf_append (decD (k + 1) (n / 10)) [48 + n % 10])
  obtain ⟨q, hq⟩ : ∃ q, n / 10 = q := ⟨_, rfl⟩
  obtain ⟨d, hd⟩ : ∃ d, n % 10 = d := ⟨_, rfl⟩
  have hd0 : 0 ≤ d := by omega
  have hd1 : d ≤ 9 := by omega
  have hq0 : 0 ≤ q := by omega
  have hm : (48 + d) % 256 = 48 + d := by omega
  have hcv := fun W => str1 W (48 + d)
  have hw1 : IntKind.u64.wrap q = q := IntWalk.u64_in _ (by omega)
  have hw2 : IntKind.u64.wrap (48 + d) = 48 + d := IntWalk.u64_in _ (by omega)
  have hw3 : IntKind.u8.wrap (48 + d) = 48 + d := by rw [IntKind.wrap_u8]; omega
  have tq : n.tdiv 10 = q := by rw [Int.tdiv_eq_ediv_of_nonneg h0, hq]
  have td : n.tmod 10 = d := by rw [Int.tmod_eq_emod_of_nonneg h0, hd]
  rw [hq] at IH HF
  rw [hd] at HF
  rw [hq, hd]
  clear ih h2
  have hl := (decD_len k q).1
  obtain ⟨D, hD⟩ : ∃ D, decD (k + 1) q = D := ⟨_, rfl⟩
  rw [hD] at hl
  have hz1 : (strOfNums D).size ≤ 31 := by rw [strOfNums_size]; omega
  have hz2 : (strOfNums [48 + d]).size ≤ 1 := by rw [strOfNums_size]; simp
  have hzz : (9223372036854775807 < (strOfNums D).size + (strOfNums [48 + d]).size) = False := eq_false (by omega)
  rw [hD] at IH HF
  rw [hD]
  clear hD
  go_enter Try.func81, Try.ntmps81
  go_wp2_with fail
  refine start_ (n := 11) (S := fun w' => True) (ds := []) #[false, false, false, false, false, false, false, false, false, false, false] (by kernel_rfl) rfl rfl trivial (fun hHeld => ?_)
  refine pure_ (i := 0) (N := some 10) (v := ?_) (a' := ?_) #[true, false, false, false, false, false, false, false, false, false, false] rfl rfl (by kernel_rfl) (fun _ _ _ h => h) (Or.inl ⟨by rfl, ?_⟩) ?_ ?_
  rotate_left
  · intro w'
    go_simp
    with_reducible rfl
  rotate_left
  · simp only [Act.put, List.setIfInBounds_toArray, List.set_cons_zero, List.set_cons_succ, i64_w, i32_w]
    rfl
  refine pure_ (i := 1) (N := some 11) (v := ?_) (a' := ?_) #[true, true, false, false, false, false, false, false, false, false, false] rfl rfl (by kernel_rfl) (fun _ _ _ h => h) (Or.inl ⟨by rfl, ?_⟩) ?_ ?_
  rotate_left
  · intro w'
    go_simp
    with_reducible rfl
  rotate_left
  · simp only [Act.put, List.setIfInBounds_toArray, List.set_cons_zero, List.set_cons_succ, i64_w, i32_w]
    rfl
  refine pure_ (i := 3) (N := some 13) (v := ?_) (a' := ?_) #[true, true, false, true, false, false, false, false, false, false, false] rfl rfl (by kernel_rfl) (fun _ _ _ h => h) (Or.inl ⟨by rfl, ?_⟩) ?_ ?_
  rotate_left
  · intro w'
    go_simp
    with_reducible rfl
  rotate_left
  · simp only [Act.put, List.setIfInBounds_toArray, List.set_cons_zero, List.set_cons_succ, i64_w, i32_w]
    rfl
  refine pure_ (i := 4) (N := some 14) (v := ?_) (a' := ?_) #[true, true, false, true, true, false, false, false, false, false, false] rfl rfl (by kernel_rfl) (fun _ _ _ h => h) (Or.inl ⟨by rfl, ?_⟩) ?_ ?_
  rotate_left
  · intro w'
    go_simp
    with_reducible rfl
  rotate_left
  · simp only [Act.put, List.setIfInBounds_toArray, List.set_cons_zero, List.set_cons_succ, i64_w, i32_w]
    rfl
  refine pure_ (i := 5) (N := some 15) (v := ?_) (a' := ?_) #[true, true, false, true, true, true, false, false, false, false, false] rfl rfl (by kernel_rfl) (fun _ _ _ h => h) (Or.inl ⟨by rfl, ?_⟩) ?_ ?_
  rotate_left
  · intro w'
    go_simp
    with_reducible rfl
  rotate_left
  · simp only [Act.put, List.setIfInBounds_toArray, List.set_cons_zero, List.set_cons_succ, i64_w, i32_w]
    rfl
  refine pure_ (i := 6) (N := some 16) (v := ?_) (a' := ?_) #[true, true, false, true, true, true, true, false, false, false, false] rfl rfl (by kernel_rfl) (fun _ _ _ h => h) (Or.inl ⟨by rfl, ?_⟩) ?_ ?_
  rotate_left
  · intro w'
    go_simp
    with_reducible rfl
  rotate_left
  · simp only [Act.put, List.setIfInBounds_toArray, List.set_cons_zero, List.set_cons_succ, i64_w, i32_w]
    rfl
  refine join_ (σ := Value) 2 #[true, true, true, true, true, true, true, true, true, false, false] (fun s => [(12, .string (strOfNums D)), (17, s), (18, .string (strOfNums [48 + d]))]) (fun s w' => Below w.heap.size w w') ?_ ?_
  rotate_left
  · intro hCont
    refine two_ (i := 2) (j := 7) (Ni := some 12) (Nj := some 17) #[true, true, true, true, true, true, true, false, false, false, false] #[true, true, false, true, true, true, true, true, false, false, false] rfl rfl rfl rfl (by kernel_rfl) (by decide) (by decide) (fun K hK => ?_) (fun K hK => ?_)
    · skip
      refine goes_ Try.func81 (by kernel_rfl) rfl #[.int .u64 q] (by rfl) rfl rfl (by (try simp only [List.map_toArray, List.map_cons, List.map_nil]); first | done | rfl) ?_
      with_reducible refine (IH.out _).mono ?_
      rintro e w1 ⟨rfl, hb1⟩
      refine ⟨_, rfl, ?_⟩
      refine hK.out _ _ trivial (fun hHeld => ?_)
      clear hK K
      refine norm_ (a' := ?_) ?_ ?_
      rotate_left
      · show Act.put _ (some 12) _ = _
        simp only [Act.put, List.setIfInBounds_toArray, List.set_cons_zero, List.set_cons_succ, i64_w, i32_w]
        rfl
      refine one_ (i := 7) (N := some 17) #[true, true, true, true, true, true, true, true, false, false, false] rfl rfl (by kernel_rfl) (by decide) (fun K hK => ?_)
      refine value_ (w1 := ?_) (v := ?_) (by rfl) rfl ?_ ?_
      rotate_left 2
      · go_simp
        constructor
        · rfl
        · rfl
      refine hK.out _ _ trivial (fun hHeld => ?_)
      clear hK K
      refine norm_ (a' := ?_) ?_ ?_
      rotate_left
      · show Act.put _ (some 17) _ = _
        simp only [Act.put, List.setIfInBounds_toArray, List.set_cons_zero, List.set_cons_succ, i64_w, i32_w]
        rfl
      refine one_ (i := 8) (N := some 18) #[true, true, true, true, true, true, true, true, true, false, false] rfl rfl (by kernel_rfl) (by decide) (fun K hK => ?_)
      have hcv : (convert 37 9 (.slice (some ⟨w1.heap.size, 0, none⟩) 1 1)).run Try.prog (w1.alloc (.cells #[.int .u8 (48 + d)] 5)) = .ok (.string (strOfNums [48 + d])) (w1.alloc (.cells #[.int .u8 (48 + d)] 5)) := string_of_reads (P := Try.prog) (c := 1) Try.underlying37 Try.underlying5 Try.underlying9 (own_reads' (own_lit w1 0 5 .u8 [48 + d] (Nat.zero_le _) (by simp)))
      refine value_ (w1 := ?_) (v := ?_) (by rfl) rfl ?_ ?_
      rotate_left 2
      · go_simp
        constructor
        · rfl
        · rfl
      refine hK.out _ _ trivial (fun hHeld => ?_)
      clear hK K
      refine norm_ (a' := ?_) ?_ ?_
      rotate_left
      · show Act.put _ (some 18) _ = _
        simp only [Act.put, List.setIfInBounds_toArray, List.set_cons_zero, List.set_cons_succ, i64_w, i32_w]
        rfl
      exact norm_ (by simp only [putAll, Act.put, List.setIfInBounds_toArray, List.set_cons_zero, List.set_cons_succ]) (hCont (.slice (some ⟨w1.heap.size, 0, none⟩) 1 1) _ (below_alloc (below_step (below_drew (Below.refl _ w)) hb1) _))
    · skip
      refine value_ (w1 := ?_) (v := ?_) (by rfl) rfl ?_ ?_
      rotate_left 2
      · go_simp
        constructor
        · rfl
        · rfl
      refine hK.out _ _ trivial (fun hHeld => ?_)
      clear hK K
      refine norm_ (a' := ?_) ?_ ?_
      rotate_left
      · show Act.put _ (some 17) _ = _
        simp only [Act.put, List.setIfInBounds_toArray, List.set_cons_zero, List.set_cons_succ, i64_w, i32_w]
        rfl
      refine two_ (i := 2) (j := 8) (Ni := some 12) (Nj := some 18) #[true, true, true, true, true, true, true, true, false, false, false] #[true, true, false, true, true, true, true, true, true, false, false] rfl rfl rfl rfl (by kernel_rfl) (by decide) (by decide) (fun K hK => ?_) (fun K hK => ?_)
      · skip
        refine goes_ Try.func81 (by kernel_rfl) rfl #[.int .u64 q] (by rfl) rfl rfl (by (try simp only [List.map_toArray, List.map_cons, List.map_nil]); first | done | rfl) ?_
        with_reducible refine (IH.out _).mono ?_
        rintro e w1 ⟨rfl, hb1⟩
        refine ⟨_, rfl, ?_⟩
        refine hK.out _ _ trivial (fun hHeld => ?_)
        clear hK K
        refine norm_ (a' := ?_) ?_ ?_
        rotate_left
        · show Act.put _ (some 12) _ = _
          simp only [Act.put, List.setIfInBounds_toArray, List.set_cons_zero, List.set_cons_succ, i64_w, i32_w]
          rfl
        refine one_ (i := 8) (N := some 18) #[true, true, true, true, true, true, true, true, true, false, false] rfl rfl (by kernel_rfl) (by decide) (fun K hK => ?_)
        have hcv : (convert 37 9 (.slice (some ⟨w.heap.size, 0, none⟩) 1 1)).run Try.prog w1 = .ok (.string (strOfNums [48 + d])) w1 := string_of_reads (P := Try.prog) (c := 1) Try.underlying37 Try.underlying5 Try.underlying9 (((own_reads' (own_lit w 0 5 .u8 [48 + d] (Nat.zero_le _) (by simp))).below (below_drew (Below.refl _ _))).below hb1)
        refine value_ (w1 := ?_) (v := ?_) (by rfl) rfl ?_ ?_
        rotate_left 2
        · go_simp
          constructor
          · rfl
          · rfl
        refine hK.out _ _ trivial (fun hHeld => ?_)
        clear hK K
        refine norm_ (a' := ?_) ?_ ?_
        rotate_left
        · show Act.put _ (some 18) _ = _
          simp only [Act.put, List.setIfInBounds_toArray, List.set_cons_zero, List.set_cons_succ, i64_w, i32_w]
          rfl
        exact norm_ (by simp only [putAll, Act.put, List.setIfInBounds_toArray, List.set_cons_zero, List.set_cons_succ]) (hCont (.slice (some ⟨w.heap.size, 0, none⟩) 1 1) _ (below_step (below_drew (below_alloc (Below.refl _ w) _)) hb1))
      · skip
        have hcv : (convert 37 9 (.slice (some ⟨w.heap.size, 0, none⟩) 1 1)).run Try.prog (w.alloc (.cells #[.int .u8 (48 + d)] 5)).drew = .ok (.string (strOfNums [48 + d])) (w.alloc (.cells #[.int .u8 (48 + d)] 5)).drew := string_of_reads (P := Try.prog) (c := 1) Try.underlying37 Try.underlying5 Try.underlying9 ((own_reads' (own_lit w 0 5 .u8 [48 + d] (Nat.zero_le _) (by simp))).below (below_drew (Below.refl _ _)))
        refine value_ (w1 := ?_) (v := ?_) (by rfl) rfl ?_ ?_
        rotate_left 2
        · go_simp
          constructor
          · rfl
          · rfl
        refine hK.out _ _ trivial (fun hHeld => ?_)
        clear hK K
        refine norm_ (a' := ?_) ?_ ?_
        rotate_left
        · show Act.put _ (some 18) _ = _
          simp only [Act.put, List.setIfInBounds_toArray, List.set_cons_zero, List.set_cons_succ, i64_w, i32_w]
          rfl
        refine one_ (i := 2) (N := some 12) #[true, true, true, true, true, true, true, true, true, false, false] rfl rfl (by kernel_rfl) (by decide) (fun K hK => ?_)
        refine goes_ Try.func81 (by kernel_rfl) rfl #[.int .u64 q] (by rfl) rfl rfl (by (try simp only [List.map_toArray, List.map_cons, List.map_nil]); first | done | rfl) ?_
        with_reducible refine (IH.out _).mono ?_
        rintro e w1 ⟨rfl, hb1⟩
        refine ⟨_, rfl, ?_⟩
        refine hK.out _ _ trivial (fun hHeld => ?_)
        clear hK K
        refine norm_ (a' := ?_) ?_ ?_
        rotate_left
        · show Act.put _ (some 12) _ = _
          simp only [Act.put, List.setIfInBounds_toArray, List.set_cons_zero, List.set_cons_succ, i64_w, i32_w]
          rfl
        exact norm_ (by simp only [putAll, Act.put, List.setIfInBounds_toArray, List.set_cons_zero, List.set_cons_succ]) (hCont (.slice (some ⟨w.heap.size, 0, none⟩) 1 1) _ (below_step (below_drew (below_alloc (Below.refl _ w) _)) hb1))
  rintro s w1 hbF
  have hHeld : True := trivial
  refine norm_ (a' := ?_) ?_ ?_
  rotate_left
  · simp only [putAll, Act.put, List.setIfInBounds_toArray, List.set_cons_zero, List.set_cons_succ]
    rfl
  refine pure_ (i := 9) (N := some 19) (v := ?_) (a' := ?_) #[true, true, true, true, true, true, true, true, true, true, false] rfl rfl (by kernel_rfl) (fun _ _ _ h => h) (Or.inl ⟨by rfl, ?_⟩) ?_ ?_
  rotate_left
  · intro w'
    go_simp
    with_reducible rfl
  rotate_left
  · simp only [Act.put, List.setIfInBounds_toArray, List.set_cons_zero, List.set_cons_succ, i64_w, i32_w]
    rfl
  refine pure_ (i := 10) (N := some 2) (v := ?_) (a' := ?_) #[true, true, true, true, true, true, true, true, true, true, true] rfl rfl (by kernel_rfl) (fun _ _ _ h => h) (Or.inl ⟨by rfl, ?_⟩) ?_ ?_
  rotate_left
  · intro w'
    go_simp
    with_reducible rfl
  rotate_left
  · simp only [Act.put, List.setIfInBounds_toArray, List.set_cons_zero, List.set_cons_succ, i64_w, i32_w]
    rfl
  refine done_ (by kernel_rfl) ?_
  have HB := Aside0.mk hbF
  clear hbF
  go_wp2_with fail
  go_ret
  exact ⟨by rw [HF.out]; rfl, HB.out⟩
theorem Decimal_calls : ∀ (k : Nat) (n : Int) (w : World), k ≤ 30 → 0 ≤ n → n < 10 ^ (k + 1) → n ≤ 18446744073709551615 → Calls Try.prog 81 #[.int .u64 n] w fun e w' => e = .returned (.string (strOfNums (decD (k + 1) n))) ∧ Below w.heap.size w w'
  | 0, n, w, _, h0, h1, _ => by
    have h1 : n < 10 := by simpa using h1
    rw [decD_s, if_pos h1]
    exact Decimal_small n w h0 h1
  | k + 1, n, w, hk, h0, h1, h2 => by
    rw [decD_s]
    by_cases h : n < 10
    · rw [if_pos h]
      exact Decimal_small n w h0 h
    · rw [if_neg h]
      exact Decimal_step k (fun n w a b c => Decimal_calls k n w (by omega) a b c) n w h0 h (by rw [Int.pow_succ] at h1; omega) h2 (by omega)
/-- The digits that the reference's Decimal has when it has come to m. -/
def decS (k : Nat) (n m : Int) (l : List Int) : Prop := (0 < m ∨ l = []) ∧ 0 ≤ m ∧ ∃ j, k = j + l.length ∧ decD (j + 1) m ++ l = decD (k + 1) n ∧ m < 10 ^ (j + 1)
def szm (v : Value) : Nat := match v with | .string s => if s.size = 0 then 1 else 0 | _ => 0
theorem szm_pos {s : ByteArray} (h : 0 < s.size) : szm (.string s) = 0 := by show (if s.size = 0 then 1 else 0) = 0; rw [if_neg (by omega)]
theorem szm_zero {s : ByteArray} (h : s.size = 0) : szm (.string s) = 1 := by show (if s.size = 0 then 1 else 0) = 1; rw [if_pos h]
theorem decS_step {k : Nat} {n m : Int} {l D : List Int} (h : decS k n m l) (hD : decD (k + 1) n = D) : decS k n (m / 10) ((48 + m % 10) :: l) ∨ (m / 10 = 0 ∧ (48 + m % 10) :: l = D ∧ (48 + m % 10) :: l ≠ []) := by
  obtain ⟨h1, m0, j, hj, he, hm⟩ := h
  rw [hD] at he
  by_cases h10 : m < 10
  · rw [decD_s, if_pos h10] at he
    exact .inr ⟨by omega, by rw [← he, show m % 10 = m by omega]; rfl, by simp⟩
  · rw [decD_s, if_neg h10] at he
    cases j with
    | zero => simp at hm; omega
    | succ j =>
      exact .inl ⟨.inl (by omega), by omega, j, by rw [List.length_cons]; omega, by rw [hD, ← he, List.append_assoc]; rfl, by rw [Int.pow_succ] at hm; omega⟩
set_option maxHeartbeats 8000000 in
set_option maxRecDepth 100000 in
theorem ref_Decimal_calls (k : Nat) (n : Int) (w : World) (hk : k ≤ 30) (h0 : 0 ≤ n) (h1 : n < 10 ^ (k + 1)) (h2 : n ≤ 18446744073709551615) :
    Calls Try.prog 82 #[.int .u64 n] w fun e w' => e = .returned (.string (strOfNums (decD (k + 1) n))) ∧ Below w.heap.size w w' := by
  have hl := decD_len k n
  have HI := Aside0.mk (show decS k n n [] from ⟨.inr rfl, h0, k, rfl, by simp, h1⟩)
  obtain ⟨D, hD⟩ : ∃ D, decD (k + 1) n = D := ⟨_, rfl⟩
  rw [hD]
  have HD := Aside0.mk hD
  clear hD h1 hl
  go_enter Try.func82, Try.ntmps82
  go_wp2_with fail
  go_loopw [0, 3] (fun v0 v3 w' => ∃ (m : Int) (l : List Int), 0 ≤ m ∧ m ≤ n ∧ v0 = .int .u64 m ∧ v3 = .string (strOfNums l) ∧ l.length ≤ k + 1 ∧ Aside0 (decS k n m l ∨ (m = 0 ∧ l = D ∧ l ≠ [])) ∧ Aside0 (Below w.heap.size w w')) (fun v0 v3 _ => (intOf v0).toNat + szm v3)
  case atStart => exact ⟨n, [], h0, by omega, rfl, rfl, by simp, ⟨.inl HI.out⟩, ⟨Below.refl _ _⟩⟩
  case round =>
    obtain ⟨m, l, m0, m1, rfl, rfl, hl, HC, HB⟩ := hrel
    obtain ⟨s, hs⟩ : ∃ s, strOfNums l = s := ⟨_, rfl⟩
    have hsz : s.size = l.length := by rw [← hs, strOfNums_size]
    have HS := Aside0.mk hs
    rw [hs]
    clear hs
    by_cases hm : m = 0 ∧ l ≠ []
    · have hE : l = D := by
        rcases HC.out with h | h
        · rcases h.1 with h | h
          · have := hm.1; omega
          · exact absurd h hm.2
        · exact h.2.1
      have HE := Aside0.mk (show s = strOfNums D by rw [← HS.out, hE])
      have hlp : 0 < l.length := List.length_pos_iff.2 hm.2
      have t1 : decide (0 < m) = false := by simp; omega
      have t2 : (s.toList == []) = false := by
        rw [beq_eq_false_iff_ne]; intro e
        have := congrArg List.length e
        rw [ByteArray.toList_eq, data_length, List.length_nil] at this
        omega
      have t3 : (!s.toList.isEmpty) = true := by
        cases h : s.toList with
        | nil => rw [h] at t2; simp at t2
        | cons => rfl
      clear hE
      go_wp2_with fail
      go_ret
      exact ⟨by rw [HE.out]; rfl, HB.out⟩
    · have HCC := Aside0.mk (decS_step (by rcases HC.out with h | h; exact h; exact absurd ⟨h.1, h.2.2⟩ hm) HD.out)
      have hlk : l.length + 1 ≤ k + 1 := by
        rcases HC.out with h | h
        · obtain ⟨_, _, j, hj, _⟩ := h; omega
        · exact absurd ⟨h.1, h.2.2⟩ hm
      obtain ⟨d, hd⟩ : ∃ d, m % 10 = d := ⟨_, rfl⟩
      obtain ⟨q, hq⟩ : ∃ q, m / 10 = q := ⟨_, rfl⟩
      have hd0 : 0 ≤ d := by omega
      have hd1 : d ≤ 9 := by omega
      have hq0 : 0 ≤ q := by omega
      have hq1 : q ≤ n := by omega
      have hqm : 0 < m → q < m := by omega
      have HQ := Aside0.mk hq
      have hq00 : m = 0 → q = 0 := by omega
      rw [hd, hq] at HCC
      have hm2 : (48 + d) % 256 = 48 + d := by omega
      have HF := Aside0.mk (show strOfNums [48 + d] ++ s = strOfNums ((48 + d) :: l) by rw [← HS.out, strOf_cons])
      have hcv := fun W => str1 W (48 + d)
      have hs1 : (strOfNums [48 + d]).size = 1 := by rw [strOfNums_size]; rfl
      obtain ⟨c1, hc1⟩ : ∃ c1, strOfNums [48 + d] = c1 := ⟨_, rfl⟩
      rw [hc1] at hs1
      have HC1 := Aside0.mk hc1
      simp only [hc1] at hcv
      clear hc1
      by_cases hp : 0 < m
      · have hqm := hqm hp
        clear hm hq00
        go_wp2_with fail
        go_roundw
        case rel => exact ⟨q, (48 + d) :: l, hq0, hq1, by rw [HQ.out], by rw [← HF.out, HC1.out], by simp; omega, HCC, ⟨by (repeat (first | (with_reducible first | exact HB.out | apply below_alloc | apply pw_below_drewN | apply below_drew1) | exact HB.out))⟩⟩
        case measure =>
          rw [szm_pos (show 0 < (c1 ++ s).size by rw [ByteArray.size_append]; omega)]
          have := HQ.out
          simp only [intOf]
          omega
      · have hlz : l = [] := by
          apply Classical.byContradiction
          intro h
          exact hm ⟨by omega, h⟩
        have hm0 : m = 0 := by omega
        have hs0 : s.size = 0 := by rw [hsz, hlz]; rfl
        have hq9 := hq00 hm0
        have t1 : decide (0 < m) = false := by simp; omega
        have t2 : (s.toList == []) = true := by
          rw [beq_iff_eq]
          apply List.eq_nil_of_length_eq_zero
          rw [ByteArray.toList_eq, data_length]; exact hs0
        have t3 : (!s.toList.isEmpty) = false := by
          rw [beq_iff_eq] at t2; rw [t2]; rfl
        clear hm hlz hqm hq00 hm0 hq9
        go_wp2_with fail
        go_roundw
        case rel => exact ⟨q, (48 + d) :: l, hq0, hq1, by rw [HQ.out], by rw [← HF.out, HC1.out], by simp; omega, HCC, ⟨by (repeat (first | (with_reducible first | exact HB.out | apply below_alloc | apply pw_below_drewN | apply below_drew1) | exact HB.out))⟩⟩
        case measure =>
          rw [szm_pos (show 0 < (c1 ++ s).size by rw [ByteArray.size_append]; omega), szm_zero hs0]
          have := HQ.out
          simp only [intOf]
          omega
set_option maxHeartbeats 8000000 in
set_option maxRecDepth 100000 in
theorem two_calls (n : Int) (k : Nat) (w : World) (hk : k ≤ 8) (h0 : 0 ≤ n) (h1 : n < 10 ^ (k + 1)) :
    Calls Try.prog 138 #[.int .i64 n, .int .i64 ((k : Int) + 1)] w fun e w' => e = .returned (.string (strOfNums (dI (k + 1) n))) ∧ Below w.heap.size w w' := by
  have h10 := pow10_19 (show k + 1 ≤ 19 by omega)
  have hl := decD_len k n
  have HP := Aside0.mk (pad_dI k n h0 h1)
  have HD := Aside0.mk (fun w => ref_Decimal_calls k n w (by omega) h0 h1 (by omega))
  obtain ⟨D, hD⟩ : ∃ D, decD (k + 1) n = D := ⟨_, rfl⟩
  rw [hD] at HP HD hl
  obtain ⟨m, hm⟩ : ∃ m, D.length = m := ⟨_, rfl⟩
  rw [hm] at HP hl
  have HM := Aside0.mk hm
  have hn19 : n ≤ 10000000000000000000 := by omega
  have hw1 : IntKind.u64.wrap n = n := IntWalk.u64_in _ (by omega)
  clear hD h1 h10 hm
  go_enter Try.func138, Try.ntmps138
  go_wp2_with fail
  refine (HD.out _).mono ?_
  rintro e w1 ⟨rfl, hb⟩
  have HB := Aside0.mk hb
  clear hb hw1
  go_wp2_with fail
  go_loop [5] (fun v5 => ∃ j : Nat, m + j ≤ k + 1 ∧ v5 = .string (strOfNums (List.replicate j 48 ++ D))) (fun v5 => k + 1 - (match v5 with | .string s => s.size | _ => 0))
  case atStart => exact ⟨0, by omega, by simp⟩
  case round =>
    obtain ⟨j, hj, rfl⟩ := hrel
    have hsz : (strOfNums (List.replicate j 48 ++ D)).size = m + j := by rw [strOfNums_size, List.length_append, List.length_replicate, HM.out]; omega
    have HF := Aside0.mk (show strOfNums [48] ++ strOfNums (List.replicate j 48 ++ D) = strOfNums (List.replicate (j + 1) 48 ++ D) by rw [strOf_cons, List.replicate_succ]; rfl)
    have HZ := Aside0.mk (show (strOfNums (List.replicate (j + 1) 48 ++ D)).size = m + j + 1 by rw [strOfNums_size, List.length_append, List.length_replicate, HM.out]; omega)
    obtain ⟨s, hs⟩ : ∃ s, strOfNums (List.replicate j 48 ++ D) = s := ⟨_, rfl⟩
    rw [hs] at hsz HF ⊢
    have HS := Aside0.mk hs
    clear hs
    by_cases c : m + j < k + 1
    · go_wp2_with fail
      go_round
      case rel => exact ⟨j + 1, by omega, by rw [← HF.out]; rfl⟩
      case measure =>
        have h1 : (⟨#[48]⟩ : ByteArray).size = 1 := rfl
        simp
        omega
    · have hjj : j = k + 1 - m := by omega
      have HE := Aside0.mk (show s = strOfNums (dI (k + 1) n) by rw [← HS.out, ← HP.out, hjj])
      go_wp2_with fail
      go_ret
      exact ⟨by rw [HE.out]; rfl, HB.out⟩
end Go.Proofs.Ytplmdgimodgekaa
