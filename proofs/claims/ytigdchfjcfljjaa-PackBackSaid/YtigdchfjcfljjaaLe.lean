/- Contracts of package le, and of its reference, over this translation. -/
import Derived.Test.YtigdchfjcfljjaaLePure
namespace Go.Proofs.Ytigdchfjcfljjaa
open Go.RowKit Go.Proofs.YtigdchfjcfljjaaW.PrintWords Go.Proofs.YtigdchfjcfljjaaW.PrintLast Go.Proofs.YtigdchfjcfljjaaW.PrintMore
attribute [local go_sem] max2_int min2_int max_two min_two max_three min_three max_four min_four   -- for this text's walks alone
set_option linter.unusedVariables false
set_option linter.unusedSimpArgs false

theorem mk8 (w : World) : (Instr.makeSlice 22 (.int .i64 0) (.int .i64 8)).run Try.prog w = .ok (.slice (some ⟨w.heap.size, 0, none⟩) 0 8) (w.alloc (.cells #[.int .u8 0, .int .u8 0, .int .u8 0, .int .u8 0, .int .u8 0, .int .u8 0, .int .u8 0, .int .u8 0] 5)) := by kernel_rfl
set_option maxHeartbeats 8000000 in
set_option maxRecDepth 100000 in
theorem le_Bytes_calls (n width : Int) (w : World) (h0 : 0 ≤ n) (h1 : n ≤ 18446744073709551615) :
    Calls Try.prog 87 #[.int .u64 n, .int .i64 width] w fun e w' => ∃ v0_ : Value, e = .returned (v0_) ∧ Kd.R (Kd.int .u8) 5 w' w.heap.size (fun _ => True) v0_ (leB n (leW width)) ∧ Below w.heap.size w w' := by
  have hmk := mk8
  obtain ⟨M, hM⟩ : ∃ M, (if width < 0 then 0 else width) = M := ⟨_, rfl⟩
  obtain ⟨B, hB⟩ : ∃ B, (if 8 < M then 8 else M) = B := ⟨_, rfl⟩
  have hW : Aside0 (B = (leW width : Int)) := ⟨by unfold leW; rw [← hB, ← hM]; split <;> split <;> omega⟩
  have hB0 : 0 ≤ B := by rw [hW.out]; omega
  have hB8 : B ≤ 8 := by rw [hW.out]; unfold leW; omega
  have HN := Aside0.mk h0
  go_enter Try.func87, Try.ntmps87
  go_wp2
  go_loopw [0, 5, 10] (fun v0 v5 v10 w' => ∃ k : Nat, (k : Int) ≤ B ∧ v10 = .int .i64 k ∧ v0 = .int .u64 (n / 256 ^ k) ∧ Aside0 (Kd.R (Kd.int .u8) 5 w' w.heap.size (fun _ => True) v5 (leB n k)) ∧ Aside0 (Below w.heap.size w w')) (fun _ _ v10 _ => 8 - (intOf v10).toNat)
  case atStart => exact ⟨0, by omega, by simp, by simp, ⟨R_cap w _ 5 _ 8 (by simp) rfl (by omega)⟩, ⟨by apply below_alloc; exact Below.refl _ _⟩⟩
  case round =>
    obtain ⟨k, hk, rfl, rfl, HO, HB⟩ := hrel
    have hx0 : 0 ≤ n / 256 ^ k := Int.ediv_nonneg HN.out (Int.pow_nonneg (by omega))
    have hx1 : n / 256 ^ k ≤ 18446744073709551615 := Int.le_trans (Int.ediv_le_self _ HN.out) h1
    by_cases c : (k : Int) < B
    · have HL := Aside0.mk (leB_len n k)
      obtain ⟨y, hy⟩ : ∃ y, n / 256 ^ k = y := ⟨_, rfl⟩
      have HY := Aside0.mk hy
      rw [hy] at hx0 hx1
      clear hy
      rw [HY.out]
      go_wp2_with (first | ((with_reducible refine gate_builtin (b := .append) (xs := #[.tmp 12, .tmp 15]) rfl ?_); at_builtin; refine Kd.R_append (Kd.int .u8) (w0 := w) w.heap.size rfl (.tmp 12) (.tmp 15) 22 5 (.int .u8 0) 1 rfl Try.underlying22 infoU8 rfl (by decide) (by omega) u5 (leB n k) (y % 256) [.int .u8 (y % 256)] (fun _ => True) (fun _ => False) rfl rfl ?aP (fun _ hk => hk.elim) ?aF ?aO ?aB ?aS ?aL ?_; (case aP => exact rfl); (case aB => exact (by (repeat (first | (with_reducible first | exact HB.out | apply below_alloc | apply pw_below_drewN | apply below_drew1) | exact HB.out)))); (case aF => exact (fun _ _ => trivial)); (case aO => exact (by ((with_reducible repeat (first | apply Kd.R_alloc | apply Kd.R_drewN | apply Kd.R_drew)); exact HO.out))); (case aS => exact (below_size (by (repeat (first | (with_reducible first | exact HB.out | apply below_alloc | apply pw_below_drewN | apply below_drew1) | exact HB.out))))); (case aL => (rw [HL.out]; omega)); intro v6 w6 ho hb hg hat; have n0_ := Aside0.mk (hb); have n1_ := Aside0.mk (ho); clear HB; clear HO; have HB := n0_; have HO6 := n1_; clear n0_ n1_; clear ho hb hg hat))
      go_roundw
      case rel => exact ⟨k + 1, by omega, by go_num, by rw [← div_step n k y HY.out], ⟨by rw [leB, HY.out]; exact HO6.out⟩, ⟨HB.out⟩⟩
      case measure => simp [intOf]; omega
    · go_wp2
      go_ret
      have e : k = leW width := by have := hW.out; omega
      exact ⟨_, rfl, by rw [← e]; exact HO.out, HB.out⟩
set_option maxHeartbeats 8000000 in
set_option maxRecDepth 100000 in
theorem ref_Bytes_calls (n width : Int) (w : World) (h0 : 0 ≤ n) (h1 : n ≤ 18446744073709551615) :
    Calls Try.prog 113 #[.int .u64 n, .int .i64 width] w fun e w' => ∃ v0_ : Value, e = .returned (v0_) ∧ Kd.R (Kd.int .u8) 5 w' w.heap.size (fun _ => True) v0_ (leB n (leW width)) ∧ Below w.heap.size w w' := by
  have HN := Aside0.mk h0
  go_enter Try.func113, Try.ntmps113
  go_wp2
  go_loopw [0, 5, 6] (fun v0 v5 v6 w' => ∃ k : Nat, k ≤ leW width ∧ v6 = .int .i64 k ∧ v0 = .int .u64 (n / 256 ^ k) ∧ Aside0 (Kd.R (Kd.int .u8) 5 w' w.heap.size (fun _ => True) v5 (leB n k)) ∧ Aside0 (Below w.heap.size w w')) (fun _ _ v6 _ => 8 - (intOf v6).toNat)
  case atStart => exact ⟨0, by omega, by simp, by simp, ⟨Kd.R_nil _ _ _ _ _⟩, ⟨Below.refl _ _⟩⟩
  case round =>
    obtain ⟨k, hk, rfl, rfl, HO, HB⟩ := hrel
    have hx0 : 0 ≤ n / 256 ^ k := Int.ediv_nonneg HN.out (Int.pow_nonneg (by omega))
    have hx1 : n / 256 ^ k ≤ 18446744073709551615 := Int.le_trans (Int.ediv_le_self _ HN.out) h1
    have HL := Aside0.mk (leB_len n k)
    obtain ⟨y, hy⟩ : ∃ y, n / 256 ^ k = y := ⟨_, rfl⟩
    have HY := Aside0.mk hy
    rw [hy] at hx0 hx1
    clear hy
    rw [HY.out]
    by_cases c1 : (k : Int) < width
    · by_cases c2 : (k : Int) < 8
      · have HK := Aside0.mk (show k + 1 ≤ leW width by unfold leW; omega)
        clear hk
        go_wp2_with (first | ((with_reducible refine gate_builtin (b := .append) (xs := #[.tmp 16, .tmp 20]) rfl ?_); at_builtin; refine Kd.R_append (Kd.int .u8) (w0 := w) w.heap.size rfl (.tmp 16) (.tmp 20) 22 5 (.int .u8 0) 1 rfl Try.underlying22 infoU8 rfl (by decide) (by omega) u5 (leB n k) (y % 256) [.int .u8 (y % 256)] (fun _ => True) (fun _ => False) rfl rfl ?aP (fun _ hk => hk.elim) ?aF ?aO ?aB ?aS ?aL ?_; (case aP => exact rfl); (case aB => exact (by (repeat (first | (with_reducible first | exact HB.out | apply below_alloc | apply pw_below_drewN | apply below_drew1) | exact HB.out)))); (case aF => exact (fun _ _ => trivial)); (case aO => exact (by ((with_reducible repeat (first | apply Kd.R_alloc | apply Kd.R_drewN | apply Kd.R_drew)); exact HO.out))); (case aS => exact (below_size (by (repeat (first | (with_reducible first | exact HB.out | apply below_alloc | apply pw_below_drewN | apply below_drew1) | exact HB.out))))); (case aL => (rw [HL.out]; omega)); intro v6 w6 ho hb hg hat; have n0_ := Aside0.mk (hb); have n1_ := Aside0.mk (ho); clear HB; clear HO; have HB := n0_; have HO6 := n1_; clear n0_ n1_; clear ho hb hg hat))
        go_roundw
        case rel => exact ⟨k + 1, HK.out, by go_num, by rw [← div_step n k y HY.out], ⟨by rw [leB, HY.out]; exact HO6.out⟩, ⟨HB.out⟩⟩
        case measure => simp [intOf]; omega
      · have e := Aside0.mk (show k = leW width by unfold leW at *; omega)
        clear hk
        go_wp2
        go_ret
        exact ⟨_, rfl, by rw [← e.out]; exact HO.out, HB.out⟩
    · have e := Aside0.mk (show k = leW width by unfold leW at *; omega)
      clear hk
      go_wp2
      go_ret
      exact ⟨_, rfl, by rw [← e.out]; exact HO.out, HB.out⟩
set_option maxHeartbeats 8000000 in
set_option maxRecDepth 100000 in
theorem Same_calls (v0 v1 : Value) (l0 l1 : List Int) (w : World) (hr0 : Rd w .u8 v0 l0) (hr1 : Rd w .u8 v1 l1) (h0 : isB l0) (h1 : isB l1) :
    Calls Try.prog 19 #[v0, v1] w fun e w' => e = .returned (.bool (decide (l0 = l1))) ∧ Below w.heap.size w w' := by
  obtain ⟨A0, c0, rfl, hc0, hr0⟩ := hr0
  obtain ⟨A1, c1, rfl, hc1, hr1⟩ := hr1
  have hcv0 := string_of_reads (P := Try.prog) (c := c0) Try.underlying22 Try.underlying5 Try.underlying9 hr0
  have hcv1 := string_of_reads (P := Try.prog) (c := c1) Try.underlying22 Try.underlying5 Try.underlying9 hr1
  have hs := same_iff h0 h1
  have HR0 := Aside0.mk hr0
  have HR1 := Aside0.mk hr1
  clear hr0 hr1 h0 h1
  go_enter Try.func19, Try.ntmps19
  go_wp2
  go_ret
  exact ⟨rfl, Below.refl _ _⟩
set_option maxHeartbeats 8000000 in
set_option maxRecDepth 100000 in
theorem le_Align_calls (k : Int) (w : World) (h1 : k ≤ 4611686018427387904) :
    Calls Try.prog 107 #[.int .i64 k] w fun e w' => e = .returned (.int .i64 (alignZ k)) ∧ Below w.heap.size w w' := by
  have h7 := and7
  by_cases c : k ≤ 0
  · go_enter Try.func107, Try.ntmps107
    go_wp2
    go_ret
    exact ⟨by rw [alignZ, if_pos c]; rfl, Below.refl _ _⟩
  · have HE := Aside0.mk (show alignZ k = k + (-(k % 8)) % 8 by rw [alignZ, if_neg c]; omega)
    go_enter Try.func107, Try.ntmps107
    go_wp2
    go_ret
    exact ⟨by rw [HE.out]; rfl, Below.refl _ _⟩
end Go.Proofs.Ytigdchfjcfljjaa
