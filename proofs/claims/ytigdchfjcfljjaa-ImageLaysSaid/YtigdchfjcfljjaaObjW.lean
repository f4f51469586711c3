/- ObjWrites: the walk. -/
import Derived.Test.YtigdchfjcfljjaaObjF
namespace Go.Proofs.Ytigdchfjcfljjaa
open Go.RowKit Go.Proofs.YtigdchfjcfljjaaW.PrintWords Go.Proofs.YtigdchfjcfljjaaW.PrintLast Go.Proofs.YtigdchfjcfljjaaW.PrintMore
attribute [local go_sem] max2_int min2_int max_two min_two max_three min_three max_four min_four   -- for this text's walks alone
set_option linter.unusedVariables false
set_option linter.unusedSimpArgs false


set_option maxHeartbeats 8000000 in
set_option maxRecDepth 100000 in
theorem obj_to_calls (k : Int) (A1 A2 A3 : Option Addr) (nW nR nI c1 c2 c3 : Nat) (w : World) : Calls Try.prog 32 #[.agg #[.int .i64 k, .slice A1 nW c1, .slice A2 nR c2, .slice A3 nI c3]] w fun e w' => e = .returned (.agg #[.int .i64 k, .slice A1 nW c1, .slice A2 nR c2, .slice A3 nI c3]) ∧ Below w.heap.size w w' := by
  go_enter Try.func32, Try.ntmps32
  go_wp2
  exact bodyPost_ret (v := .agg #[.int .i64 k, .slice A1 nW c1, .slice A2 nR c2, .slice A3 nI c3]) (by simp [results, Try.results32, go_sem]) rfl ⟨rfl, below_alloc (below_alloc (Below.refl _ _) _) _⟩

theorem oB_nil : isB [] := fun x hx => by simp at hx
def lightB (nW nR nI : Nat) : Bool := decide (nW ≤ 20) && decide (nR ≤ 1100) && decide (nI ≤ 1100)
set_option maxHeartbeats 8000000 in
set_option maxRecDepth 100000 in
theorem light_calls (k : Int) (A1 A2 A3 : Option Addr) (nW nR nI c1 c2 c3 : Nat) (w : World) : Calls Try.prog 28 #[.agg #[.int .i64 k, .slice A1 nW c1, .slice A2 nR c2, .slice A3 nI c3]] w fun e w' => e = .returned (.bool (lightB nW nR nI)) ∧ Below w.heap.size w w' := by
  by_cases a : nW ≤ 20
  · by_cases b : nR ≤ 1100
    · by_cases c : nI ≤ 1100
      · have HE := Aside0.mk (show lightB nW nR nI = true by simp [lightB, a, b, c])
        go_enter Try.func28, Try.ntmps28
        go_wp2_with fail
        go_ret
        exact ⟨by rw [HE.out]; first | rfl | exact ret_yes (by omega), below_alloc (Below.refl _ _) _⟩
      · have HE := Aside0.mk (show lightB nW nR nI = false by simp [lightB]; omega)
        go_enter Try.func28, Try.ntmps28
        go_wp2_with fail
        go_ret
        exact ⟨by rw [HE.out]; first | rfl | exact ret_no (by omega), below_alloc (Below.refl _ _) _⟩
    · have HE := Aside0.mk (show lightB nW nR nI = false by simp [lightB]; omega)
      go_enter Try.func28, Try.ntmps28
      go_wp2_with fail
      go_ret
      exact ⟨by rw [HE.out]; first | rfl | exact ret_no (by omega), below_alloc (Below.refl _ _) _⟩
  · have HE := Aside0.mk (show lightB nW nR nI = false by simp [lightB]; omega)
    go_enter Try.func28, Try.ntmps28
    go_wp2_with fail
    go_ret
    exact ⟨by rw [HE.out]; first | rfl | exact ret_no (by omega), below_alloc (Below.refl _ _) _⟩
set_option maxHeartbeats 8000000 in
set_option maxRecDepth 100000 in
theorem obj_Size_calls (k : Int) (A1 A2 A3 : Option Addr) (nW nR nI c1 c2 c3 : Nat) (w : World) (n2 : nR ≤ 100000) (n3 : nI ≤ 100000) : Calls Try.prog 118 #[.agg #[.int .i64 k, .slice A1 nW c1, .slice A2 nR c2, .slice A3 nI c3]] w fun e w' => e = .returned (.int .i64 (alignZ (16 + 8 * wN k + (nR : Int) + 8 * (nI : Int)))) ∧ Below w.heap.size w w' := by
  have H0 := blk_new w (.cells #[.int .i64 k, .slice A1 nW c1, .slice A2 nR c2, .slice A3 nI c3] 51)
  have z0 : (w.alloc (.cells #[.int .i64 k, .slice A1 nW c1, .slice A2 nR c2, .slice A3 nI c3] 51)).cell? ⟨w.heap.size, 0, none⟩ = some (.int .i64 k) := blk_cell H0 0
  have z1 : (w.alloc (.cells #[.int .i64 k, .slice A1 nW c1, .slice A2 nR c2, .slice A3 nI c3] 51)).cell? ⟨w.heap.size, 1, none⟩ = some (.slice A1 nW c1) := blk_cell H0 1
  have z2 : (w.alloc (.cells #[.int .i64 k, .slice A1 nW c1, .slice A2 nR c2, .slice A3 nI c3] 51)).cell? ⟨w.heap.size, 2, none⟩ = some (.slice A2 nR c2) := blk_cell H0 2
  have z3 : (w.alloc (.cells #[.int .i64 k, .slice A1 nW c1, .slice A2 nR c2, .slice A3 nI c3] 51)).cell? ⟨w.heap.size, 3, none⟩ = some (.slice A3 nI c3) := blk_cell H0 3
  obtain ⟨q0, q1⟩ := wN_bd k
  obtain ⟨q, hq⟩ : ∃ q, wN k = q := ⟨_, rfl⟩
  rw [hq] at q0 q1
  have HQ := Aside0.mk hq
  have HW := Aside0.mk (show wrap64 (wrap64 (16 + 8 * q + (nR : Int)) + wrap64 (8 * (nI : Int))) = 16 + 8 * q + (nR : Int) + 8 * (nI : Int) by unfold wrap64; omega)
  have HW2 := Aside0.mk (show wrap64 (16 + 8 * q + (nR : Int) + wrap64 (8 * (nI : Int))) = 16 + 8 * q + (nR : Int) + 8 * (nI : Int) by unfold wrap64; omega)
  have HW3 := Aside0.mk (show wrap64 (16 + 8 * q + (nR : Int) + 8 * (nI : Int)) = 16 + 8 * q + (nR : Int) + 8 * (nI : Int) by unfold wrap64; omega)
  have hs1 : wrap64 (16 + 8 * q + (nR : Int)) = 16 + 8 * q + (nR : Int) := by unfold wrap64; omega
  have hs2 : wrap64 (8 * (nI : Int)) = 8 * (nI : Int) := by unfold wrap64; omega
  clear H0 hq
  go_enter Try.func118, Try.ntmps118
  go_wp2_with fail
  refine start_ (n := 14) (S := fun w' => w'.cell? ⟨w.heap.size, 0, none⟩ = some (.int .i64 k) ∧ w'.cell? ⟨w.heap.size, 1, none⟩ = some (.slice A1 nW c1) ∧ w'.cell? ⟨w.heap.size, 2, none⟩ = some (.slice A2 nR c2) ∧ w'.cell? ⟨w.heap.size, 3, none⟩ = some (.slice A3 nI c3)) (ds := []) #[false, false, false, false, false, false, false, false, false, false, false, false, false, false] (by kernel_rfl) rfl rfl ⟨z0, z1, z2, z3⟩ (fun hHeld => ?_)
  refine pure_ (i := 0) (N := some 3) (v := ?_) (a' := ?_) #[true, false, false, false, false, false, false, false, false, false, false, false, false, false] rfl rfl (by kernel_rfl) (fun _ _ _ h => h) (Or.inl ⟨by rfl, ?_⟩) ?_ ?_
  rotate_left
  · intro w'
    go_simp
    with_reducible rfl
  rotate_left
  · simp only [Act.put, List.setIfInBounds_toArray, List.set_cons_zero, List.set_cons_succ, i64_w, i32_w]
    rfl
  refine pure_ (i := 3) (N := some 6) (v := ?_) (a' := ?_) #[true, false, false, true, false, false, false, false, false, false, false, false, false, false] rfl rfl (by kernel_rfl) (fun _ _ _ h => h) (Or.inl ⟨by rfl, ?_⟩) ?_ ?_
  rotate_left
  · intro w'
    go_simp
    with_reducible rfl
  rotate_left
  · simp only [Act.put, List.setIfInBounds_toArray, List.set_cons_zero, List.set_cons_succ, i64_w, i32_w]
    rfl
  refine pure_ (i := 7) (N := some 10) (v := ?_) (a' := ?_) #[true, false, false, true, false, false, false, true, false, false, false, false, false, false] rfl rfl (by kernel_rfl) (fun _ _ _ h => h) (Or.inl ⟨by rfl, ?_⟩) ?_ ?_
  rotate_left
  · intro w'
    go_simp
    with_reducible rfl
  rotate_left
  · simp only [Act.put, List.setIfInBounds_toArray, List.set_cons_zero, List.set_cons_succ, i64_w, i32_w]
    rfl
  refine take_ (i := 1) (N := some 4) (v := ?_) (a' := ?_) #[true, true, false, true, false, false, false, true, false, false, false, false, false, false] rfl rfl (by kernel_rfl) (fun _ _ _ h => h) (Or.inl ⟨by rfl, ?_⟩) hHeld ?_ ?_
  rotate_left
  · rintro w' ⟨s0, s1, s2, s3⟩
    go_simp
    with_reducible rfl
  rotate_left
  · simp only [Act.put, List.setIfInBounds_toArray, List.set_cons_zero, List.set_cons_succ, i64_w, i32_w]
    rfl
  refine take_ (i := 4) (N := some 7) (v := ?_) (a' := ?_) #[true, true, false, true, true, false, false, true, false, false, false, false, false, false] rfl rfl (by kernel_rfl) (fun _ _ _ h => h) (Or.inl ⟨by rfl, ?_⟩) hHeld ?_ ?_
  rotate_left
  · rintro w' ⟨s0, s1, s2, s3⟩
    go_simp
    with_reducible rfl
  rotate_left
  · simp only [Act.put, List.setIfInBounds_toArray, List.set_cons_zero, List.set_cons_succ, i64_w, i32_w]
    rfl
  refine pure_ (i := 5) (N := some 8) (v := ?_) (a' := ?_) #[true, true, false, true, true, true, false, true, false, false, false, false, false, false] rfl rfl (by kernel_rfl) (fun _ _ _ h => h) (Or.inl ⟨by rfl, ?_⟩) ?_ ?_
  rotate_left
  · intro w'
    go_simp
    with_reducible rfl
  rotate_left
  · simp only [Act.put, List.setIfInBounds_toArray, List.set_cons_zero, List.set_cons_succ, i64_w, i32_w]
    rfl
  refine take_ (i := 8) (N := some 11) (v := ?_) (a' := ?_) #[true, true, false, true, true, true, false, true, true, false, false, false, false, false] rfl rfl (by kernel_rfl) (fun _ _ _ h => h) (Or.inl ⟨by rfl, ?_⟩) hHeld ?_ ?_
  rotate_left
  · rintro w' ⟨s0, s1, s2, s3⟩
    go_simp
    with_reducible rfl
  rotate_left
  · simp only [Act.put, List.setIfInBounds_toArray, List.set_cons_zero, List.set_cons_succ, i64_w, i32_w]
    rfl
  refine pure_ (i := 9) (N := some 12) (v := ?_) (a' := ?_) #[true, true, false, true, true, true, false, true, true, true, false, false, false, false] rfl rfl (by kernel_rfl) (fun _ _ _ h => h) (Or.inl ⟨by rfl, ?_⟩) ?_ ?_
  rotate_left
  · intro w'
    go_simp
    with_reducible rfl
  rotate_left
  · simp only [Act.put, List.setIfInBounds_toArray, List.set_cons_zero, List.set_cons_succ, i64_w, i32_w]
    rfl
  refine pure_ (i := 10) (N := some 13) (v := ?_) (a' := ?_) #[true, true, false, true, true, true, false, true, true, true, true, false, false, false] rfl rfl (by kernel_rfl) (fun _ _ _ h => h) (Or.inl ⟨by rfl, ?_⟩) ?_ ?_
  rotate_left
  · intro w'
    go_simp
    with_reducible rfl
  rotate_left
  · simp only [Act.put, List.setIfInBounds_toArray, List.set_cons_zero, List.set_cons_succ, i64_w, i32_w]
    rfl
  refine one_ (i := 2) (N := some 5) #[true, true, true, true, true, true, false, true, true, true, true, false, false, false] rfl rfl (by kernel_rfl) (by decide) (fun K hK => ?_)
  refine goes_ Try.func100 (by kernel_rfl) rfl #[.int .i64 k] (by rfl) rfl rfl (by (try simp only [List.map_toArray, List.map_cons, List.map_nil]); first | done | rfl) ?_
  with_reducible refine (obj_Front_calls k _).mono ?_
  rintro e wf ⟨rfl, rfl⟩
  refine ⟨_, rfl, ?_⟩
  rw [HQ.out]
  refine hK.out _ _ ⟨hHeld.1, hHeld.2.1, hHeld.2.2.1, hHeld.2.2.2⟩ (fun hHeld => ?_)
  clear hK K
  refine norm_ (a' := ?_) ?_ ?_
  rotate_left
  · show Act.put _ (some 5) _ = _
    simp only [Act.put, List.setIfInBounds_toArray, List.set_cons_zero, List.set_cons_succ, i64_w, i32_w]
    rfl
  refine pure_ (i := 6) (N := some 9) (v := ?_) (a' := ?_) #[true, true, true, true, true, true, true, true, true, true, true, false, false, false] rfl rfl (by kernel_rfl) (fun _ _ _ h => h) (Or.inl ⟨by rfl, ?_⟩) ?_ ?_
  rotate_left
  · intro w'
    go_simp
    with_reducible rfl
  rotate_left
  · simp only [Act.put, List.setIfInBounds_toArray, List.set_cons_zero, List.set_cons_succ, i64_w, i32_w]
    rfl
  refine pure_ (i := 11) (N := some 14) (v := ?_) (a' := ?_) #[true, true, true, true, true, true, true, true, true, true, true, true, false, false] rfl rfl (by kernel_rfl) (fun _ _ _ h => h) (Or.inl ⟨by rfl, ?_⟩) ?_ ?_
  rotate_left
  · intro w'
    go_simp
    with_reducible rfl
  rotate_left
  · simp only [Act.put, List.setIfInBounds_toArray, List.set_cons_zero, List.set_cons_succ, i64_w, i32_w]
    rfl
  refine one_ (i := 12) (N := some 15) #[true, true, true, true, true, true, true, true, true, true, true, true, true, false] rfl rfl (by kernel_rfl) (by decide) (fun K hK => ?_)
  first | rw [HW3.out] | rw [HW.out] | rw [HW2.out]
  refine goes_ Try.func107 (by kernel_rfl) rfl #[.int .i64 (16 + 8 * q + (nR : Int) + 8 * (nI : Int))] (by rfl) rfl rfl (by (try simp only [List.map_toArray, List.map_cons, List.map_nil]); first | done | rfl) ?_
  with_reducible refine (le_Align_calls (16 + 8 * q + (nR : Int) + 8 * (nI : Int)) _ (by omega)).mono ?_
  rintro e w2 ⟨rfl, hb2⟩
  refine ⟨_, rfl, ?_⟩
  refine hK.out _ _ ⟨(pw_cell_below hb2 hHeld.1), (pw_cell_below hb2 hHeld.2.1), (pw_cell_below hb2 hHeld.2.2.1), (pw_cell_below hb2 hHeld.2.2.2)⟩ (fun hHeld => ?_)
  clear hK K
  refine norm_ (a' := ?_) ?_ ?_
  rotate_left
  · show Act.put _ (some 15) _ = _
    simp only [Act.put, List.setIfInBounds_toArray, List.set_cons_zero, List.set_cons_succ, i64_w, i32_w]
    rfl
  refine pure_ (i := 13) (N := some 2) (v := ?_) (a' := ?_) #[true, true, true, true, true, true, true, true, true, true, true, true, true, true] rfl rfl (by kernel_rfl) (fun _ _ _ h => h) (Or.inl ⟨by rfl, ?_⟩) ?_ ?_
  rotate_left
  · intro w'
    go_simp
    with_reducible rfl
  rotate_left
  · simp only [Act.put, List.setIfInBounds_toArray, List.set_cons_zero, List.set_cons_succ, i64_w, i32_w]
    rfl
  refine done_ (by kernel_rfl) ?_
  have HB2 := Aside0.mk (below_step (below_drew (below_alloc (Below.refl _ _) _)) hb2)
  clear hb2
  go_wp2_with fail
  go_ret
  exact ⟨by rw [HQ.out]; rfl, HB2.out⟩
set_option maxHeartbeats 8000000 in
set_option maxRecDepth 100000 in
theorem obj_awake_calls (w : World) : Calls Try.prog 30 #[] w fun e w' => e = .returned (.bool true) ∧ Below w.heap.size w w' := by
  have HL1 := Aside0.mk (show Rd ((w.alloc (.cells #[.int .u64 0] 32)).alloc (.cells #[.int .u64 5, .int .u64 6] 32)) .u64 (.slice (some ⟨w.heap.size, 0, none⟩) 1 1) [0] from Rd.below (Rd.lit w .u64 32 [0] (by simp)) (below_alloc (Below.refl _ _) _))
  have HL2 := Aside0.mk (show Rd ((w.alloc (.cells #[.int .u64 0] 32)).alloc (.cells #[.int .u64 5, .int .u64 6] 32)) .u64 (.slice (some ⟨w.heap.size + 1, 0, none⟩) 2 2) [5, 6] by have := Rd.lit (w.alloc (.cells #[.int .u64 0] 32)) .u64 32 [5, 6] (by simp); simpa [nums] using this)
  have HZ := Aside0.mk (show objZ 4 [0] [] [5, 6] = [4, 0, 0, 0, 0, 0, 0, 0, 40, 0, 0, 0, 0, 0, 0, 0, 0, 0, 0, 0, 0, 0, 0, 0, 5, 0, 0, 0, 0, 0, 0, 0, 6, 0, 0, 0, 0, 0, 0, 0] by decide +kernel)
  go_enter Try.func30, Try.ntmps30
  go_wp2_with fail
  refine (obj_Encode_yes 4 [0] [] [5, 6] _ none _ 1 0 2 _ HL1.out (Rd.nil _ _) HL2.out (by intro x hx; simp at hx; omega) (fun x hx => by simp at hx) (by intro x hx; simp at hx; omega) (by decide)).mono ?_
  rintro e w1 ⟨v1, rfl, ho, hb⟩
  rw [HZ.out] at ho
  have HB1 := Aside0.mk (below_step (below_alloc (below_alloc (Below.refl _ _) _) _) hb)
  obtain ⟨g, cap, eu⟩ := Go.Joins.ownsRow_form ho (by simp)
  obtain ⟨A2, cc2, e2, hx1, hx2, hr2⟩ := (Own.rd ho).mid
  rw [eu] at e2
  simp only [Value.slice.injEq] at e2
  obtain ⟨rfl, hx3, rfl⟩ := e2
  clear hx1 hx2 hx3
  have q0 : w1.cell? ⟨g, 0, none⟩ = some (.int .u8 4) := by
    obtain ⟨ad, ea, hcell⟩ := rd_at hr2 0 (by simp)
    injection ea with ea
    subst ea
    rw [add_plain] at hcell
    exact hcell
  have q8 : w1.cell? ⟨g, 8, none⟩ = some (.int .u8 40) := by
    obtain ⟨ad, ea, hcell⟩ := rd_at hr2 8 (by simp)
    injection ea with ea
    subst ea
    rw [add_plain] at hcell
    exact hcell
  have q24 : w1.cell? ⟨g, 24, none⟩ = some (.int .u8 5) := by
    obtain ⟨ad, ea, hcell⟩ := rd_at hr2 24 (by simp)
    injection ea with ea
    subst ea
    rw [add_plain] at hcell
    exact hcell

  have e1' : v1 = .slice (some ⟨g, 0, none⟩) 40 cap := eu
  clear eu
  subst e1'
  clear ho hb hr2
  go_wp2_with fail
  go_ret
  exact ⟨rfl, HB1.out⟩
theorem obj_len {k : Int} {ws raw it : List Int} (hr : oR k ws.length raw.length it.length = true) : alignZ (16 + 8 * wN k + (raw.length : Int) + 8 * (it.length : Int)) = ((objZ k ws raw it).length : Int) := by
  obtain ⟨k0, k1, kw, n1, n2, n3⟩ := oR_of hr
  have hl := objB_len k ws raw it
  have hp : (padN ((objB k ws raw it).length : Int) 8 : Int) = (8 - ((objB k ws raw it).length : Int) % 8) % 8 := by unfold padN; rw [if_pos (by omega)]; omega
  rw [objZ, List.length_append, List.length_replicate, alignZ, if_neg (by omega)]
  omega
end Go.Proofs.Ytigdchfjcfljjaa
