/- Objects as bytes: the program's Encode. -/
import Derived.Test.YtigdchfjcfljjaaObj
namespace Go.Proofs.Ytigdchfjcfljjaa
open Go.RowKit Go.Proofs.YtigdchfjcfljjaaW.PrintWords Go.Proofs.YtigdchfjcfljjaaW.PrintLast Go.Proofs.YtigdchfjcfljjaaW.PrintMore
attribute [local go_sem] max2_int min2_int max_two min_two max_three min_three max_four min_four   -- for this text's walks alone
set_option linter.unusedVariables false
set_option linter.unusedSimpArgs false

/-- An object's bytes. -/
def objB (k : Int) (ws raw it : List Int) : List Int := words8 [k, 16 + 8 * (ws.length : Int) + (raw.length : Int) + 8 * (it.length : Int)] ++ words8 ws ++ raw ++ words8 it
def objZ (k : Int) (ws raw it : List Int) : List Int := objB k ws raw it ++ List.replicate (padN (objB k ws raw it).length 8) 0
theorem objB_len (k : Int) (ws raw it : List Int) : (objB k ws raw it).length = 16 + 8 * ws.length + raw.length + 8 * it.length := by
  simp only [objB, List.length_append, words8_len, List.length_cons, List.length_nil]
theorem objB_isB (k : Int) {ws raw it : List Int} (h : isB raw) : isB (objB k ws raw it) := (((words8_isB' _).app (words8_isB' _)).app h).app (words8_isB' _)
theorem ozeros_isB (n : Nat) : isB (List.replicate n 0) := fun x hx => by have := List.eq_of_mem_replicate hx; omega
theorem objZ_isB (k : Int) {ws raw it : List Int} (h : isB raw) : isB (objZ k ws raw it) := (objB_isB k h).app (ozeros_isB _)
theorem oR_of {k : Int} {nW nR nI : Nat} (h : oR k nW nR nI = true) : 1 ≤ k ∧ k ≤ 4 ∧ (nW : Int) = wN k ∧ nW ≤ 5 ∧ nR ≤ 1024 ∧ nI ≤ 1024 := by
  have h := of_decide_eq_true h
  rcases h with ⟨rfl, rfl, h⟩ | ⟨rfl, rfl, h⟩ | ⟨rfl, rfl, h⟩ | ⟨rfl, rfl, h⟩ <;> exact ⟨by omega, by omega, rfl, by omega, by omega, by omega⟩

set_option maxHeartbeats 8000000 in
set_option maxRecDepth 100000 in
theorem obj_Encode_yes (k : Int) (ws raw it : List Int) (A1 A2 A3 : Option Addr) (c1 c2 c3 : Nat) (w : World) (h1 : Rd w .u64 (.slice A1 ws.length c1) ws) (h2 : Rd w .u8 (.slice A2 raw.length c2) raw) (h3 : Rd w .u64 (.slice A3 it.length c3) it)
    (b1 : isW ws) (b2 : isB raw) (b3 : isW it) (hr : oR k ws.length raw.length it.length = true) :
    Calls Try.prog 31 #[.agg #[.int .i64 k, .slice A1 ws.length c1, .slice A2 raw.length c2, .slice A3 it.length c3]] w fun e w' => ∃ v, e = .returned v ∧ Own (Value.int .u8) w' w.heap.size 5 v (objZ k ws raw it) ∧ Below w.heap.size w w' := by
  obtain ⟨k0, k1, kw, n1, n2, n3⟩ := oR_of hr
  have HR := Aside0.mk hr
  have H1 := Aside0.mk h1
  have H2 := Aside0.mk h2
  have H3 := Aside0.mk h3
  have W1 := Aside0.mk b1
  have W3 := Aside0.mk b3
  have O1 := Aside0.mk (fun (A : Addr) n c (e : Value.slice A1 ws.length c1 = .slice (some A) n c) (hp : 0 < ws.length) => rd_old h1 e hp)
  have O3 := Aside0.mk (fun (A : Addr) n c (e : Value.slice A3 it.length c3 = .slice (some A) n c) (hp : 0 < it.length) => rd_old h3 e hp)
  have HBX := Aside0.mk (blk_new w (.cells #[.int .i64 k, .slice A1 ws.length c1, .slice A2 raw.length c2, .slice A3 it.length c3] 51))
  obtain ⟨q0, q1⟩ := wN_bd k
  obtain ⟨q, hq⟩ : ∃ q, wN k = q := ⟨_, rfl⟩
  rw [hq] at q0 q1 kw
  have HQ := Aside0.mk hq
  have HKW := Aside0.mk kw
  have m1 : ws.length ≤ 9223372036854775807 := by omega
  clear hr h1 h2 h3 b1 b2 b3 hq kw
  go_enter Try.func31, Try.ntmps31
  go_wp2_with fail
  refine (obj_Right_calls k A1 A2 A3 ws.length raw.length it.length c1 c2 c3 _ (by omega) (by omega) (by omega)).mono ?_
  rintro e w1 ⟨rfl, hb⟩
  have HB1 := Aside0.mk (below_step (below_alloc (Below.refl _ _) (.cells #[.int .i64 k, .slice A1 ws.length c1, .slice A2 raw.length c2, .slice A3 it.length c3] 51)) hb)
  have HX1 := Aside0.mk (blk_below HBX.out hb)
  clear hb
  rw [HR.out]
  have HB2 := Aside0.mk (below_alloc HB1.out (.cells #[.slice none 0 0] 159))
  have HX2 := Aside0.mk (blk_alloc HX1.out (.cells #[.slice none 0 0] 159))
  have HV2 := Aside0.mk (show WrV (w1.alloc (.cells #[.slice none 0 0] 159)) w1.heap.size w.heap.size (.slice none 0 0) [] from ⟨blk_new _ _, Own.nil _ _ _ _⟩)
  have hs1 : wrap64 (16 + 8 * q + (raw.length : Int)) = 16 + 8 * q + (raw.length : Int) := by unfold wrap64; omega
  have hs2 : wrap64 (8 * (it.length : Int)) = 8 * (it.length : Int) := by unfold wrap64; omega
  have hs3 : wrap64 (16 + 8 * q + (raw.length : Int) + 8 * (it.length : Int)) = 16 + 8 * q + (raw.length : Int) + 8 * (it.length : Int) := by unfold wrap64; omega
  have hs4 : IntKind.u64.wrap k = k := IntWalk.u64_in _ (by omega)
  have hs5 : IntKind.u64.wrap (16 + 8 * q + (raw.length : Int) + 8 * (it.length : Int)) = 16 + 8 * q + (raw.length : Int) + 8 * (it.length : Int) := IntWalk.u64_in _ (by omega)
  obtain ⟨z, hz⟩ : ∃ z, 16 + 8 * q + (raw.length : Int) + 8 * (it.length : Int) = z := ⟨_, rfl⟩
  have HU := Aside0.mk (show IntKind.u64.wrap (wrap64 (16 + 8 * q + (raw.length : Int) + 8 * (it.length : Int))) = z by rw [hs3, hs5, hz])
  have hz0 : 0 ≤ z := by omega
  have hz1 : z ≤ 100000 := by omega
  have HZ := Aside0.mk (show z = 16 + 8 * (ws.length : Int) + (raw.length : Int) + 8 * (it.length : Int) by have := HKW.out; omega)
  have HW2 := Aside0.mk (show isW [k, z] by intro x hx; simp only [List.mem_cons, List.not_mem_nil, or_false] at hx; rcases hx with rfl | rfl <;> omega)
  have HL1 := Aside0.mk (show Rd ((w1.alloc (.cells #[.slice none 0 0] 159)).alloc (.cells #[.int .u64 k, .int .u64 z] 32)).drew .u64 (.slice (some ⟨w1.heap.size + 1, 0, none⟩) 2 2) [k, z] by
    have := (Rd.lit (w1.alloc (.cells #[.slice none 0 0] 159)) .u64 32 [k, z] (by simp)).below (below_drew (Below.refl _ _)); simpa [nums] using this)
  have HB3 := Aside0.mk (below_drew (below_alloc HB2.out (.cells #[.int .u64 k, .int .u64 z] 32)))
  have HV3 := Aside0.mk ((HV2.out.below (below_alloc (Below.refl _ _) (.cells #[.int .u64 k, .int .u64 z] 32))).below (below_drew (Below.refl _ _)))
  have HX3 := Aside0.mk (blk_drew (blk_alloc HX2.out (.cells #[.int .u64 k, .int .u64 z] 32)))
  clear hz hs3 hs5
  go_wp2_with fail
  have z0 : (w1.alloc (.cells #[.slice none 0 0] 159)).cell? ⟨w.heap.size, 0, none⟩ = some (.int .i64 k) := blk_cell HX2.out 0
  have z1 : (w1.alloc (.cells #[.slice none 0 0] 159)).cell? ⟨w.heap.size, 1, none⟩ = some (.slice A1 ws.length c1) := blk_cell HX2.out 1
  have z2 : (w1.alloc (.cells #[.slice none 0 0] 159)).cell? ⟨w.heap.size, 2, none⟩ = some (.slice A2 raw.length c2) := blk_cell HX2.out 2
  have z3 : (w1.alloc (.cells #[.slice none 0 0] 159)).cell? ⟨w.heap.size, 3, none⟩ = some (.slice A3 it.length c3) := blk_cell HX2.out 3
  refine start_ (n := 18) (S := fun w' => w'.cell? ⟨w.heap.size, 0, none⟩ = some (.int .i64 k) ∧ w'.cell? ⟨w.heap.size, 1, none⟩ = some (.slice A1 ws.length c1) ∧ w'.cell? ⟨w.heap.size, 2, none⟩ = some (.slice A2 raw.length c2) ∧ w'.cell? ⟨w.heap.size, 3, none⟩ = some (.slice A3 it.length c3)) (ds := [17]) #[false, false, false, false, false, false, false, false, false, false, false, false, false, false, false, false, false, false] (by kernel_rfl) rfl rfl ⟨z0, z1, z2, z3⟩ (fun hHeld => ?_)
  refine pure_ (i := 0) (N := some 7) (v := ?_) (a' := ?_) #[true, false, false, false, false, false, false, false, false, false, false, false, false, false, false, false, false, false] rfl rfl (by kernel_rfl) (fun _ _ _ h => h) (Or.inl ⟨by rfl, ?_⟩) ?_ ?_
  rotate_left
  · intro w'
    go_simp
    with_reducible rfl
  rotate_left
  · simp only [Act.put, List.setIfInBounds_toArray, List.set_cons_zero, List.set_cons_succ, i64_w, i32_w]
    rfl
  refine pure_ (i := 3) (N := some 10) (v := ?_) (a' := ?_) #[true, false, false, true, false, false, false, false, false, false, false, false, false, false, false, false, false, false] rfl rfl (by kernel_rfl) (fun _ _ _ h => h) (Or.inl ⟨by rfl, ?_⟩) ?_ ?_
  rotate_left
  · intro w'
    go_simp
    with_reducible rfl
  rotate_left
  · simp only [Act.put, List.setIfInBounds_toArray, List.set_cons_zero, List.set_cons_succ, i64_w, i32_w]
    rfl
  refine pure_ (i := 6) (N := some 13) (v := ?_) (a' := ?_) #[true, false, false, true, false, false, true, false, false, false, false, false, false, false, false, false, false, false] rfl rfl (by kernel_rfl) (fun _ _ _ h => h) (Or.inl ⟨by rfl, ?_⟩) ?_ ?_
  rotate_left
  · intro w'
    go_simp
    with_reducible rfl
  rotate_left
  · simp only [Act.put, List.setIfInBounds_toArray, List.set_cons_zero, List.set_cons_succ, i64_w, i32_w]
    rfl
  refine pure_ (i := 10) (N := some 17) (v := ?_) (a' := ?_) #[true, false, false, true, false, false, true, false, false, false, true, false, false, false, false, false, false, false] rfl rfl (by kernel_rfl) (fun _ _ _ h => h) (Or.inl ⟨by rfl, ?_⟩) ?_ ?_
  rotate_left
  · intro w'
    go_simp
    with_reducible rfl
  rotate_left
  · simp only [Act.put, List.setIfInBounds_toArray, List.set_cons_zero, List.set_cons_succ, i64_w, i32_w]
    rfl
  refine take_ (i := 1) (N := some 8) (v := ?_) (a' := ?_) #[true, true, false, true, false, false, true, false, false, false, true, false, false, false, false, false, false, false] rfl rfl (by kernel_rfl) (fun _ _ _ h => h) (Or.inl ⟨by rfl, ?_⟩) hHeld ?_ ?_
  rotate_left
  · rintro w' ⟨s0, s1, s2, s3⟩
    go_simp
    with_reducible rfl
  rotate_left
  · simp only [Act.put, List.setIfInBounds_toArray, List.set_cons_zero, List.set_cons_succ, i64_w, i32_w]
    rfl
  refine pure_ (i := 2) (N := some 9) (v := ?_) (a' := ?_) #[true, true, true, true, false, false, true, false, false, false, true, false, false, false, false, false, false, false] rfl rfl (by kernel_rfl) (fun _ _ _ h => h) (Or.inl ⟨by rfl, ?_⟩) ?_ ?_
  rotate_left
  · intro w'
    go_simp
    with_reducible rfl
  rotate_left
  · simp only [Act.put, List.setIfInBounds_toArray, List.set_cons_zero, List.set_cons_succ, i64_w, i32_w]
    rfl
  refine take_ (i := 4) (N := some 11) (v := ?_) (a' := ?_) #[true, true, true, true, true, false, true, false, false, false, true, false, false, false, false, false, false, false] rfl rfl (by kernel_rfl) (fun _ _ _ h => h) (Or.inl ⟨by rfl, ?_⟩) hHeld ?_ ?_
  rotate_left
  · rintro w' ⟨s0, s1, s2, s3⟩
    go_simp
    with_reducible rfl
  rotate_left
  · simp only [Act.put, List.setIfInBounds_toArray, List.set_cons_zero, List.set_cons_succ, i64_w, i32_w]
    rfl
  refine take_ (i := 7) (N := some 14) (v := ?_) (a' := ?_) #[true, true, true, true, true, false, true, true, false, false, true, false, false, false, false, false, false, false] rfl rfl (by kernel_rfl) (fun _ _ _ h => h) (Or.inl ⟨by rfl, ?_⟩) hHeld ?_ ?_
  rotate_left
  · rintro w' ⟨s0, s1, s2, s3⟩
    go_simp
    with_reducible rfl
  rotate_left
  · simp only [Act.put, List.setIfInBounds_toArray, List.set_cons_zero, List.set_cons_succ, i64_w, i32_w]
    rfl
  refine pure_ (i := 8) (N := some 15) (v := ?_) (a' := ?_) #[true, true, true, true, true, false, true, true, true, false, true, false, false, false, false, false, false, false] rfl rfl (by kernel_rfl) (fun _ _ _ h => h) (Or.inl ⟨by rfl, ?_⟩) ?_ ?_
  rotate_left
  · intro w'
    go_simp
    with_reducible rfl
  rotate_left
  · simp only [Act.put, List.setIfInBounds_toArray, List.set_cons_zero, List.set_cons_succ, i64_w, i32_w]
    rfl
  refine take_ (i := 11) (N := some 18) (v := ?_) (a' := ?_) #[true, true, true, true, true, false, true, true, true, false, true, true, false, false, false, false, false, false] rfl rfl (by kernel_rfl) (fun _ _ _ h => h) (Or.inl ⟨by rfl, ?_⟩) hHeld ?_ ?_
  rotate_left
  · rintro w' ⟨s0, s1, s2, s3⟩
    go_simp
    with_reducible rfl
  rotate_left
  · simp only [Act.put, List.setIfInBounds_toArray, List.set_cons_zero, List.set_cons_succ, i64_w, i32_w]
    rfl
  refine pure_ (i := 12) (N := some 19) (v := ?_) (a' := ?_) #[true, true, true, true, true, false, true, true, true, false, true, true, true, false, false, false, false, false] rfl rfl (by kernel_rfl) (fun _ _ _ h => h) (Or.inl ⟨by rfl, ?_⟩) ?_ ?_
  rotate_left
  · intro w'
    go_simp
    with_reducible rfl
  rotate_left
  · simp only [Act.put, List.setIfInBounds_toArray, List.set_cons_zero, List.set_cons_succ, i64_w, i32_w]
    rfl
  refine pure_ (i := 13) (N := some 20) (v := ?_) (a' := ?_) #[true, true, true, true, true, false, true, true, true, false, true, true, true, true, false, false, false, false] rfl rfl (by kernel_rfl) (fun _ _ _ h => h) (Or.inl ⟨by rfl, ?_⟩) ?_ ?_
  rotate_left
  · intro w'
    go_simp
    with_reducible rfl
  rotate_left
  · simp only [Act.put, List.setIfInBounds_toArray, List.set_cons_zero, List.set_cons_succ, i64_w, i32_w]
    rfl
  refine one_ (i := 5) (N := some 12) #[true, true, true, true, true, true, true, true, true, false, true, true, true, true, false, false, false, false] rfl rfl (by kernel_rfl) (by decide) (fun K hK => ?_)
  refine goes_ Try.func100 (by kernel_rfl) rfl #[.int .i64 k] (by rfl) rfl rfl (by (try simp only [List.map_toArray, List.map_cons, List.map_nil]); first | done | rfl) ?_
  with_reducible refine (obj_Front_calls k _).mono ?_
  rintro e wf ⟨rfl, rfl⟩
  refine ⟨_, rfl, ?_⟩
  rw [HQ.out]
  refine hK.out _ _ ⟨hHeld.1, hHeld.2.1, hHeld.2.2.1, hHeld.2.2.2⟩ (fun hHeld => ?_)
  clear hK K
  refine norm_ (a' := ?_) ?_ ?_
  rotate_left
  · show Act.put _ (some 12) _ = _
    simp only [Act.put, List.setIfInBounds_toArray, List.set_cons_zero, List.set_cons_succ, i64_w, i32_w]
    rfl
  refine pure_ (i := 9) (N := some 16) (v := ?_) (a' := ?_) #[true, true, true, true, true, true, true, true, true, true, true, true, true, true, false, false, false, false] rfl rfl (by kernel_rfl) (fun _ _ _ h => h) (Or.inl ⟨by rfl, ?_⟩) ?_ ?_
  rotate_left
  · intro w'
    go_simp
    with_reducible rfl
  rotate_left
  · simp only [Act.put, List.setIfInBounds_toArray, List.set_cons_zero, List.set_cons_succ, i64_w, i32_w]
    rfl
  refine pure_ (i := 14) (N := some 21) (v := ?_) (a' := ?_) #[true, true, true, true, true, true, true, true, true, true, true, true, true, true, true, false, false, false] rfl rfl (by kernel_rfl) (fun _ _ _ h => h) (Or.inl ⟨by rfl, ?_⟩) ?_ ?_
  rotate_left
  · intro w'
    go_simp
    with_reducible rfl
  rotate_left
  · simp only [Act.put, List.setIfInBounds_toArray, List.set_cons_zero, List.set_cons_succ, i64_w, i32_w]
    rfl
  refine pure_ (i := 15) (N := some 22) (v := ?_) (a' := ?_) #[true, true, true, true, true, true, true, true, true, true, true, true, true, true, true, true, false, false] rfl rfl (by kernel_rfl) (fun _ _ _ h => h) (Or.inl ⟨by rfl, ?_⟩) ?_ ?_
  rotate_left
  · intro w'
    go_simp
    with_reducible rfl
  rotate_left
  · simp only [Act.put, List.setIfInBounds_toArray, List.set_cons_zero, List.set_cons_succ, i64_w, i32_w]
    rfl
  refine one_ (i := 16) (N := some 23) #[true, true, true, true, true, true, true, true, true, true, true, true, true, true, true, true, true, false] rfl rfl (by kernel_rfl) (by decide) (fun K hK => ?_)
  refine value_ (w1 := ?_) (v := ?_) (by rfl) rfl ?_ ?_
  rotate_left 2
  · go_simp
    constructor
    · rfl
    · rfl
  refine hK.out _ _ ⟨(pw_cell_below (below_alloc (Below.refl _ _) _) hHeld.1), (pw_cell_below (below_alloc (Below.refl _ _) _) hHeld.2.1), (pw_cell_below (below_alloc (Below.refl _ _) _) hHeld.2.2.1), (pw_cell_below (below_alloc (Below.refl _ _) _) hHeld.2.2.2)⟩ (fun hHeld => ?_)
  clear hK K
  refine norm_ (a' := ?_) ?_ ?_
  rotate_left
  · show Act.put _ (some 23) _ = _
    simp only [Act.put, List.setIfInBounds_toArray, List.set_cons_zero, List.set_cons_succ, i64_w, i32_w]
    rfl
  refine last_ (i := 17) (N := some 24) #[true, true, true, true, true, true, true, true, true, true, true, true, true, true, true, true, true, true] rfl rfl (by kernel_rfl) (by decide) (fun K hK => ?_)
  rw [HU.out]
  refine goes_ Try.func93 (by kernel_rfl) rfl #[.pointer (some ⟨w1.heap.size, 0, none⟩), .slice (some ⟨w1.heap.size + 1, 0, none⟩) 2 2] (by rfl) rfl rfl (by (try simp only [List.map_toArray, List.map_cons, List.map_nil]); first | done | rfl) ?_
  with_reducible refine (Writer_Words_calls (.slice (some ⟨w1.heap.size + 1, 0, none⟩) 2 2) [k, z] HW2.out _ w1.heap.size w.heap.size (.slice none 0 0) [] HV3.out HL1.out (fun A n c e _ => by simp only [Value.slice.injEq, Option.some.injEq] at e; obtain ⟨rfl, _, _⟩ := e; exact ⟨by simp, by simp [Value.ownBlock]⟩) HB3.out.size (by simp)).mono ?_
  rintro e w4 ⟨rfl, hs4⟩
  refine ⟨_, rfl, ?_⟩
  refine hK.out _ _ ?_
  clear hK K
  refine norm_ (a' := ?_) ?_ ?_
  rotate_left
  · show Act.put _ (some 24) _ = _
    simp only [Act.put, List.setIfInBounds_toArray, List.set_cons_zero, List.set_cons_succ, i64_w, i32_w]
    rfl
  refine done_ (by kernel_rfl) ?_
  obtain ⟨v4, hv4, hb4⟩ := WrS.next HV3.out HB3.out HB1.out.size hs4
  have HX4 := Aside0.mk (hs4.keep HV3.out HX3.out (by decide) (by have := blk_lt HX1.out; omega))
  have HV4 := Aside0.mk (show WrV w4 w1.heap.size w.heap.size v4 (words8 [k, z]) from hv4)
  have HB4 := Aside0.mk hb4
  clear hs4 hv4 hb4 z0 z1 z2 z3 hs1 hs2

  have z0 := blk_cell HX4.out 0
  have z1 := blk_cell HX4.out 1
  have z2 := blk_cell HX4.out 2
  have z3 := blk_cell HX4.out 3
  go_wp2_with fail
  refine (Writer_Words_calls (.slice A1 ws.length c1) ws W1.out _ w1.heap.size w.heap.size v4 _ HV4.out (H1.out.below HB4.out) (fun A n c e hp => ?_) HB4.out.size (by simp only [List.length_append, words8_len, List.length_cons, List.length_nil]; omega)).mono ?_
  · have hlt := O1.out A n c e hp
    refine ⟨by have := HB1.out.size; omega, fun hh => ?_⟩
    have := HV4.out.2.ge hh
    omega
  rintro e w5 ⟨rfl, hs⟩
  obtain ⟨v5, hv, hb⟩ := WrS.next HV4.out HB4.out HB1.out.size hs
  have HX5 := Aside0.mk (hs.keep HV4.out HX4.out (by decide) (by have := blk_lt HX1.out; omega))
  have HV5 := Aside0.mk hv
  have HB5 := Aside0.mk hb
  clear hs hv hb z0 z1 z2 z3
  have z0 := blk_cell HX5.out 0
  have z1 := blk_cell HX5.out 1
  have z2 := blk_cell HX5.out 2
  have z3 := blk_cell HX5.out 3
  go_wp2_with fail
  refine (Writer_Raw_calls (.slice A2 raw.length c2) raw _ w1.heap.size w.heap.size v5 _ HV5.out (H2.out.below HB5.out) HB5.out.size (by simp only [List.length_append, words8_len, List.length_cons, List.length_nil]; omega)).mono ?_
  rintro e w6 ⟨rfl, hs⟩
  obtain ⟨v6, hv, hb⟩ := WrS.next HV5.out HB5.out HB1.out.size hs
  have HX6 := Aside0.mk (hs.keep HV5.out HX5.out (by decide) (by have := blk_lt HX1.out; omega))
  have HV6 := Aside0.mk hv
  have HB6 := Aside0.mk hb
  clear hs hv hb z0 z1 z2 z3
  have z0 := blk_cell HX6.out 0
  have z1 := blk_cell HX6.out 1
  have z2 := blk_cell HX6.out 2
  have z3 := blk_cell HX6.out 3
  go_wp2_with fail
  refine (Writer_Words_calls (.slice A3 it.length c3) it W3.out _ w1.heap.size w.heap.size v6 _ HV6.out (H3.out.below HB6.out) (fun A n c e hp => ?_) HB6.out.size (by simp only [List.length_append, words8_len, List.length_cons, List.length_nil]; omega)).mono ?_
  · have hlt := O3.out A n c e hp
    refine ⟨by have := HB1.out.size; omega, fun hh => ?_⟩
    have := HV6.out.2.ge hh
    omega
  rintro e w7 ⟨rfl, hs⟩
  obtain ⟨v7, hv, hb⟩ := WrS.next HV6.out HB6.out HB1.out.size hs
  have HX7 := Aside0.mk (hs.keep HV6.out HX6.out (by decide) (by have := blk_lt HX1.out; omega))
  have HV7 := Aside0.mk hv
  have HB7 := Aside0.mk hb
  clear hs hv hb z0 z1 z2 z3

  have HL := Aside0.mk (show words8 [k, z] ++ words8 ws ++ raw ++ words8 it = objB k ws raw it by rw [objB, HZ.out])
  have HV8 := Aside0.mk (show WrV w7 w1.heap.size w.heap.size v7 (objB k ws raw it) by rw [← HL.out]; exact HV7.out)
  go_wp2_with fail
  refine (Writer_Pad_calls 8 _ w1.heap.size w.heap.size v7 _ HV8.out HB7.out.size (by have := padN_le ((objB k ws raw it).length : Int) 8; rw [objB_len] at *; omega)).mono ?_
  rintro e w8 ⟨rfl, hs⟩
  obtain ⟨v8, hv, hb⟩ := WrS.next HV8.out HB7.out HB1.out.size hs
  have HV9 := Aside0.mk (show WrV w8 w1.heap.size w.heap.size v8 (objZ k ws raw it) from hv)
  have HB8 := Aside0.mk hb
  clear hs hv hb
  go_wp2_with fail
  refine (Writer_Done_calls _ w1.heap.size w.heap.size v8 _ HV9.out (by have := padN_le ((objB k ws raw it).length : Int) 8; rw [objZ, List.length_append, List.length_replicate]; rw [objB_len] at *; omega)).mono ?_
  rintro e w9 ⟨v9, rfl, ho, hb⟩
  have HO9 := Aside0.mk (ho.weaken HB8.out.size)
  have HB9 := Aside0.mk (below_step HB8.out hb)
  clear ho hb
  go_wp2_with fail
  go_ret
  exact ⟨_, rfl, HO9.out, HB9.out⟩
set_option maxHeartbeats 8000000 in
set_option maxRecDepth 100000 in
theorem obj_Encode_no (k : Int) (nW nR nI : Nat) (A1 A2 A3 : Option Addr) (c1 c2 c3 : Nat) (w : World) (bW : nW ≤ 140737488355328) (bR : nR ≤ 140737488355328) (bI : nI ≤ 140737488355328) (hr : oR k nW nR nI = false) :
    Calls Try.prog 31 #[.agg #[.int .i64 k, .slice A1 nW c1, .slice A2 nR c2, .slice A3 nI c3]] w fun e w' => e = .returned (.slice none 0 0) ∧ Below w.heap.size w w' := by
  have HR := Aside0.mk hr
  clear hr
  go_enter Try.func31, Try.ntmps31
  go_wp2_with fail
  refine (obj_Right_calls k A1 A2 A3 nW nR nI c1 c2 c3 _ bW bR bI).mono ?_
  rintro e w1 ⟨rfl, hb⟩
  have HB1 := Aside0.mk (below_step (below_alloc (Below.refl _ _) (.cells #[.int .i64 k, .slice A1 nW c1, .slice A2 nR c2, .slice A3 nI c3] 51)) hb)
  clear hb
  rw [HR.out]
  go_wp2_with fail
  go_ret
  exact ⟨rfl, HB1.out⟩
end Go.Proofs.Ytigdchfjcfljjaa
