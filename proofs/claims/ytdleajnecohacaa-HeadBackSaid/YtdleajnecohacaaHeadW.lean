/- HeadWrites: the walk. -/
import Derived.Test.YtdleajnecohacaaEnc2
import Derived.Test.YtdleajnecohacaaArr
namespace Go.Proofs.Ytdleajnecohacaa
open Go.RowKit Go.Proofs.YtdleajnecohacaaW.PrintWords Go.Proofs.YtdleajnecohacaaW.PrintLast Go.Proofs.YtdleajnecohacaaW.PrintMore
attribute [local go_sem] max2_int min2_int max_two min_two max_three min_three max_four min_four   -- for this text's walks alone
set_option linter.unusedVariables false
set_option linter.unusedSimpArgs false

theorem ret_int {k : IntKind} {a b : Int} (h : a = b) : Ending.returned (.int k a) = .returned (.int k b) := by rw [h]

set_option maxHeartbeats 8000000 in
set_option maxRecDepth 100000 in
theorem head_to_calls (id key data fields made : Int) (w : World) : Calls Try.prog 16 #[.agg #[.int .u64 id, .int .u64 key, .int .i64 data, .int .i64 fields, .int .u64 made]] w fun e w' => e = .returned (.agg #[.int .u64 id, .int .u64 key, .int .i64 data, .int .i64 fields, .int .u64 made]) ∧ Below w.heap.size w w' := by
  go_enter Try.func16, Try.ntmps16
  go_wp2
  exact bodyPost_ret (v := .agg #[.int .u64 id, .int .u64 key, .int .i64 data, .int .i64 fields, .int .u64 made]) (by simp [results, Try.results16, go_sem]) rfl ⟨rfl, below_alloc (below_alloc (Below.refl _ _) _) _⟩
set_option maxHeartbeats 8000000 in
set_option maxRecDepth 100000 in
theorem DataTable_calls (id key data fields made : Int) (w : World) : Calls Try.prog 22 #[.agg #[.int .u64 id, .int .u64 key, .int .i64 data, .int .i64 fields, .int .u64 made]] w fun e w' => e = .returned (.int .i64 256) ∧ Below w.heap.size w w' := by
  go_enter Try.func22, Try.ntmps22
  go_wp2
  go_ret
  exact ⟨rfl, by first | exact below_alloc (Below.refl _ _) _ | exact Below.refl _ _⟩
set_option maxHeartbeats 8000000 in
set_option maxRecDepth 100000 in
theorem FieldTable_calls (id key data fields made : Int) (w : World) (d0 : 1 ≤ data) (d1 : data ≤ 256) : Calls Try.prog 23 #[.agg #[.int .u64 id, .int .u64 key, .int .i64 data, .int .i64 fields, .int .u64 made]] w fun e w' => e = .returned (.int .i64 (256 + 8 * data)) ∧ Below w.heap.size w w' := by
  have H0 := blk_new w (.cells #[.int .u64 id, .int .u64 key, .int .i64 data, .int .i64 fields, .int .u64 made] 27)
  have c0 : (w.alloc (.cells #[.int .u64 id, .int .u64 key, .int .i64 data, .int .i64 fields, .int .u64 made] 27)).cell? ⟨w.heap.size, 0, none⟩ = some (.int .u64 id) := blk_cell H0 0
  have c1 : (w.alloc (.cells #[.int .u64 id, .int .u64 key, .int .i64 data, .int .i64 fields, .int .u64 made] 27)).cell? ⟨w.heap.size, 1, none⟩ = some (.int .u64 key) := blk_cell H0 1
  have c2 : (w.alloc (.cells #[.int .u64 id, .int .u64 key, .int .i64 data, .int .i64 fields, .int .u64 made] 27)).cell? ⟨w.heap.size, 2, none⟩ = some (.int .i64 data) := blk_cell H0 2
  have c3 : (w.alloc (.cells #[.int .u64 id, .int .u64 key, .int .i64 data, .int .i64 fields, .int .u64 made] 27)).cell? ⟨w.heap.size, 3, none⟩ = some (.int .i64 fields) := blk_cell H0 3
  have c4 : (w.alloc (.cells #[.int .u64 id, .int .u64 key, .int .i64 data, .int .i64 fields, .int .u64 made] 27)).cell? ⟨w.heap.size, 4, none⟩ = some (.int .u64 made) := blk_cell H0 4
  clear H0
  go_enter Try.func23, Try.ntmps23
  go_wp2_with fail
  refine start_ (n := 7) (S := fun w' => w'.cell? ⟨w.heap.size, 0, none⟩ = some (.int .u64 id) ∧ w'.cell? ⟨w.heap.size, 1, none⟩ = some (.int .u64 key) ∧ w'.cell? ⟨w.heap.size, 2, none⟩ = some (.int .i64 data) ∧ w'.cell? ⟨w.heap.size, 3, none⟩ = some (.int .i64 fields) ∧ w'.cell? ⟨w.heap.size, 4, none⟩ = some (.int .u64 made)) (ds := []) #[false, false, false, false, false, false, false] (by kernel_rfl) rfl rfl ⟨c0, c1, c2, c3, c4⟩ (fun hHeld => ?_)
  refine pure_ (i := 2) (N := some 5) (v := ?_) (a' := ?_) #[false, false, true, false, false, false, false] rfl rfl (by kernel_rfl) (fun _ _ _ h => h) (Or.inl ⟨by rfl, ?_⟩) ?_ ?_
  rotate_left
  · intro w'
    go_simp
    with_reducible rfl
  rotate_left
  · simp only [Act.put, List.setIfInBounds_toArray, List.set_cons_zero, List.set_cons_succ, i64_w, i32_w]
    rfl
  refine take_ (i := 0) (N := some 3) (v := ?_) (a' := ?_) #[true, false, true, false, false, false, false] rfl rfl (by kernel_rfl) (fun _ _ _ h => h) (Or.inl ⟨by rfl, ?_⟩) hHeld ?_ ?_
  rotate_left
  · rintro w' ⟨s0, s1, s2, s3, s4⟩
    go_simp
    with_reducible rfl
  rotate_left
  · simp only [Act.put, List.setIfInBounds_toArray, List.set_cons_zero, List.set_cons_succ, i64_w, i32_w]
    rfl
  refine take_ (i := 3) (N := some 6) (v := ?_) (a' := ?_) #[true, false, true, true, false, false, false] rfl rfl (by kernel_rfl) (fun _ _ _ h => h) (Or.inl ⟨by rfl, ?_⟩) hHeld ?_ ?_
  rotate_left
  · rintro w' ⟨s0, s1, s2, s3, s4⟩
    go_simp
    with_reducible rfl
  rotate_left
  · simp only [Act.put, List.setIfInBounds_toArray, List.set_cons_zero, List.set_cons_succ, i64_w, i32_w]
    rfl
  refine pure_ (i := 4) (N := some 7) (v := ?_) (a' := ?_) #[true, false, true, true, true, false, false] rfl rfl (by kernel_rfl) (fun _ _ _ h => h) (Or.inl ⟨by rfl, ?_⟩) ?_ ?_
  rotate_left
  · intro w'
    go_simp
    with_reducible rfl
  rotate_left
  · simp only [Act.put, List.setIfInBounds_toArray, List.set_cons_zero, List.set_cons_succ, i64_w, i32_w]
    rfl
  refine one_ (i := 1) (N := some 4) #[true, true, true, true, true, false, false] rfl rfl (by kernel_rfl) (by decide) (fun K hK => ?_)
  refine goes_ Try.func22 (by kernel_rfl) rfl #[.agg #[.int .u64 id, .int .u64 key, .int .i64 data, .int .i64 fields, .int .u64 made]] (by rfl) rfl rfl (by (try simp only [List.map_toArray, List.map_cons, List.map_nil]); first | done | rfl) ?_
  with_reducible refine (DataTable_calls id key data fields made _).mono ?_
  rintro e w1 ⟨rfl, hb1⟩
  refine ⟨_, rfl, ?_⟩
  refine hK.out _ _ ⟨(pw_cell_below hb1 hHeld.1), (pw_cell_below hb1 hHeld.2.1), (pw_cell_below hb1 hHeld.2.2.1), (pw_cell_below hb1 hHeld.2.2.2.1), (pw_cell_below hb1 hHeld.2.2.2.2)⟩ (fun hHeld => ?_)
  clear hK K
  refine norm_ (a' := ?_) ?_ ?_
  rotate_left
  · show Act.put _ (some 4) _ = _
    simp only [Act.put, List.setIfInBounds_toArray, List.set_cons_zero, List.set_cons_succ, i64_w, i32_w]
    rfl
  refine pure_ (i := 5) (N := some 8) (v := ?_) (a' := ?_) #[true, true, true, true, true, true, false] rfl rfl (by kernel_rfl) (fun _ _ _ h => h) (Or.inl ⟨by rfl, ?_⟩) ?_ ?_
  rotate_left
  · intro w'
    go_simp
    with_reducible rfl
  rotate_left
  · simp only [Act.put, List.setIfInBounds_toArray, List.set_cons_zero, List.set_cons_succ, i64_w, i32_w]
    rfl
  refine pure_ (i := 6) (N := some 2) (v := ?_) (a' := ?_) #[true, true, true, true, true, true, true] rfl rfl (by kernel_rfl) (fun _ _ _ h => h) (Or.inl ⟨by rfl, ?_⟩) ?_ ?_
  rotate_left
  · intro w'
    go_simp
    with_reducible rfl
  rotate_left
  · simp only [Act.put, List.setIfInBounds_toArray, List.set_cons_zero, List.set_cons_succ, i64_w, i32_w]
    rfl
  refine done_ (by kernel_rfl) ?_
  have HB1 := Aside0.mk (below_step (below_drew (below_alloc (Below.refl _ _) _)) hb1)
  clear hb1
  go_wp2
  go_ret
  exact ⟨ret_int (by simp only [wrap64]; omega), HB1.out⟩
set_option maxHeartbeats 8000000 in
set_option maxRecDepth 100000 in
theorem Objects_calls (id key data fields made : Int) (w : World) (d0 : 1 ≤ data) (d1 : data ≤ 256) (f0 : 1 ≤ fields) (f1 : fields ≤ 256) : Calls Try.prog 24 #[.agg #[.int .u64 id, .int .u64 key, .int .i64 data, .int .i64 fields, .int .u64 made]] w fun e w' => e = .returned (.int .i64 (256 + 8 * data + 8 * fields)) ∧ Below w.heap.size w w' := by
  have H0 := blk_new w (.cells #[.int .u64 id, .int .u64 key, .int .i64 data, .int .i64 fields, .int .u64 made] 27)
  have c0 : (w.alloc (.cells #[.int .u64 id, .int .u64 key, .int .i64 data, .int .i64 fields, .int .u64 made] 27)).cell? ⟨w.heap.size, 0, none⟩ = some (.int .u64 id) := blk_cell H0 0
  have c1 : (w.alloc (.cells #[.int .u64 id, .int .u64 key, .int .i64 data, .int .i64 fields, .int .u64 made] 27)).cell? ⟨w.heap.size, 1, none⟩ = some (.int .u64 key) := blk_cell H0 1
  have c2 : (w.alloc (.cells #[.int .u64 id, .int .u64 key, .int .i64 data, .int .i64 fields, .int .u64 made] 27)).cell? ⟨w.heap.size, 2, none⟩ = some (.int .i64 data) := blk_cell H0 2
  have c3 : (w.alloc (.cells #[.int .u64 id, .int .u64 key, .int .i64 data, .int .i64 fields, .int .u64 made] 27)).cell? ⟨w.heap.size, 3, none⟩ = some (.int .i64 fields) := blk_cell H0 3
  have c4 : (w.alloc (.cells #[.int .u64 id, .int .u64 key, .int .i64 data, .int .i64 fields, .int .u64 made] 27)).cell? ⟨w.heap.size, 4, none⟩ = some (.int .u64 made) := blk_cell H0 4
  clear H0
  go_enter Try.func24, Try.ntmps24
  go_wp2_with fail
  refine start_ (n := 7) (S := fun w' => w'.cell? ⟨w.heap.size, 0, none⟩ = some (.int .u64 id) ∧ w'.cell? ⟨w.heap.size, 1, none⟩ = some (.int .u64 key) ∧ w'.cell? ⟨w.heap.size, 2, none⟩ = some (.int .i64 data) ∧ w'.cell? ⟨w.heap.size, 3, none⟩ = some (.int .i64 fields) ∧ w'.cell? ⟨w.heap.size, 4, none⟩ = some (.int .u64 made)) (ds := []) #[false, false, false, false, false, false, false] (by kernel_rfl) rfl rfl ⟨c0, c1, c2, c3, c4⟩ (fun hHeld => ?_)
  refine pure_ (i := 2) (N := some 5) (v := ?_) (a' := ?_) #[false, false, true, false, false, false, false] rfl rfl (by kernel_rfl) (fun _ _ _ h => h) (Or.inl ⟨by rfl, ?_⟩) ?_ ?_
  rotate_left
  · intro w'
    go_simp
    with_reducible rfl
  rotate_left
  · simp only [Act.put, List.setIfInBounds_toArray, List.set_cons_zero, List.set_cons_succ, i64_w, i32_w]
    rfl
  refine take_ (i := 0) (N := some 3) (v := ?_) (a' := ?_) #[true, false, true, false, false, false, false] rfl rfl (by kernel_rfl) (fun _ _ _ h => h) (Or.inl ⟨by rfl, ?_⟩) hHeld ?_ ?_
  rotate_left
  · rintro w' ⟨s0, s1, s2, s3, s4⟩
    go_simp
    with_reducible rfl
  rotate_left
  · simp only [Act.put, List.setIfInBounds_toArray, List.set_cons_zero, List.set_cons_succ, i64_w, i32_w]
    rfl
  refine take_ (i := 3) (N := some 6) (v := ?_) (a' := ?_) #[true, false, true, true, false, false, false] rfl rfl (by kernel_rfl) (fun _ _ _ h => h) (Or.inl ⟨by rfl, ?_⟩) hHeld ?_ ?_
  rotate_left
  · rintro w' ⟨s0, s1, s2, s3, s4⟩
    go_simp
    with_reducible rfl
  rotate_left
  · simp only [Act.put, List.setIfInBounds_toArray, List.set_cons_zero, List.set_cons_succ, i64_w, i32_w]
    rfl
  refine pure_ (i := 4) (N := some 7) (v := ?_) (a' := ?_) #[true, false, true, true, true, false, false] rfl rfl (by kernel_rfl) (fun _ _ _ h => h) (Or.inl ⟨by rfl, ?_⟩) ?_ ?_
  rotate_left
  · intro w'
    go_simp
    with_reducible rfl
  rotate_left
  · simp only [Act.put, List.setIfInBounds_toArray, List.set_cons_zero, List.set_cons_succ, i64_w, i32_w]
    rfl
  refine one_ (i := 1) (N := some 4) #[true, true, true, true, true, false, false] rfl rfl (by kernel_rfl) (by decide) (fun K hK => ?_)
  refine goes_ Try.func23 (by kernel_rfl) rfl #[.agg #[.int .u64 id, .int .u64 key, .int .i64 data, .int .i64 fields, .int .u64 made]] (by rfl) rfl rfl (by (try simp only [List.map_toArray, List.map_cons, List.map_nil]); first | done | rfl) ?_
  with_reducible refine (FieldTable_calls id key data fields made _ d0 d1).mono ?_
  rintro e w1 ⟨rfl, hb1⟩
  refine ⟨_, rfl, ?_⟩
  refine hK.out _ _ ⟨(pw_cell_below hb1 hHeld.1), (pw_cell_below hb1 hHeld.2.1), (pw_cell_below hb1 hHeld.2.2.1), (pw_cell_below hb1 hHeld.2.2.2.1), (pw_cell_below hb1 hHeld.2.2.2.2)⟩ (fun hHeld => ?_)
  clear hK K
  refine norm_ (a' := ?_) ?_ ?_
  rotate_left
  · show Act.put _ (some 4) _ = _
    simp only [Act.put, List.setIfInBounds_toArray, List.set_cons_zero, List.set_cons_succ, i64_w, i32_w]
    rfl
  refine pure_ (i := 5) (N := some 8) (v := ?_) (a' := ?_) #[true, true, true, true, true, true, false] rfl rfl (by kernel_rfl) (fun _ _ _ h => h) (Or.inl ⟨by rfl, ?_⟩) ?_ ?_
  rotate_left
  · intro w'
    go_simp
    with_reducible rfl
  rotate_left
  · simp only [Act.put, List.setIfInBounds_toArray, List.set_cons_zero, List.set_cons_succ, i64_w, i32_w]
    rfl
  refine pure_ (i := 6) (N := some 2) (v := ?_) (a' := ?_) #[true, true, true, true, true, true, true] rfl rfl (by kernel_rfl) (fun _ _ _ h => h) (Or.inl ⟨by rfl, ?_⟩) ?_ ?_
  rotate_left
  · intro w'
    go_simp
    with_reducible rfl
  rotate_left
  · simp only [Act.put, List.setIfInBounds_toArray, List.set_cons_zero, List.set_cons_succ, i64_w, i32_w]
    rfl
  refine done_ (by kernel_rfl) ?_
  have HB1 := Aside0.mk (below_step (below_drew (below_alloc (Below.refl _ _) _)) hb1)
  clear hb1
  go_wp2
  go_ret
  exact ⟨ret_int (by simp only [wrap64]; omega), HB1.out⟩
set_option maxHeartbeats 8000000 in
set_option maxRecDepth 100000 in
theorem ref_Objects_calls (id key data fields made : Int) (w : World) (d0 : 1 ≤ data) (d1 : data ≤ 256) (f0 : 1 ≤ fields) (f1 : fields ≤ 256) : Calls Try.prog 25 #[.agg #[.int .u64 id, .int .u64 key, .int .i64 data, .int .i64 fields, .int .u64 made]] w fun e w' => e = .returned (.int .i64 (256 + 8 * data + 8 * fields)) ∧ Below w.heap.size w w' := by
  go_enter Try.func25, Try.ntmps25
  go_wp2
  go_ret
  exact ⟨congrArg (fun x => Ending.returned (.int .i64 x)) (by omega), below_alloc (Below.refl _ _) _⟩
theorem and1i (n : Int) : bits .and .i64 n 1 = n % 2 := by
  have h7 : (BitVec.ofInt 64 1).toNat = 2 ^ 1 - 1 := by decide
  have key : (BitVec.ofInt 64 n &&& BitVec.ofInt 64 1).toNat = (n % ((2 ^ 64 : Nat) : Int)).toNat % 2 ^ 1 := by
    rw [BitVec.toNat_and, BitVec.toNat_ofInt, h7, Nat.and_two_pow_sub_one_eq_mod]
  show IntKind.i64.wrap ((BitVec.ofInt 64 n &&& BitVec.ofInt 64 1).toNat : Nat) = n % 2
  rw [key, IntKind.wrap_i64]
  omega
set_option maxHeartbeats 8000000 in
set_option maxRecDepth 100000 in
theorem head_Slot_calls (n : Int) (w : World) : Calls Try.prog 26 #[.int .i64 n] w fun e w' => e = .returned (.int .i64 (64 * (1 + n % 2))) ∧ w = w' := by
  have ha := and1i n
  have h0 : 0 ≤ n % 2 := by omega
  have h1 : n % 2 ≤ 1 := by omega
  obtain ⟨m, hm⟩ : ∃ m, n % 2 = m := ⟨_, rfl⟩
  rw [hm] at ha h0 h1 ⊢
  clear hm
  go_enter Try.func26, Try.ntmps26
  go_wp2
  go_ret
  exact ⟨rfl, rfl⟩
set_option maxHeartbeats 8000000 in
set_option maxRecDepth 100000 in
theorem head_awake_calls (w : World) : Calls Try.prog 27 #[] w fun e w' => e = .returned (.bool true) ∧ Below w.heap.size w w' := by
  have H0 := Aside0.mk (blk_new w (.cells #[.int .u64 0, .int .u64 0, .int .i64 4, .int .i64 2, .int .u64 0] 27))
  go_enter Try.func27, Try.ntmps27
  go_wp2_with fail
  refine (FieldTable_calls 0 0 4 2 0 _ (by omega) (by omega)).mono ?_
  rintro e w1 ⟨rfl, hb⟩
  have HB1 := Aside0.mk (below_step (below_alloc (Below.refl _ _) (.cells #[.int .u64 0, .int .u64 0, .int .i64 4, .int .i64 2, .int .u64 0] 27)) hb)
  have H1 := Aside0.mk (blk_below H0.out hb)
  clear hb
  have a0 := blk_cell H1.out 0
  have a1 := blk_cell H1.out 1
  have a2 := blk_cell H1.out 2
  have a3 := blk_cell H1.out 3
  have a4 := blk_cell H1.out 4
  go_wp2_with fail
  refine (Objects_calls 0 0 4 2 0 _ (by omega) (by omega) (by omega) (by omega)).mono ?_
  rintro e w2 ⟨rfl, hb⟩
  have HB2 := Aside0.mk (below_step HB1.out hb)
  have H2 := Aside0.mk (blk_below H1.out hb)
  clear hb a0 a1 a2 a3 a4
  have a0 := blk_cell H2.out 0
  have a1 := blk_cell H2.out 1
  have a2 := blk_cell H2.out 2
  have a3 := blk_cell H2.out 3
  have a4 := blk_cell H2.out 4
  go_wp2_with fail
  refine (DataTable_calls 0 0 4 2 0 _).mono ?_
  rintro e w3 ⟨rfl, hb⟩
  have HB3 := Aside0.mk (below_step HB2.out hb)
  clear hb a0 a1 a2 a3 a4
  go_wp2
  go_ret
  exact ⟨rfl, HB3.out⟩

set_option maxHeartbeats 8000000 in
set_option maxRecDepth 100000 in
theorem HeadWrites_yes (id key data fields made n : Int) (w : World) (hr : hR data fields = true) (n0 : -9223372036854775808 ≤ n) (n1 : n ≤ 9223372036854775807) (id0 : 0 ≤ id) (id1 : id ≤ 18446744073709551615) (key0 : 0 ≤ key) (key1 : key ≤ 18446744073709551615) (made0 : 0 ≤ made) (made1 : made ≤ 18446744073709551615) :
    Calls Try.prog 3 #[.agg #[.int .u64 id, .int .u64 key, .int .i64 data, .int .i64 fields, .int .u64 made], .int .i64 n] w fun e w' => e = .returned (.bool true) ∧ Below w.heap.size w w' := by
  have HR := Aside0.mk hr
  have hd : 1 ≤ data ∧ data ≤ 256 ∧ 1 ≤ fields ∧ fields ≤ 256 := by simpa [hR, and_assoc] using hr
  obtain ⟨d0, d1, f0, f1⟩ := hd
  have HX0 := Aside0.mk (blk_new w (.cells #[.int .u64 id, .int .u64 key, .int .i64 data, .int .i64 fields, .int .u64 made] 24))
  have hn2 : (IntKind.u64.wrap n) % 2 = n % 2 := by rw [IntKind.wrap_u64]; omega
  have hn0 : 0 ≤ IntKind.u64.wrap n := by rw [IntKind.wrap_u64]; omega
  have hn3 : (IntKind.u64.wrap n).tmod 2 = n % 2 := by rw [Int.tmod_eq_emod_of_nonneg hn0, hn2]
  have hm0 : 0 ≤ n % 2 := by omega
  have hm1 : n % 2 ≤ 1 := by omega
  obtain ⟨m, hm⟩ : ∃ m, n % 2 = m := ⟨_, rfl⟩
  rw [hm] at hn2 hn3 hm0 hm1
  clear hn0
  have HMM := Aside0.mk hm
  clear hr hm
  go_enter Try.func3, Try.ntmps3
  go_wp2_with fail
  refine (crc_Make_calls _).mono ?_
  rintro e w1 ⟨rfl, hT, hb⟩
  have HB1 := Aside0.mk (below_step (below_alloc (Below.refl _ _) (.cells #[.int .u64 id, .int .u64 key, .int .i64 data, .int .i64 fields, .int .u64 made] 24)) hb)
  have HX1 := Aside0.mk (blk_below HX0.out hb)
  have HT1 := Aside0.mk (show CrcT w1 (w.heap.size + 1) by simpa using hT)
  have h0 := HX1.out
  have b0 : (w1).cell? ⟨w.heap.size, 0, none⟩ = some (.int .u64 id) := blk_cell h0 0
  have b1 : (w1).cell? ⟨w.heap.size, 1, none⟩ = some (.int .u64 key) := blk_cell h0 1
  have b2 : (w1).cell? ⟨w.heap.size, 2, none⟩ = some (.int .i64 data) := blk_cell h0 2
  have b3 : (w1).cell? ⟨w.heap.size, 3, none⟩ = some (.int .i64 fields) := blk_cell h0 3
  have b4 : (w1).cell? ⟨w.heap.size, 4, none⟩ = some (.int .u64 made) := blk_cell h0 4
  clear hb hT h0
  go_wp2_with fail
  refine (head_to_calls id key data fields made _).mono ?_
  rintro e w2 ⟨rfl, hb⟩
  have HB2 := Aside0.mk (below_alloc (below_step HB1.out hb) (.cells #[.int .u64 id, .int .u64 key, .int .i64 data, .int .i64 fields, .int .u64 made] 27))
  have HA2 := Aside0.mk (blk_new w2 (.cells #[.int .u64 id, .int .u64 key, .int .i64 data, .int .i64 fields, .int .u64 made] 27))
  have HX2 := Aside0.mk (blk_alloc (blk_below HX1.out hb) (.cells #[.int .u64 id, .int .u64 key, .int .i64 data, .int .i64 fields, .int .u64 made] 27))
  have HT2 := Aside0.mk ((HT1.out.below hb).below (below_alloc (Below.refl _ _) (.cells #[.int .u64 id, .int .u64 key, .int .i64 data, .int .i64 fields, .int .u64 made] 27)))
  clear hb b0 b1 b2 b3 b4
  go_wp2_with fail
  have a0 : (w2.alloc (.cells #[.int .u64 id, .int .u64 key, .int .i64 data, .int .i64 fields, .int .u64 made] 27)).cell? ⟨w2.heap.size, 0, none⟩ = some (.int .u64 id) := blk_cell HA2.out 0
  have a1 : (w2.alloc (.cells #[.int .u64 id, .int .u64 key, .int .i64 data, .int .i64 fields, .int .u64 made] 27)).cell? ⟨w2.heap.size, 1, none⟩ = some (.int .u64 key) := blk_cell HA2.out 1
  have a2 : (w2.alloc (.cells #[.int .u64 id, .int .u64 key, .int .i64 data, .int .i64 fields, .int .u64 made] 27)).cell? ⟨w2.heap.size, 2, none⟩ = some (.int .i64 data) := blk_cell HA2.out 2
  have a3 : (w2.alloc (.cells #[.int .u64 id, .int .u64 key, .int .i64 data, .int .i64 fields, .int .u64 made] 27)).cell? ⟨w2.heap.size, 3, none⟩ = some (.int .i64 fields) := blk_cell HA2.out 3
  have a4 : (w2.alloc (.cells #[.int .u64 id, .int .u64 key, .int .i64 data, .int .i64 fields, .int .u64 made] 27)).cell? ⟨w2.heap.size, 4, none⟩ = some (.int .u64 made) := blk_cell HA2.out 4
  have c0 : (w2.alloc (.cells #[.int .u64 id, .int .u64 key, .int .i64 data, .int .i64 fields, .int .u64 made] 27)).cell? ⟨w.heap.size, 0, none⟩ = some (.int .u64 id) := blk_cell HX2.out 0
  have c1 : (w2.alloc (.cells #[.int .u64 id, .int .u64 key, .int .i64 data, .int .i64 fields, .int .u64 made] 27)).cell? ⟨w.heap.size, 1, none⟩ = some (.int .u64 key) := blk_cell HX2.out 1
  have c2 : (w2.alloc (.cells #[.int .u64 id, .int .u64 key, .int .i64 data, .int .i64 fields, .int .u64 made] 27)).cell? ⟨w.heap.size, 2, none⟩ = some (.int .i64 data) := blk_cell HX2.out 2
  have c3 : (w2.alloc (.cells #[.int .u64 id, .int .u64 key, .int .i64 data, .int .i64 fields, .int .u64 made] 27)).cell? ⟨w.heap.size, 3, none⟩ = some (.int .i64 fields) := blk_cell HX2.out 3
  have c4 : (w2.alloc (.cells #[.int .u64 id, .int .u64 key, .int .i64 data, .int .i64 fields, .int .u64 made] 27)).cell? ⟨w.heap.size, 4, none⟩ = some (.int .u64 made) := blk_cell HX2.out 4
  refine start_ (n := 19) (S := fun w' => w'.cell? ⟨w2.heap.size, 0, none⟩ = some (.int .u64 id) ∧ w'.cell? ⟨w2.heap.size, 1, none⟩ = some (.int .u64 key) ∧ w'.cell? ⟨w2.heap.size, 2, none⟩ = some (.int .i64 data) ∧ w'.cell? ⟨w2.heap.size, 3, none⟩ = some (.int .i64 fields) ∧ w'.cell? ⟨w2.heap.size, 4, none⟩ = some (.int .u64 made) ∧ w'.cell? ⟨w.heap.size, 0, none⟩ = some (.int .u64 id) ∧ w'.cell? ⟨w.heap.size, 1, none⟩ = some (.int .u64 key) ∧ w'.cell? ⟨w.heap.size, 2, none⟩ = some (.int .i64 data) ∧ w'.cell? ⟨w.heap.size, 3, none⟩ = some (.int .i64 fields) ∧ w'.cell? ⟨w.heap.size, 4, none⟩ = some (.int .u64 made)) (ds := []) #[false, false, false, false, false, false, false, false, false, false, false, false, false, false, false, false, false, false, false] (by kernel_rfl) rfl rfl ⟨a0, a1, a2, a3, a4, c0, c1, c2, c3, c4⟩ (fun hHeld => ?_)
  refine pure_ (i := 1) (N := some 11) (v := ?_) (a' := ?_) #[false, true, false, false, false, false, false, false, false, false, false, false, false, false, false, false, false, false, false] rfl rfl (by kernel_rfl) (fun _ _ _ h => h) (Or.inl ⟨by rfl, ?_⟩) ?_ ?_
  rotate_left
  · intro w'
    go_simp
    with_reducible rfl
  rotate_left
  · simp only [Act.put, List.setIfInBounds_toArray, List.set_cons_zero, List.set_cons_succ, i64_w, i32_w]
    rfl
  refine take_ (i := 0) (N := some 10) (v := ?_) (a' := ?_) #[true, true, false, false, false, false, false, false, false, false, false, false, false, false, false, false, false, false, false] rfl rfl (by kernel_rfl) (fun _ _ _ h => h) (Or.inl ⟨by rfl, ?_⟩) hHeld ?_ ?_
  rotate_left
  · rintro w' ⟨s0, s1, s2, s3, s4, s5, s6, s7, s8, s9⟩
    go_simp
    with_reducible rfl
  rotate_left
  · simp only [Act.put, List.setIfInBounds_toArray, List.set_cons_zero, List.set_cons_succ, i64_w, i32_w]
    rfl
  refine take_ (i := 3) (N := some 13) (v := ?_) (a' := ?_) #[true, true, false, true, false, false, false, false, false, false, false, false, false, false, false, false, false, false, false] rfl rfl (by kernel_rfl) (fun _ _ _ h => h) (Or.inl ⟨by rfl, ?_⟩) hHeld ?_ ?_
  rotate_left
  · rintro w' ⟨s0, s1, s2, s3, s4, s5, s6, s7, s8, s9⟩
    go_simp
    with_reducible rfl
  rotate_left
  · simp only [Act.put, List.setIfInBounds_toArray, List.set_cons_zero, List.set_cons_succ, i64_w, i32_w]
    rfl
  refine one_ (i := 2) (N := some 12) #[true, true, true, true, false, false, false, false, false, false, false, false, false, false, false, false, false, false, false] rfl rfl (by kernel_rfl) (by decide) (fun K hK => ?_)
  refine goes_ Try.func18 (by kernel_rfl) rfl #[.agg #[.int .u64 id, .int .u64 key, .int .i64 data, .int .i64 fields, .int .u64 made], .pointer (some ⟨w.heap.size + 1, 0, none⟩)] (by rfl) rfl rfl (by (try simp only [List.map_toArray, List.map_cons, List.map_nil]); first | done | rfl) ?_
  with_reducible refine (head_Encode_yes id key data fields made _ (w.heap.size + 1) (HT2.out.below (below_drew (Below.refl _ _))) HR.out id0 id1 key0 key1 (by omega) d1 (by omega) f1 made0 made1).mono ?_
  rintro e w3 ⟨v3, rfl, ho3, hb3⟩
  refine ⟨_, rfl, ?_⟩
  refine hK.out _ _ ⟨(pw_cell_below hb3 hHeld.1), (pw_cell_below hb3 hHeld.2.1), (pw_cell_below hb3 hHeld.2.2.1), (pw_cell_below hb3 hHeld.2.2.2.1), (pw_cell_below hb3 hHeld.2.2.2.2.1), (pw_cell_below hb3 hHeld.2.2.2.2.2.1), (pw_cell_below hb3 hHeld.2.2.2.2.2.2.1), (pw_cell_below hb3 hHeld.2.2.2.2.2.2.2.1), (pw_cell_below hb3 hHeld.2.2.2.2.2.2.2.2.1), (pw_cell_below hb3 hHeld.2.2.2.2.2.2.2.2.2)⟩ (fun hHeld => ?_)
  clear hK K
  refine norm_ (a' := ?_) ?_ ?_
  rotate_left
  · show Act.put _ (some 12) _ = _
    simp only [Act.put, List.setIfInBounds_toArray, List.set_cons_zero, List.set_cons_succ, i64_w, i32_w]
    rfl
  refine one_ (i := 4) (N := some 14) #[true, true, true, true, true, false, false, false, false, false, false, false, false, false, false, false, false, false, false] rfl rfl (by kernel_rfl) (by decide) (fun K hK => ?_)
  refine goes_ Try.func19 (by kernel_rfl) rfl #[.agg #[.int .u64 id, .int .u64 key, .int .i64 data, .int .i64 fields, .int .u64 made]] (by rfl) rfl rfl (by (try simp only [List.map_toArray, List.map_cons, List.map_nil]); first | done | rfl) ?_
  with_reducible refine (ref_hEncode_yes id key data fields made _ HR.out id0 id1 key0 key1 (by omega) d1 (by omega) f1 made0 made1).mono ?_
  rintro e w4 ⟨v4, rfl, ho4, hb4⟩
  refine ⟨_, rfl, ?_⟩
  refine hK.out _ _ ⟨(pw_cell_below hb4 hHeld.1), (pw_cell_below hb4 hHeld.2.1), (pw_cell_below hb4 hHeld.2.2.1), (pw_cell_below hb4 hHeld.2.2.2.1), (pw_cell_below hb4 hHeld.2.2.2.2.1), (pw_cell_below hb4 hHeld.2.2.2.2.2.1), (pw_cell_below hb4 hHeld.2.2.2.2.2.2.1), (pw_cell_below hb4 hHeld.2.2.2.2.2.2.2.1), (pw_cell_below hb4 hHeld.2.2.2.2.2.2.2.2.1), (pw_cell_below hb4 hHeld.2.2.2.2.2.2.2.2.2)⟩ (fun hHeld => ?_)
  clear hK K
  refine norm_ (a' := ?_) ?_ ?_
  rotate_left
  · show Act.put _ (some 14) _ = _
    simp only [Act.put, List.setIfInBounds_toArray, List.set_cons_zero, List.set_cons_succ, i64_w, i32_w]
    rfl
  refine one_ (i := 5) (N := some 15) #[true, true, true, true, true, true, false, false, false, false, false, false, false, false, false, false, false, false, false] rfl rfl (by kernel_rfl) (by decide) (fun K hK => ?_)
  refine goes_ Try.func17 (by kernel_rfl) rfl #[v3, v4] (by rfl) rfl rfl (by (try simp only [List.map_toArray, List.map_cons, List.map_nil]); first | done | rfl) ?_
  with_reducible refine (Same_calls v3 v4 (encZ magicL [id, key, data, fields, made]) (encZ magicL [id, key, data, fields, made]) _ ((Own.rd ho3).below hb4) (Own.rd ho4) (encZ_isB magic_isB _) (encZ_isB magic_isB _)).mono ?_
  rintro e w5 ⟨rfl, hb5⟩
  refine ⟨_, rfl, ?_⟩
  rw [show decide ((encZ magicL [id, key, data, fields, made]) = (encZ magicL [id, key, data, fields, made])) = true from by simp]
  refine hK.out _ _ ⟨(pw_cell_below hb5 hHeld.1), (pw_cell_below hb5 hHeld.2.1), (pw_cell_below hb5 hHeld.2.2.1), (pw_cell_below hb5 hHeld.2.2.2.1), (pw_cell_below hb5 hHeld.2.2.2.2.1), (pw_cell_below hb5 hHeld.2.2.2.2.2.1), (pw_cell_below hb5 hHeld.2.2.2.2.2.2.1), (pw_cell_below hb5 hHeld.2.2.2.2.2.2.2.1), (pw_cell_below hb5 hHeld.2.2.2.2.2.2.2.2.1), (pw_cell_below hb5 hHeld.2.2.2.2.2.2.2.2.2)⟩ (fun hHeld => ?_)
  clear hK K
  refine norm_ (a' := ?_) ?_ ?_
  rotate_left
  · show Act.put _ (some 15) _ = _
    simp only [Act.put, List.setIfInBounds_toArray, List.set_cons_zero, List.set_cons_succ, i64_w, i32_w]
    rfl
  refine pure_ (i := 6) (N := some 16) (v := ?_) (a' := ?_) #[true, true, true, true, true, true, true, false, false, false, false, false, false, false, false, false, false, false, false] rfl rfl (by kernel_rfl) (fun _ _ _ h => h) (Or.inl ⟨by rfl, ?_⟩) ?_ ?_
  rotate_left
  · intro w'
    go_simp
    with_reducible rfl
  rotate_left
  · simp only [Act.put, List.setIfInBounds_toArray, List.set_cons_zero, List.set_cons_succ, i64_w, i32_w]
    rfl
  refine pure_ (i := 7) (N := some 17) (v := ?_) (a' := ?_) #[true, true, true, true, true, true, true, true, false, false, false, false, false, false, false, false, false, false, false] rfl rfl (by kernel_rfl) (fun _ _ _ h => h) (Or.inl ⟨by rfl, ?_⟩) ?_ ?_
  rotate_left
  · intro w'
    go_simp
    with_reducible rfl
  rotate_left
  · simp only [Act.put, List.setIfInBounds_toArray, List.set_cons_zero, List.set_cons_succ, i64_w, i32_w]
    rfl
  refine take_ (i := 8) (N := some 18) (v := ?_) (a' := ?_) #[true, true, true, true, true, true, true, true, true, false, false, false, false, false, false, false, false, false, false] rfl rfl (by kernel_rfl) (fun _ _ _ h => h) (Or.inl ⟨by rfl, ?_⟩) hHeld ?_ ?_
  rotate_left
  · rintro w' ⟨s0, s1, s2, s3, s4, s5, s6, s7, s8, s9⟩
    go_simp
    with_reducible rfl
  rotate_left
  · simp only [Act.put, List.setIfInBounds_toArray, List.set_cons_zero, List.set_cons_succ, i64_w, i32_w]
    rfl
  refine take_ (i := 10) (N := some 20) (v := ?_) (a' := ?_) #[true, true, true, true, true, true, true, true, true, false, true, false, false, false, false, false, false, false, false] rfl rfl (by kernel_rfl) (fun _ _ _ h => h) (Or.inl ⟨by rfl, ?_⟩) hHeld ?_ ?_
  rotate_left
  · rintro w' ⟨s0, s1, s2, s3, s4, s5, s6, s7, s8, s9⟩
    go_simp
    with_reducible rfl
  rotate_left
  · simp only [Act.put, List.setIfInBounds_toArray, List.set_cons_zero, List.set_cons_succ, i64_w, i32_w]
    rfl
  refine one_ (i := 9) (N := some 19) #[true, true, true, true, true, true, true, true, true, true, true, false, false, false, false, false, false, false, false] rfl rfl (by kernel_rfl) (by decide) (fun K hK => ?_)
  refine goes_ Try.func20 (by kernel_rfl) rfl #[.agg #[.int .u64 id, .int .u64 key, .int .i64 data, .int .i64 fields, .int .u64 made]] (by rfl) rfl rfl (by (try simp only [List.map_toArray, List.map_cons, List.map_nil]); first | done | rfl) ?_
  with_reducible refine (head_Right_calls id key data fields made _).mono ?_
  rintro e w6 ⟨rfl, hb6⟩
  refine ⟨_, rfl, ?_⟩
  rw [HR.out]
  refine hK.out _ _ ⟨(pw_cell_below hb6 hHeld.1), (pw_cell_below hb6 hHeld.2.1), (pw_cell_below hb6 hHeld.2.2.1), (pw_cell_below hb6 hHeld.2.2.2.1), (pw_cell_below hb6 hHeld.2.2.2.2.1), (pw_cell_below hb6 hHeld.2.2.2.2.2.1), (pw_cell_below hb6 hHeld.2.2.2.2.2.2.1), (pw_cell_below hb6 hHeld.2.2.2.2.2.2.2.1), (pw_cell_below hb6 hHeld.2.2.2.2.2.2.2.2.1), (pw_cell_below hb6 hHeld.2.2.2.2.2.2.2.2.2)⟩ (fun hHeld => ?_)
  clear hK K
  refine norm_ (a' := ?_) ?_ ?_
  rotate_left
  · show Act.put _ (some 19) _ = _
    simp only [Act.put, List.setIfInBounds_toArray, List.set_cons_zero, List.set_cons_succ, i64_w, i32_w]
    rfl
  refine one_ (i := 11) (N := some 21) #[true, true, true, true, true, true, true, true, true, true, true, true, false, false, false, false, false, false, false] rfl rfl (by kernel_rfl) (by decide) (fun K hK => ?_)
  refine goes_ Try.func21 (by kernel_rfl) rfl #[.agg #[.int .u64 id, .int .u64 key, .int .i64 data, .int .i64 fields, .int .u64 made]] (by rfl) rfl rfl (by (try simp only [List.map_toArray, List.map_cons, List.map_nil]); first | done | rfl) ?_
  with_reducible refine (ref_hRight_calls id key data fields made _).mono ?_
  rintro e w7 ⟨rfl, hb7⟩
  refine ⟨_, rfl, ?_⟩
  rw [HR.out]
  refine hK.out _ _ ⟨(pw_cell_below hb7 hHeld.1), (pw_cell_below hb7 hHeld.2.1), (pw_cell_below hb7 hHeld.2.2.1), (pw_cell_below hb7 hHeld.2.2.2.1), (pw_cell_below hb7 hHeld.2.2.2.2.1), (pw_cell_below hb7 hHeld.2.2.2.2.2.1), (pw_cell_below hb7 hHeld.2.2.2.2.2.2.1), (pw_cell_below hb7 hHeld.2.2.2.2.2.2.2.1), (pw_cell_below hb7 hHeld.2.2.2.2.2.2.2.2.1), (pw_cell_below hb7 hHeld.2.2.2.2.2.2.2.2.2)⟩ (fun hHeld => ?_)
  clear hK K
  refine norm_ (a' := ?_) ?_ ?_
  rotate_left
  · show Act.put _ (some 21) _ = _
    simp only [Act.put, List.setIfInBounds_toArray, List.set_cons_zero, List.set_cons_succ, i64_w, i32_w]
    rfl
  refine pure_ (i := 12) (N := some 22) (v := ?_) (a' := ?_) #[true, true, true, true, true, true, true, true, true, true, true, true, true, false, false, false, false, false, false] rfl rfl (by kernel_rfl) (fun _ _ _ h => h) (Or.inl ⟨by rfl, ?_⟩) ?_ ?_
  rotate_left
  · intro w'
    go_simp
    with_reducible rfl
  rotate_left
  · simp only [Act.put, List.setIfInBounds_toArray, List.set_cons_zero, List.set_cons_succ, i64_w, i32_w]
    rfl
  refine pure_ (i := 13) (N := some 23) (v := ?_) (a' := ?_) #[true, true, true, true, true, true, true, true, true, true, true, true, true, true, false, false, false, false, false] rfl rfl (by kernel_rfl) (fun _ _ _ h => h) (Or.inl ⟨by rfl, ?_⟩) ?_ ?_
  rotate_left
  · intro w'
    go_simp
    with_reducible rfl
  rotate_left
  · simp only [Act.put, List.setIfInBounds_toArray, List.set_cons_zero, List.set_cons_succ, i64_w, i32_w]
    rfl
  refine pure_ (i := 14) (N := some 24) (v := ?_) (a' := ?_) #[true, true, true, true, true, true, true, true, true, true, true, true, true, true, true, false, false, false, false] rfl rfl (by kernel_rfl) (fun _ _ _ h => h) (Or.inl ⟨by rfl, ?_⟩) ?_ ?_
  rotate_left
  · intro w'
    go_simp
    with_reducible rfl
  rotate_left
  · simp only [Act.put, List.setIfInBounds_toArray, List.set_cons_zero, List.set_cons_succ, i64_w, i32_w]
    rfl
  refine take_ (i := 15) (N := some 25) (v := ?_) (a' := ?_) #[true, true, true, true, true, true, true, true, true, true, true, true, true, true, true, true, false, false, false] rfl rfl (by kernel_rfl) (fun _ _ _ h => h) (Or.inl ⟨by rfl, ?_⟩) hHeld ?_ ?_
  rotate_left
  · rintro w' ⟨s0, s1, s2, s3, s4, s5, s6, s7, s8, s9⟩
    go_simp
    with_reducible rfl
  rotate_left
  · simp only [Act.put, List.setIfInBounds_toArray, List.set_cons_zero, List.set_cons_succ, i64_w, i32_w]
    rfl
  refine one_ (i := 16) (N := some 26) #[true, true, true, true, true, true, true, true, true, true, true, true, true, true, true, true, true, false, false] rfl rfl (by kernel_rfl) (by decide) (fun K hK => ?_)
  refine goes_ Try.func22 (by kernel_rfl) rfl #[.agg #[.int .u64 id, .int .u64 key, .int .i64 data, .int .i64 fields, .int .u64 made]] (by rfl) rfl rfl (by (try simp only [List.map_toArray, List.map_cons, List.map_nil]); first | done | rfl) ?_
  with_reducible refine (DataTable_calls id key data fields made _).mono ?_
  rintro e w8 ⟨rfl, hb8⟩
  refine ⟨_, rfl, ?_⟩
  refine hK.out _ _ ⟨(pw_cell_below hb8 hHeld.1), (pw_cell_below hb8 hHeld.2.1), (pw_cell_below hb8 hHeld.2.2.1), (pw_cell_below hb8 hHeld.2.2.2.1), (pw_cell_below hb8 hHeld.2.2.2.2.1), (pw_cell_below hb8 hHeld.2.2.2.2.2.1), (pw_cell_below hb8 hHeld.2.2.2.2.2.2.1), (pw_cell_below hb8 hHeld.2.2.2.2.2.2.2.1), (pw_cell_below hb8 hHeld.2.2.2.2.2.2.2.2.1), (pw_cell_below hb8 hHeld.2.2.2.2.2.2.2.2.2)⟩ (fun hHeld => ?_)
  clear hK K
  refine norm_ (a' := ?_) ?_ ?_
  rotate_left
  · show Act.put _ (some 26) _ = _
    simp only [Act.put, List.setIfInBounds_toArray, List.set_cons_zero, List.set_cons_succ, i64_w, i32_w]
    rfl
  refine pure_ (i := 17) (N := some 27) (v := ?_) (a' := ?_) #[true, true, true, true, true, true, true, true, true, true, true, true, true, true, true, true, true, true, false] rfl rfl (by kernel_rfl) (fun _ _ _ h => h) (Or.inl ⟨by rfl, ?_⟩) ?_ ?_
  rotate_left
  · intro w'
    go_simp
    with_reducible rfl
  rotate_left
  · simp only [Act.put, List.setIfInBounds_toArray, List.set_cons_zero, List.set_cons_succ, i64_w, i32_w]
    rfl
  refine pure_ (i := 18) (N := some 28) (v := ?_) (a' := ?_) #[true, true, true, true, true, true, true, true, true, true, true, true, true, true, true, true, true, true, true] rfl rfl (by kernel_rfl) (fun _ _ _ h => h) (Or.inl ⟨by rfl, ?_⟩) ?_ ?_
  rotate_left
  · intro w'
    go_simp
    with_reducible rfl
  rotate_left
  · simp only [Act.put, List.setIfInBounds_toArray, List.set_cons_zero, List.set_cons_succ, i64_w, i32_w]
    rfl
  refine done_ (by kernel_rfl) ?_
  have hbb := below_step (below_step (below_step (below_step (below_step (below_step (below_drew (Below.refl _ (w2.alloc (.cells #[.int .u64 id, .int .u64 key, .int .i64 data, .int .i64 fields, .int .u64 made] 27)))) hb3) hb4) hb5) hb6) hb7) hb8
  have HB8 := Aside0.mk (below_step HB2.out hbb)
  have HA8 := Aside0.mk (blk_below HA2.out hbb)
  have HX8 := Aside0.mk (blk_below HX2.out hbb)
  clear hbb hb3 hb4 hb5 hb6 hb7 hb8 a0 a1 a2 a3 a4 c0 c1 c2 c3 c4
  go_wp2_with fail
  have a0 : (w8).cell? ⟨w2.heap.size, 0, none⟩ = some (.int .u64 id) := blk_cell HA8.out 0
  have a1 : (w8).cell? ⟨w2.heap.size, 1, none⟩ = some (.int .u64 key) := blk_cell HA8.out 1
  have a2 : (w8).cell? ⟨w2.heap.size, 2, none⟩ = some (.int .i64 data) := blk_cell HA8.out 2
  have a3 : (w8).cell? ⟨w2.heap.size, 3, none⟩ = some (.int .i64 fields) := blk_cell HA8.out 3
  have a4 : (w8).cell? ⟨w2.heap.size, 4, none⟩ = some (.int .u64 made) := blk_cell HA8.out 4
  have c0 : (w8).cell? ⟨w.heap.size, 0, none⟩ = some (.int .u64 id) := blk_cell HX8.out 0
  have c1 : (w8).cell? ⟨w.heap.size, 1, none⟩ = some (.int .u64 key) := blk_cell HX8.out 1
  have c2 : (w8).cell? ⟨w.heap.size, 2, none⟩ = some (.int .i64 data) := blk_cell HX8.out 2
  have c3 : (w8).cell? ⟨w.heap.size, 3, none⟩ = some (.int .i64 fields) := blk_cell HX8.out 3
  have c4 : (w8).cell? ⟨w.heap.size, 4, none⟩ = some (.int .u64 made) := blk_cell HX8.out 4
  have ht1 : ((256 + 8 * data : Int) != 256 + 8 * data) = false := by simp
  have ht2 : ((256 + 8 * data + 8 * fields : Int) != 256 + 8 * data + 8 * fields) = false := by simp
  have hw1 : wrap64 (8 * data) = 8 * data := by unfold wrap64; omega
  have hw2 : wrap64 (256 + 8 * data) = 256 + 8 * data := by unfold wrap64; omega
  refine start_ (n := 18) (S := fun w' => w'.cell? ⟨w2.heap.size, 0, none⟩ = some (.int .u64 id) ∧ w'.cell? ⟨w2.heap.size, 1, none⟩ = some (.int .u64 key) ∧ w'.cell? ⟨w2.heap.size, 2, none⟩ = some (.int .i64 data) ∧ w'.cell? ⟨w2.heap.size, 3, none⟩ = some (.int .i64 fields) ∧ w'.cell? ⟨w2.heap.size, 4, none⟩ = some (.int .u64 made) ∧ w'.cell? ⟨w.heap.size, 0, none⟩ = some (.int .u64 id) ∧ w'.cell? ⟨w.heap.size, 1, none⟩ = some (.int .u64 key) ∧ w'.cell? ⟨w.heap.size, 2, none⟩ = some (.int .i64 data) ∧ w'.cell? ⟨w.heap.size, 3, none⟩ = some (.int .i64 fields) ∧ w'.cell? ⟨w.heap.size, 4, none⟩ = some (.int .u64 made)) (ds := []) #[false, false, false, false, false, false, false, false, false, false, false, false, false, false, false, false, false, false] (by kernel_rfl) rfl rfl ⟨a0, a1, a2, a3, a4, c0, c1, c2, c3, c4⟩ (fun hHeld => ?_)
  refine take_ (i := 0) (N := some 29) (v := ?_) (a' := ?_) #[true, false, false, false, false, false, false, false, false, false, false, false, false, false, false, false, false, false] rfl rfl (by kernel_rfl) (fun _ _ _ h => h) (Or.inl ⟨by rfl, ?_⟩) hHeld ?_ ?_
  rotate_left
  · rintro w' ⟨s0, s1, s2, s3, s4, s5, s6, s7, s8, s9⟩
    go_simp
    with_reducible rfl
  rotate_left
  · simp only [Act.put, List.setIfInBounds_toArray, List.set_cons_zero, List.set_cons_succ, i64_w, i32_w]
    rfl
  refine one_ (i := 1) (N := some 30) #[true, true, false, false, false, false, false, false, false, false, false, false, false, false, false, false, false, false] rfl rfl (by kernel_rfl) (by decide) (fun K hK => ?_)
  refine goes_ Try.func21 (by kernel_rfl) rfl #[.agg #[.int .u64 id, .int .u64 key, .int .i64 data, .int .i64 fields, .int .u64 made]] (by rfl) rfl rfl (by (try simp only [List.map_toArray, List.map_cons, List.map_nil]); first | done | rfl) ?_
  with_reducible refine (ref_hRight_calls id key data fields made _).mono ?_
  rintro e w9 ⟨rfl, hb9⟩
  refine ⟨_, rfl, ?_⟩
  rw [HR.out]
  refine hK.out _ _ ⟨(pw_cell_below hb9 hHeld.1), (pw_cell_below hb9 hHeld.2.1), (pw_cell_below hb9 hHeld.2.2.1), (pw_cell_below hb9 hHeld.2.2.2.1), (pw_cell_below hb9 hHeld.2.2.2.2.1), (pw_cell_below hb9 hHeld.2.2.2.2.2.1), (pw_cell_below hb9 hHeld.2.2.2.2.2.2.1), (pw_cell_below hb9 hHeld.2.2.2.2.2.2.2.1), (pw_cell_below hb9 hHeld.2.2.2.2.2.2.2.2.1), (pw_cell_below hb9 hHeld.2.2.2.2.2.2.2.2.2)⟩ (fun hHeld => ?_)
  clear hK K
  refine norm_ (a' := ?_) ?_ ?_
  rotate_left
  · show Act.put _ (some 30) _ = _
    simp only [Act.put, List.setIfInBounds_toArray, List.set_cons_zero, List.set_cons_succ, i64_w, i32_w]
    rfl
  refine pure_ (i := 2) (N := some 31) (v := ?_) (a' := ?_) #[true, true, true, false, false, false, false, false, false, false, false, false, false, false, false, false, false, false] rfl rfl (by kernel_rfl) (fun _ _ _ h => h) (Or.inl ⟨by rfl, ?_⟩) ?_ ?_
  rotate_left
  · intro w'
    go_simp
    with_reducible rfl
  rotate_left
  · simp only [Act.put, List.setIfInBounds_toArray, List.set_cons_zero, List.set_cons_succ, i64_w, i32_w]
    rfl
  refine pure_ (i := 5) (N := some 34) (v := ?_) (a' := ?_) #[true, true, true, false, false, true, false, false, false, false, false, false, false, false, false, false, false, false] rfl rfl (by kernel_rfl) (fun _ _ _ h => h) (Or.inl ⟨by rfl, ?_⟩) ?_ ?_
  rotate_left
  · intro w'
    go_simp
    with_reducible rfl
  rotate_left
  · simp only [Act.put, List.setIfInBounds_toArray, List.set_cons_zero, List.set_cons_succ, i64_w, i32_w]
    rfl
  refine take_ (i := 3) (N := some 32) (v := ?_) (a' := ?_) #[true, true, true, true, false, true, false, false, false, false, false, false, false, false, false, false, false, false] rfl rfl (by kernel_rfl) (fun _ _ _ h => h) (Or.inl ⟨by rfl, ?_⟩) hHeld ?_ ?_
  rotate_left
  · rintro w' ⟨s0, s1, s2, s3, s4, s5, s6, s7, s8, s9⟩
    go_simp
    with_reducible rfl
  rotate_left
  · simp only [Act.put, List.setIfInBounds_toArray, List.set_cons_zero, List.set_cons_succ, i64_w, i32_w]
    rfl
  refine take_ (i := 6) (N := some 35) (v := ?_) (a' := ?_) #[true, true, true, true, false, true, true, false, false, false, false, false, false, false, false, false, false, false] rfl rfl (by kernel_rfl) (fun _ _ _ h => h) (Or.inl ⟨by rfl, ?_⟩) hHeld ?_ ?_
  rotate_left
  · rintro w' ⟨s0, s1, s2, s3, s4, s5, s6, s7, s8, s9⟩
    go_simp
    with_reducible rfl
  rotate_left
  · simp only [Act.put, List.setIfInBounds_toArray, List.set_cons_zero, List.set_cons_succ, i64_w, i32_w]
    rfl
  refine pure_ (i := 7) (N := some 36) (v := ?_) (a' := ?_) #[true, true, true, true, false, true, true, true, false, false, false, false, false, false, false, false, false, false] rfl rfl (by kernel_rfl) (fun _ _ _ h => h) (Or.inl ⟨by rfl, ?_⟩) ?_ ?_
  rotate_left
  · intro w'
    go_simp
    with_reducible rfl
  rotate_left
  · simp only [Act.put, List.setIfInBounds_toArray, List.set_cons_zero, List.set_cons_succ, i64_w, i32_w]
    rfl
  refine pure_ (i := 8) (N := some 37) (v := ?_) (a' := ?_) #[true, true, true, true, false, true, true, true, true, false, false, false, false, false, false, false, false, false] rfl rfl (by kernel_rfl) (fun _ _ _ h => h) (Or.inl ⟨by rfl, ?_⟩) ?_ ?_
  rotate_left
  · intro w'
    go_simp
    with_reducible rfl
  rotate_left
  · simp only [Act.put, List.setIfInBounds_toArray, List.set_cons_zero, List.set_cons_succ, i64_w, i32_w]
    rfl
  refine one_ (i := 4) (N := some 33) #[true, true, true, true, true, true, true, true, true, false, false, false, false, false, false, false, false, false] rfl rfl (by kernel_rfl) (by decide) (fun K hK => ?_)
  refine goes_ Try.func23 (by kernel_rfl) rfl #[.agg #[.int .u64 id, .int .u64 key, .int .i64 data, .int .i64 fields, .int .u64 made]] (by rfl) rfl rfl (by (try simp only [List.map_toArray, List.map_cons, List.map_nil]); first | done | rfl) ?_
  with_reducible refine (FieldTable_calls id key data fields made _ d0 d1).mono ?_
  rintro e w10 ⟨rfl, hb10⟩
  refine ⟨_, rfl, ?_⟩
  refine hK.out _ _ ⟨(pw_cell_below hb10 hHeld.1), (pw_cell_below hb10 hHeld.2.1), (pw_cell_below hb10 hHeld.2.2.1), (pw_cell_below hb10 hHeld.2.2.2.1), (pw_cell_below hb10 hHeld.2.2.2.2.1), (pw_cell_below hb10 hHeld.2.2.2.2.2.1), (pw_cell_below hb10 hHeld.2.2.2.2.2.2.1), (pw_cell_below hb10 hHeld.2.2.2.2.2.2.2.1), (pw_cell_below hb10 hHeld.2.2.2.2.2.2.2.2.1), (pw_cell_below hb10 hHeld.2.2.2.2.2.2.2.2.2)⟩ (fun hHeld => ?_)
  clear hK K
  refine norm_ (a' := ?_) ?_ ?_
  rotate_left
  · show Act.put _ (some 33) _ = _
    simp only [Act.put, List.setIfInBounds_toArray, List.set_cons_zero, List.set_cons_succ, i64_w, i32_w]
    rfl
  refine pure_ (i := 9) (N := some 38) (v := ?_) (a' := ?_) #[true, true, true, true, true, true, true, true, true, true, false, false, false, false, false, false, false, false] rfl rfl (by kernel_rfl) (fun _ _ _ h => h) (Or.inl ⟨by rfl, ?_⟩) ?_ ?_
  rotate_left
  · intro w'
    go_simp
    with_reducible rfl
  rotate_left
  · simp only [Act.put, List.setIfInBounds_toArray, List.set_cons_zero, List.set_cons_succ, i64_w, i32_w]
    rfl
  refine pure_ (i := 10) (N := some 39) (v := ?_) (a' := ?_) #[true, true, true, true, true, true, true, true, true, true, true, false, false, false, false, false, false, false] rfl rfl (by kernel_rfl) (fun _ _ _ h => h) (Or.inl ⟨by rfl, ?_⟩) ?_ ?_
  rotate_left
  · intro w'
    go_simp
    with_reducible rfl
  rotate_left
  · simp only [Act.put, List.setIfInBounds_toArray, List.set_cons_zero, List.set_cons_succ, i64_w, i32_w]
    rfl
  refine take_ (i := 11) (N := some 40) (v := ?_) (a' := ?_) #[true, true, true, true, true, true, true, true, true, true, true, true, false, false, false, false, false, false] rfl rfl (by kernel_rfl) (fun _ _ _ h => h) (Or.inl ⟨by rfl, ?_⟩) hHeld ?_ ?_
  rotate_left
  · rintro w' ⟨s0, s1, s2, s3, s4, s5, s6, s7, s8, s9⟩
    go_simp
    with_reducible rfl
  rotate_left
  · simp only [Act.put, List.setIfInBounds_toArray, List.set_cons_zero, List.set_cons_succ, i64_w, i32_w]
    rfl
  refine take_ (i := 13) (N := some 42) (v := ?_) (a' := ?_) #[true, true, true, true, true, true, true, true, true, true, true, true, false, true, false, false, false, false] rfl rfl (by kernel_rfl) (fun _ _ _ h => h) (Or.inl ⟨by rfl, ?_⟩) hHeld ?_ ?_
  rotate_left
  · rintro w' ⟨s0, s1, s2, s3, s4, s5, s6, s7, s8, s9⟩
    go_simp
    with_reducible rfl
  rotate_left
  · simp only [Act.put, List.setIfInBounds_toArray, List.set_cons_zero, List.set_cons_succ, i64_w, i32_w]
    rfl
  refine one_ (i := 12) (N := some 41) #[true, true, true, true, true, true, true, true, true, true, true, true, true, true, false, false, false, false] rfl rfl (by kernel_rfl) (by decide) (fun K hK => ?_)
  refine goes_ Try.func24 (by kernel_rfl) rfl #[.agg #[.int .u64 id, .int .u64 key, .int .i64 data, .int .i64 fields, .int .u64 made]] (by rfl) rfl rfl (by (try simp only [List.map_toArray, List.map_cons, List.map_nil]); first | done | rfl) ?_
  with_reducible refine (Objects_calls id key data fields made _ d0 d1 f0 f1).mono ?_
  rintro e w11 ⟨rfl, hb11⟩
  refine ⟨_, rfl, ?_⟩
  refine hK.out _ _ ⟨(pw_cell_below hb11 hHeld.1), (pw_cell_below hb11 hHeld.2.1), (pw_cell_below hb11 hHeld.2.2.1), (pw_cell_below hb11 hHeld.2.2.2.1), (pw_cell_below hb11 hHeld.2.2.2.2.1), (pw_cell_below hb11 hHeld.2.2.2.2.2.1), (pw_cell_below hb11 hHeld.2.2.2.2.2.2.1), (pw_cell_below hb11 hHeld.2.2.2.2.2.2.2.1), (pw_cell_below hb11 hHeld.2.2.2.2.2.2.2.2.1), (pw_cell_below hb11 hHeld.2.2.2.2.2.2.2.2.2)⟩ (fun hHeld => ?_)
  clear hK K
  refine norm_ (a' := ?_) ?_ ?_
  rotate_left
  · show Act.put _ (some 41) _ = _
    simp only [Act.put, List.setIfInBounds_toArray, List.set_cons_zero, List.set_cons_succ, i64_w, i32_w]
    rfl
  refine one_ (i := 14) (N := some 43) #[true, true, true, true, true, true, true, true, true, true, true, true, true, true, true, false, false, false] rfl rfl (by kernel_rfl) (by decide) (fun K hK => ?_)
  refine goes_ Try.func25 (by kernel_rfl) rfl #[.agg #[.int .u64 id, .int .u64 key, .int .i64 data, .int .i64 fields, .int .u64 made]] (by rfl) rfl rfl (by (try simp only [List.map_toArray, List.map_cons, List.map_nil]); first | done | rfl) ?_
  with_reducible refine (ref_Objects_calls id key data fields made _ d0 d1 f0 f1).mono ?_
  rintro e w12 ⟨rfl, hb12⟩
  refine ⟨_, rfl, ?_⟩
  refine hK.out _ _ ⟨(pw_cell_below hb12 hHeld.1), (pw_cell_below hb12 hHeld.2.1), (pw_cell_below hb12 hHeld.2.2.1), (pw_cell_below hb12 hHeld.2.2.2.1), (pw_cell_below hb12 hHeld.2.2.2.2.1), (pw_cell_below hb12 hHeld.2.2.2.2.2.1), (pw_cell_below hb12 hHeld.2.2.2.2.2.2.1), (pw_cell_below hb12 hHeld.2.2.2.2.2.2.2.1), (pw_cell_below hb12 hHeld.2.2.2.2.2.2.2.2.1), (pw_cell_below hb12 hHeld.2.2.2.2.2.2.2.2.2)⟩ (fun hHeld => ?_)
  clear hK K
  refine norm_ (a' := ?_) ?_ ?_
  rotate_left
  · show Act.put _ (some 43) _ = _
    simp only [Act.put, List.setIfInBounds_toArray, List.set_cons_zero, List.set_cons_succ, i64_w, i32_w]
    rfl
  refine pure_ (i := 15) (N := some 44) (v := ?_) (a' := ?_) #[true, true, true, true, true, true, true, true, true, true, true, true, true, true, true, true, false, false] rfl rfl (by kernel_rfl) (fun _ _ _ h => h) (Or.inl ⟨by rfl, ?_⟩) ?_ ?_
  rotate_left
  · intro w'
    go_simp
    with_reducible rfl
  rotate_left
  · simp only [Act.put, List.setIfInBounds_toArray, List.set_cons_zero, List.set_cons_succ, i64_w, i32_w]
    rfl
  refine pure_ (i := 16) (N := some 45) (v := ?_) (a' := ?_) #[true, true, true, true, true, true, true, true, true, true, true, true, true, true, true, true, true, false] rfl rfl (by kernel_rfl) (fun _ _ _ h => h) (Or.inl ⟨by rfl, ?_⟩) ?_ ?_
  rotate_left
  · intro w'
    go_simp
    with_reducible rfl
  rotate_left
  · simp only [Act.put, List.setIfInBounds_toArray, List.set_cons_zero, List.set_cons_succ, i64_w, i32_w]
    rfl
  refine pure_ (i := 17) (N := some 46) (v := ?_) (a' := ?_) #[true, true, true, true, true, true, true, true, true, true, true, true, true, true, true, true, true, true] rfl rfl (by kernel_rfl) (fun _ _ _ h => h) (Or.inl ⟨by rfl, ?_⟩) ?_ ?_
  rotate_left
  · intro w'
    go_simp
    with_reducible rfl
  rotate_left
  · simp only [Act.put, List.setIfInBounds_toArray, List.set_cons_zero, List.set_cons_succ, i64_w, i32_w]
    rfl
  refine done_ (by kernel_rfl) ?_
  have HB12 := Aside0.mk (below_step (below_step (below_step (below_step (below_drew HB8.out) hb9) hb10) hb11) hb12)
  clear hb9 hb10 hb11 hb12 a0 a1 a2 a3 a4 c0 c1 c2 c3 c4 ht1 ht2 hw1 hw2
  have hmm : (64 * (1 + m) == 64 * (1 + m)) = true := by simp
  go_wp2_with fail
  refine (head_Slot_calls n _).mono ?_
  rintro e wz ⟨rfl, rfl⟩
  rw [HMM.out]
  go_wp2_with fail
  refine (head_awake_calls _).mono ?_
  rintro e w13 ⟨rfl, hb⟩
  have HB13 := Aside0.mk (below_step HB12.out hb)
  clear hb
  go_wp2_with fail
  go_ret
  exact ⟨rfl, HB13.out⟩
set_option maxHeartbeats 8000000 in
set_option maxRecDepth 100000 in
theorem HeadWrites_no (id key data fields made n : Int) (w : World) (hr : hR data fields = false) (n0 : -9223372036854775808 ≤ n) (n1 : n ≤ 9223372036854775807) (id0 : 0 ≤ id) (id1 : id ≤ 18446744073709551615) (key0 : 0 ≤ key) (key1 : key ≤ 18446744073709551615) (made0 : 0 ≤ made) (made1 : made ≤ 18446744073709551615) :
    Calls Try.prog 3 #[.agg #[.int .u64 id, .int .u64 key, .int .i64 data, .int .i64 fields, .int .u64 made], .int .i64 n] w fun e w' => e = .returned (.bool true) ∧ Below w.heap.size w w' := by
  have HR := Aside0.mk hr
  have HX0 := Aside0.mk (blk_new w (.cells #[.int .u64 id, .int .u64 key, .int .i64 data, .int .i64 fields, .int .u64 made] 24))
  have hn2 : (IntKind.u64.wrap n) % 2 = n % 2 := by rw [IntKind.wrap_u64]; omega
  have hn0 : 0 ≤ IntKind.u64.wrap n := by rw [IntKind.wrap_u64]; omega
  have hn3 : (IntKind.u64.wrap n).tmod 2 = n % 2 := by rw [Int.tmod_eq_emod_of_nonneg hn0, hn2]
  have hm0 : 0 ≤ n % 2 := by omega
  have hm1 : n % 2 ≤ 1 := by omega
  obtain ⟨m, hm⟩ : ∃ m, n % 2 = m := ⟨_, rfl⟩
  rw [hm] at hn2 hn3 hm0 hm1
  clear hn0
  have HMM := Aside0.mk hm
  clear hr hm
  go_enter Try.func3, Try.ntmps3
  go_wp2_with fail
  refine (crc_Make_calls _).mono ?_
  rintro e w1 ⟨rfl, hT, hb⟩
  have HB1 := Aside0.mk (below_step (below_alloc (Below.refl _ _) (.cells #[.int .u64 id, .int .u64 key, .int .i64 data, .int .i64 fields, .int .u64 made] 24)) hb)
  have HX1 := Aside0.mk (blk_below HX0.out hb)
  have HT1 := Aside0.mk (show CrcT w1 (w.heap.size + 1) by simpa using hT)
  have h0 := HX1.out
  have b0 : (w1).cell? ⟨w.heap.size, 0, none⟩ = some (.int .u64 id) := blk_cell h0 0
  have b1 : (w1).cell? ⟨w.heap.size, 1, none⟩ = some (.int .u64 key) := blk_cell h0 1
  have b2 : (w1).cell? ⟨w.heap.size, 2, none⟩ = some (.int .i64 data) := blk_cell h0 2
  have b3 : (w1).cell? ⟨w.heap.size, 3, none⟩ = some (.int .i64 fields) := blk_cell h0 3
  have b4 : (w1).cell? ⟨w.heap.size, 4, none⟩ = some (.int .u64 made) := blk_cell h0 4
  clear hb hT h0
  go_wp2_with fail
  refine (head_to_calls id key data fields made _).mono ?_
  rintro e w2 ⟨rfl, hb⟩
  have HB2 := Aside0.mk (below_alloc (below_step HB1.out hb) (.cells #[.int .u64 id, .int .u64 key, .int .i64 data, .int .i64 fields, .int .u64 made] 27))
  have HA2 := Aside0.mk (blk_new w2 (.cells #[.int .u64 id, .int .u64 key, .int .i64 data, .int .i64 fields, .int .u64 made] 27))
  have HX2 := Aside0.mk (blk_alloc (blk_below HX1.out hb) (.cells #[.int .u64 id, .int .u64 key, .int .i64 data, .int .i64 fields, .int .u64 made] 27))
  have HT2 := Aside0.mk ((HT1.out.below hb).below (below_alloc (Below.refl _ _) (.cells #[.int .u64 id, .int .u64 key, .int .i64 data, .int .i64 fields, .int .u64 made] 27)))
  clear hb b0 b1 b2 b3 b4
  go_wp2_with fail
  have a0 : (w2.alloc (.cells #[.int .u64 id, .int .u64 key, .int .i64 data, .int .i64 fields, .int .u64 made] 27)).cell? ⟨w2.heap.size, 0, none⟩ = some (.int .u64 id) := blk_cell HA2.out 0
  have a1 : (w2.alloc (.cells #[.int .u64 id, .int .u64 key, .int .i64 data, .int .i64 fields, .int .u64 made] 27)).cell? ⟨w2.heap.size, 1, none⟩ = some (.int .u64 key) := blk_cell HA2.out 1
  have a2 : (w2.alloc (.cells #[.int .u64 id, .int .u64 key, .int .i64 data, .int .i64 fields, .int .u64 made] 27)).cell? ⟨w2.heap.size, 2, none⟩ = some (.int .i64 data) := blk_cell HA2.out 2
  have a3 : (w2.alloc (.cells #[.int .u64 id, .int .u64 key, .int .i64 data, .int .i64 fields, .int .u64 made] 27)).cell? ⟨w2.heap.size, 3, none⟩ = some (.int .i64 fields) := blk_cell HA2.out 3
  have a4 : (w2.alloc (.cells #[.int .u64 id, .int .u64 key, .int .i64 data, .int .i64 fields, .int .u64 made] 27)).cell? ⟨w2.heap.size, 4, none⟩ = some (.int .u64 made) := blk_cell HA2.out 4
  have c0 : (w2.alloc (.cells #[.int .u64 id, .int .u64 key, .int .i64 data, .int .i64 fields, .int .u64 made] 27)).cell? ⟨w.heap.size, 0, none⟩ = some (.int .u64 id) := blk_cell HX2.out 0
  have c1 : (w2.alloc (.cells #[.int .u64 id, .int .u64 key, .int .i64 data, .int .i64 fields, .int .u64 made] 27)).cell? ⟨w.heap.size, 1, none⟩ = some (.int .u64 key) := blk_cell HX2.out 1
  have c2 : (w2.alloc (.cells #[.int .u64 id, .int .u64 key, .int .i64 data, .int .i64 fields, .int .u64 made] 27)).cell? ⟨w.heap.size, 2, none⟩ = some (.int .i64 data) := blk_cell HX2.out 2
  have c3 : (w2.alloc (.cells #[.int .u64 id, .int .u64 key, .int .i64 data, .int .i64 fields, .int .u64 made] 27)).cell? ⟨w.heap.size, 3, none⟩ = some (.int .i64 fields) := blk_cell HX2.out 3
  have c4 : (w2.alloc (.cells #[.int .u64 id, .int .u64 key, .int .i64 data, .int .i64 fields, .int .u64 made] 27)).cell? ⟨w.heap.size, 4, none⟩ = some (.int .u64 made) := blk_cell HX2.out 4
  refine start_ (n := 19) (S := fun w' => w'.cell? ⟨w2.heap.size, 0, none⟩ = some (.int .u64 id) ∧ w'.cell? ⟨w2.heap.size, 1, none⟩ = some (.int .u64 key) ∧ w'.cell? ⟨w2.heap.size, 2, none⟩ = some (.int .i64 data) ∧ w'.cell? ⟨w2.heap.size, 3, none⟩ = some (.int .i64 fields) ∧ w'.cell? ⟨w2.heap.size, 4, none⟩ = some (.int .u64 made) ∧ w'.cell? ⟨w.heap.size, 0, none⟩ = some (.int .u64 id) ∧ w'.cell? ⟨w.heap.size, 1, none⟩ = some (.int .u64 key) ∧ w'.cell? ⟨w.heap.size, 2, none⟩ = some (.int .i64 data) ∧ w'.cell? ⟨w.heap.size, 3, none⟩ = some (.int .i64 fields) ∧ w'.cell? ⟨w.heap.size, 4, none⟩ = some (.int .u64 made)) (ds := []) #[false, false, false, false, false, false, false, false, false, false, false, false, false, false, false, false, false, false, false] (by kernel_rfl) rfl rfl ⟨a0, a1, a2, a3, a4, c0, c1, c2, c3, c4⟩ (fun hHeld => ?_)
  refine pure_ (i := 1) (N := some 11) (v := ?_) (a' := ?_) #[false, true, false, false, false, false, false, false, false, false, false, false, false, false, false, false, false, false, false] rfl rfl (by kernel_rfl) (fun _ _ _ h => h) (Or.inl ⟨by rfl, ?_⟩) ?_ ?_
  rotate_left
  · intro w'
    go_simp
    with_reducible rfl
  rotate_left
  · simp only [Act.put, List.setIfInBounds_toArray, List.set_cons_zero, List.set_cons_succ, i64_w, i32_w]
    rfl
  refine take_ (i := 0) (N := some 10) (v := ?_) (a' := ?_) #[true, true, false, false, false, false, false, false, false, false, false, false, false, false, false, false, false, false, false] rfl rfl (by kernel_rfl) (fun _ _ _ h => h) (Or.inl ⟨by rfl, ?_⟩) hHeld ?_ ?_
  rotate_left
  · rintro w' ⟨s0, s1, s2, s3, s4, s5, s6, s7, s8, s9⟩
    go_simp
    with_reducible rfl
  rotate_left
  · simp only [Act.put, List.setIfInBounds_toArray, List.set_cons_zero, List.set_cons_succ, i64_w, i32_w]
    rfl
  refine take_ (i := 3) (N := some 13) (v := ?_) (a' := ?_) #[true, true, false, true, false, false, false, false, false, false, false, false, false, false, false, false, false, false, false] rfl rfl (by kernel_rfl) (fun _ _ _ h => h) (Or.inl ⟨by rfl, ?_⟩) hHeld ?_ ?_
  rotate_left
  · rintro w' ⟨s0, s1, s2, s3, s4, s5, s6, s7, s8, s9⟩
    go_simp
    with_reducible rfl
  rotate_left
  · simp only [Act.put, List.setIfInBounds_toArray, List.set_cons_zero, List.set_cons_succ, i64_w, i32_w]
    rfl
  refine one_ (i := 2) (N := some 12) #[true, true, true, true, false, false, false, false, false, false, false, false, false, false, false, false, false, false, false] rfl rfl (by kernel_rfl) (by decide) (fun K hK => ?_)
  refine goes_ Try.func18 (by kernel_rfl) rfl #[.agg #[.int .u64 id, .int .u64 key, .int .i64 data, .int .i64 fields, .int .u64 made], .pointer (some ⟨w.heap.size + 1, 0, none⟩)] (by rfl) rfl rfl (by (try simp only [List.map_toArray, List.map_cons, List.map_nil]); first | done | rfl) ?_
  with_reducible refine (head_Encode_no id key data fields made _ _ HR.out).mono ?_
  rintro e w3 ⟨rfl, hb3⟩
  refine ⟨_, rfl, ?_⟩
  refine hK.out _ _ ⟨(pw_cell_below hb3 hHeld.1), (pw_cell_below hb3 hHeld.2.1), (pw_cell_below hb3 hHeld.2.2.1), (pw_cell_below hb3 hHeld.2.2.2.1), (pw_cell_below hb3 hHeld.2.2.2.2.1), (pw_cell_below hb3 hHeld.2.2.2.2.2.1), (pw_cell_below hb3 hHeld.2.2.2.2.2.2.1), (pw_cell_below hb3 hHeld.2.2.2.2.2.2.2.1), (pw_cell_below hb3 hHeld.2.2.2.2.2.2.2.2.1), (pw_cell_below hb3 hHeld.2.2.2.2.2.2.2.2.2)⟩ (fun hHeld => ?_)
  clear hK K
  refine norm_ (a' := ?_) ?_ ?_
  rotate_left
  · show Act.put _ (some 12) _ = _
    simp only [Act.put, List.setIfInBounds_toArray, List.set_cons_zero, List.set_cons_succ, i64_w, i32_w]
    rfl
  refine one_ (i := 4) (N := some 14) #[true, true, true, true, true, false, false, false, false, false, false, false, false, false, false, false, false, false, false] rfl rfl (by kernel_rfl) (by decide) (fun K hK => ?_)
  refine goes_ Try.func19 (by kernel_rfl) rfl #[.agg #[.int .u64 id, .int .u64 key, .int .i64 data, .int .i64 fields, .int .u64 made]] (by rfl) rfl rfl (by (try simp only [List.map_toArray, List.map_cons, List.map_nil]); first | done | rfl) ?_
  with_reducible refine (ref_hEncode_no id key data fields made _ HR.out).mono ?_
  rintro e w4 ⟨rfl, hb4⟩
  refine ⟨_, rfl, ?_⟩
  refine hK.out _ _ ⟨(pw_cell_below hb4 hHeld.1), (pw_cell_below hb4 hHeld.2.1), (pw_cell_below hb4 hHeld.2.2.1), (pw_cell_below hb4 hHeld.2.2.2.1), (pw_cell_below hb4 hHeld.2.2.2.2.1), (pw_cell_below hb4 hHeld.2.2.2.2.2.1), (pw_cell_below hb4 hHeld.2.2.2.2.2.2.1), (pw_cell_below hb4 hHeld.2.2.2.2.2.2.2.1), (pw_cell_below hb4 hHeld.2.2.2.2.2.2.2.2.1), (pw_cell_below hb4 hHeld.2.2.2.2.2.2.2.2.2)⟩ (fun hHeld => ?_)
  clear hK K
  refine norm_ (a' := ?_) ?_ ?_
  rotate_left
  · show Act.put _ (some 14) _ = _
    simp only [Act.put, List.setIfInBounds_toArray, List.set_cons_zero, List.set_cons_succ, i64_w, i32_w]
    rfl
  refine one_ (i := 5) (N := some 15) #[true, true, true, true, true, true, false, false, false, false, false, false, false, false, false, false, false, false, false] rfl rfl (by kernel_rfl) (by decide) (fun K hK => ?_)
  refine goes_ Try.func17 (by kernel_rfl) rfl #[.slice none 0 0, .slice none 0 0] (by rfl) rfl rfl (by (try simp only [List.map_toArray, List.map_cons, List.map_nil]); first | done | rfl) ?_
  with_reducible refine (Same_calls (.slice none 0 0) (.slice none 0 0) [] [] _ (Rd.nil _ _) (Rd.nil _ _) isB_nil isB_nil).mono ?_
  rintro e w5 ⟨rfl, hb5⟩
  refine ⟨_, rfl, ?_⟩
  rw [show decide (([] : List Int) = []) = true from rfl]
  refine hK.out _ _ ⟨(pw_cell_below hb5 hHeld.1), (pw_cell_below hb5 hHeld.2.1), (pw_cell_below hb5 hHeld.2.2.1), (pw_cell_below hb5 hHeld.2.2.2.1), (pw_cell_below hb5 hHeld.2.2.2.2.1), (pw_cell_below hb5 hHeld.2.2.2.2.2.1), (pw_cell_below hb5 hHeld.2.2.2.2.2.2.1), (pw_cell_below hb5 hHeld.2.2.2.2.2.2.2.1), (pw_cell_below hb5 hHeld.2.2.2.2.2.2.2.2.1), (pw_cell_below hb5 hHeld.2.2.2.2.2.2.2.2.2)⟩ (fun hHeld => ?_)
  clear hK K
  refine norm_ (a' := ?_) ?_ ?_
  rotate_left
  · show Act.put _ (some 15) _ = _
    simp only [Act.put, List.setIfInBounds_toArray, List.set_cons_zero, List.set_cons_succ, i64_w, i32_w]
    rfl
  refine pure_ (i := 6) (N := some 16) (v := ?_) (a' := ?_) #[true, true, true, true, true, true, true, false, false, false, false, false, false, false, false, false, false, false, false] rfl rfl (by kernel_rfl) (fun _ _ _ h => h) (Or.inl ⟨by rfl, ?_⟩) ?_ ?_
  rotate_left
  · intro w'
    go_simp
    with_reducible rfl
  rotate_left
  · simp only [Act.put, List.setIfInBounds_toArray, List.set_cons_zero, List.set_cons_succ, i64_w, i32_w]
    rfl
  refine pure_ (i := 7) (N := some 17) (v := ?_) (a' := ?_) #[true, true, true, true, true, true, true, true, false, false, false, false, false, false, false, false, false, false, false] rfl rfl (by kernel_rfl) (fun _ _ _ h => h) (Or.inl ⟨by rfl, ?_⟩) ?_ ?_
  rotate_left
  · intro w'
    go_simp
    with_reducible rfl
  rotate_left
  · simp only [Act.put, List.setIfInBounds_toArray, List.set_cons_zero, List.set_cons_succ, i64_w, i32_w]
    rfl
  refine take_ (i := 8) (N := some 18) (v := ?_) (a' := ?_) #[true, true, true, true, true, true, true, true, true, false, false, false, false, false, false, false, false, false, false] rfl rfl (by kernel_rfl) (fun _ _ _ h => h) (Or.inl ⟨by rfl, ?_⟩) hHeld ?_ ?_
  rotate_left
  · rintro w' ⟨s0, s1, s2, s3, s4, s5, s6, s7, s8, s9⟩
    go_simp
    with_reducible rfl
  rotate_left
  · simp only [Act.put, List.setIfInBounds_toArray, List.set_cons_zero, List.set_cons_succ, i64_w, i32_w]
    rfl
  refine take_ (i := 10) (N := some 20) (v := ?_) (a' := ?_) #[true, true, true, true, true, true, true, true, true, false, true, false, false, false, false, false, false, false, false] rfl rfl (by kernel_rfl) (fun _ _ _ h => h) (Or.inl ⟨by rfl, ?_⟩) hHeld ?_ ?_
  rotate_left
  · rintro w' ⟨s0, s1, s2, s3, s4, s5, s6, s7, s8, s9⟩
    go_simp
    with_reducible rfl
  rotate_left
  · simp only [Act.put, List.setIfInBounds_toArray, List.set_cons_zero, List.set_cons_succ, i64_w, i32_w]
    rfl
  refine one_ (i := 9) (N := some 19) #[true, true, true, true, true, true, true, true, true, true, true, false, false, false, false, false, false, false, false] rfl rfl (by kernel_rfl) (by decide) (fun K hK => ?_)
  refine goes_ Try.func20 (by kernel_rfl) rfl #[.agg #[.int .u64 id, .int .u64 key, .int .i64 data, .int .i64 fields, .int .u64 made]] (by rfl) rfl rfl (by (try simp only [List.map_toArray, List.map_cons, List.map_nil]); first | done | rfl) ?_
  with_reducible refine (head_Right_calls id key data fields made _).mono ?_
  rintro e w6 ⟨rfl, hb6⟩
  refine ⟨_, rfl, ?_⟩
  rw [HR.out]
  refine hK.out _ _ ⟨(pw_cell_below hb6 hHeld.1), (pw_cell_below hb6 hHeld.2.1), (pw_cell_below hb6 hHeld.2.2.1), (pw_cell_below hb6 hHeld.2.2.2.1), (pw_cell_below hb6 hHeld.2.2.2.2.1), (pw_cell_below hb6 hHeld.2.2.2.2.2.1), (pw_cell_below hb6 hHeld.2.2.2.2.2.2.1), (pw_cell_below hb6 hHeld.2.2.2.2.2.2.2.1), (pw_cell_below hb6 hHeld.2.2.2.2.2.2.2.2.1), (pw_cell_below hb6 hHeld.2.2.2.2.2.2.2.2.2)⟩ (fun hHeld => ?_)
  clear hK K
  refine norm_ (a' := ?_) ?_ ?_
  rotate_left
  · show Act.put _ (some 19) _ = _
    simp only [Act.put, List.setIfInBounds_toArray, List.set_cons_zero, List.set_cons_succ, i64_w, i32_w]
    rfl
  refine one_ (i := 11) (N := some 21) #[true, true, true, true, true, true, true, true, true, true, true, true, false, false, false, false, false, false, false] rfl rfl (by kernel_rfl) (by decide) (fun K hK => ?_)
  refine goes_ Try.func21 (by kernel_rfl) rfl #[.agg #[.int .u64 id, .int .u64 key, .int .i64 data, .int .i64 fields, .int .u64 made]] (by rfl) rfl rfl (by (try simp only [List.map_toArray, List.map_cons, List.map_nil]); first | done | rfl) ?_
  with_reducible refine (ref_hRight_calls id key data fields made _).mono ?_
  rintro e w7 ⟨rfl, hb7⟩
  refine ⟨_, rfl, ?_⟩
  rw [HR.out]
  refine hK.out _ _ ⟨(pw_cell_below hb7 hHeld.1), (pw_cell_below hb7 hHeld.2.1), (pw_cell_below hb7 hHeld.2.2.1), (pw_cell_below hb7 hHeld.2.2.2.1), (pw_cell_below hb7 hHeld.2.2.2.2.1), (pw_cell_below hb7 hHeld.2.2.2.2.2.1), (pw_cell_below hb7 hHeld.2.2.2.2.2.2.1), (pw_cell_below hb7 hHeld.2.2.2.2.2.2.2.1), (pw_cell_below hb7 hHeld.2.2.2.2.2.2.2.2.1), (pw_cell_below hb7 hHeld.2.2.2.2.2.2.2.2.2)⟩ (fun hHeld => ?_)
  clear hK K
  refine norm_ (a' := ?_) ?_ ?_
  rotate_left
  · show Act.put _ (some 21) _ = _
    simp only [Act.put, List.setIfInBounds_toArray, List.set_cons_zero, List.set_cons_succ, i64_w, i32_w]
    rfl
  refine pure_ (i := 12) (N := some 22) (v := ?_) (a' := ?_) #[true, true, true, true, true, true, true, true, true, true, true, true, true, false, false, false, false, false, false] rfl rfl (by kernel_rfl) (fun _ _ _ h => h) (Or.inl ⟨by rfl, ?_⟩) ?_ ?_
  rotate_left
  · intro w'
    go_simp
    with_reducible rfl
  rotate_left
  · simp only [Act.put, List.setIfInBounds_toArray, List.set_cons_zero, List.set_cons_succ, i64_w, i32_w]
    rfl
  refine pure_ (i := 13) (N := some 23) (v := ?_) (a' := ?_) #[true, true, true, true, true, true, true, true, true, true, true, true, true, true, false, false, false, false, false] rfl rfl (by kernel_rfl) (fun _ _ _ h => h) (Or.inl ⟨by rfl, ?_⟩) ?_ ?_
  rotate_left
  · intro w'
    go_simp
    with_reducible rfl
  rotate_left
  · simp only [Act.put, List.setIfInBounds_toArray, List.set_cons_zero, List.set_cons_succ, i64_w, i32_w]
    rfl
  refine pure_ (i := 14) (N := some 24) (v := ?_) (a' := ?_) #[true, true, true, true, true, true, true, true, true, true, true, true, true, true, true, false, false, false, false] rfl rfl (by kernel_rfl) (fun _ _ _ h => h) (Or.inl ⟨by rfl, ?_⟩) ?_ ?_
  rotate_left
  · intro w'
    go_simp
    with_reducible rfl
  rotate_left
  · simp only [Act.put, List.setIfInBounds_toArray, List.set_cons_zero, List.set_cons_succ, i64_w, i32_w]
    rfl
  refine take_ (i := 15) (N := some 25) (v := ?_) (a' := ?_) #[true, true, true, true, true, true, true, true, true, true, true, true, true, true, true, true, false, false, false] rfl rfl (by kernel_rfl) (fun _ _ _ h => h) (Or.inl ⟨by rfl, ?_⟩) hHeld ?_ ?_
  rotate_left
  · rintro w' ⟨s0, s1, s2, s3, s4, s5, s6, s7, s8, s9⟩
    go_simp
    with_reducible rfl
  rotate_left
  · simp only [Act.put, List.setIfInBounds_toArray, List.set_cons_zero, List.set_cons_succ, i64_w, i32_w]
    rfl
  refine one_ (i := 16) (N := some 26) #[true, true, true, true, true, true, true, true, true, true, true, true, true, true, true, true, true, false, false] rfl rfl (by kernel_rfl) (by decide) (fun K hK => ?_)
  refine goes_ Try.func22 (by kernel_rfl) rfl #[.agg #[.int .u64 id, .int .u64 key, .int .i64 data, .int .i64 fields, .int .u64 made]] (by rfl) rfl rfl (by (try simp only [List.map_toArray, List.map_cons, List.map_nil]); first | done | rfl) ?_
  with_reducible refine (DataTable_calls id key data fields made _).mono ?_
  rintro e w8 ⟨rfl, hb8⟩
  refine ⟨_, rfl, ?_⟩
  refine hK.out _ _ ⟨(pw_cell_below hb8 hHeld.1), (pw_cell_below hb8 hHeld.2.1), (pw_cell_below hb8 hHeld.2.2.1), (pw_cell_below hb8 hHeld.2.2.2.1), (pw_cell_below hb8 hHeld.2.2.2.2.1), (pw_cell_below hb8 hHeld.2.2.2.2.2.1), (pw_cell_below hb8 hHeld.2.2.2.2.2.2.1), (pw_cell_below hb8 hHeld.2.2.2.2.2.2.2.1), (pw_cell_below hb8 hHeld.2.2.2.2.2.2.2.2.1), (pw_cell_below hb8 hHeld.2.2.2.2.2.2.2.2.2)⟩ (fun hHeld => ?_)
  clear hK K
  refine norm_ (a' := ?_) ?_ ?_
  rotate_left
  · show Act.put _ (some 26) _ = _
    simp only [Act.put, List.setIfInBounds_toArray, List.set_cons_zero, List.set_cons_succ, i64_w, i32_w]
    rfl
  refine pure_ (i := 17) (N := some 27) (v := ?_) (a' := ?_) #[true, true, true, true, true, true, true, true, true, true, true, true, true, true, true, true, true, true, false] rfl rfl (by kernel_rfl) (fun _ _ _ h => h) (Or.inl ⟨by rfl, ?_⟩) ?_ ?_
  rotate_left
  · intro w'
    go_simp
    with_reducible rfl
  rotate_left
  · simp only [Act.put, List.setIfInBounds_toArray, List.set_cons_zero, List.set_cons_succ, i64_w, i32_w]
    rfl
  refine pure_ (i := 18) (N := some 28) (v := ?_) (a' := ?_) #[true, true, true, true, true, true, true, true, true, true, true, true, true, true, true, true, true, true, true] rfl rfl (by kernel_rfl) (fun _ _ _ h => h) (Or.inl ⟨by rfl, ?_⟩) ?_ ?_
  rotate_left
  · intro w'
    go_simp
    with_reducible rfl
  rotate_left
  · simp only [Act.put, List.setIfInBounds_toArray, List.set_cons_zero, List.set_cons_succ, i64_w, i32_w]
    rfl
  refine done_ (by kernel_rfl) ?_
  have hbb := below_step (below_step (below_step (below_step (below_step (below_step (below_drew (Below.refl _ (w2.alloc (.cells #[.int .u64 id, .int .u64 key, .int .i64 data, .int .i64 fields, .int .u64 made] 27)))) hb3) hb4) hb5) hb6) hb7) hb8
  have HB8 := Aside0.mk (below_step HB2.out hbb)
  have HA8 := Aside0.mk (blk_below HA2.out hbb)
  have HX8 := Aside0.mk (blk_below HX2.out hbb)
  clear hbb hb3 hb4 hb5 hb6 hb7 hb8 a0 a1 a2 a3 a4 c0 c1 c2 c3 c4
  go_wp2_with fail
  have a0 : (w8).cell? ⟨w2.heap.size, 0, none⟩ = some (.int .u64 id) := blk_cell HA8.out 0
  have a1 : (w8).cell? ⟨w2.heap.size, 1, none⟩ = some (.int .u64 key) := blk_cell HA8.out 1
  have a2 : (w8).cell? ⟨w2.heap.size, 2, none⟩ = some (.int .i64 data) := blk_cell HA8.out 2
  have a3 : (w8).cell? ⟨w2.heap.size, 3, none⟩ = some (.int .i64 fields) := blk_cell HA8.out 3
  have a4 : (w8).cell? ⟨w2.heap.size, 4, none⟩ = some (.int .u64 made) := blk_cell HA8.out 4
  have c0 : (w8).cell? ⟨w.heap.size, 0, none⟩ = some (.int .u64 id) := blk_cell HX8.out 0
  have c1 : (w8).cell? ⟨w.heap.size, 1, none⟩ = some (.int .u64 key) := blk_cell HX8.out 1
  have c2 : (w8).cell? ⟨w.heap.size, 2, none⟩ = some (.int .i64 data) := blk_cell HX8.out 2
  have c3 : (w8).cell? ⟨w.heap.size, 3, none⟩ = some (.int .i64 fields) := blk_cell HX8.out 3
  have c4 : (w8).cell? ⟨w.heap.size, 4, none⟩ = some (.int .u64 made) := blk_cell HX8.out 4
  refine start_ (n := 18) (S := fun w' => w'.cell? ⟨w2.heap.size, 0, none⟩ = some (.int .u64 id) ∧ w'.cell? ⟨w2.heap.size, 1, none⟩ = some (.int .u64 key) ∧ w'.cell? ⟨w2.heap.size, 2, none⟩ = some (.int .i64 data) ∧ w'.cell? ⟨w2.heap.size, 3, none⟩ = some (.int .i64 fields) ∧ w'.cell? ⟨w2.heap.size, 4, none⟩ = some (.int .u64 made) ∧ w'.cell? ⟨w.heap.size, 0, none⟩ = some (.int .u64 id) ∧ w'.cell? ⟨w.heap.size, 1, none⟩ = some (.int .u64 key) ∧ w'.cell? ⟨w.heap.size, 2, none⟩ = some (.int .i64 data) ∧ w'.cell? ⟨w.heap.size, 3, none⟩ = some (.int .i64 fields) ∧ w'.cell? ⟨w.heap.size, 4, none⟩ = some (.int .u64 made)) (ds := []) #[false, false, false, false, false, false, false, false, false, false, false, false, false, false, false, false, false, false] (by kernel_rfl) rfl rfl ⟨a0, a1, a2, a3, a4, c0, c1, c2, c3, c4⟩ (fun hHeld => ?_)
  refine take_ (i := 0) (N := some 29) (v := ?_) (a' := ?_) #[true, false, false, false, false, false, false, false, false, false, false, false, false, false, false, false, false, false] rfl rfl (by kernel_rfl) (fun _ _ _ h => h) (Or.inl ⟨by rfl, ?_⟩) hHeld ?_ ?_
  rotate_left
  · rintro w' ⟨s0, s1, s2, s3, s4, s5, s6, s7, s8, s9⟩
    go_simp
    with_reducible rfl
  rotate_left
  · simp only [Act.put, List.setIfInBounds_toArray, List.set_cons_zero, List.set_cons_succ, i64_w, i32_w]
    rfl
  refine one_ (i := 1) (N := some 30) #[true, true, false, false, false, false, false, false, false, false, false, false, false, false, false, false, false, false] rfl rfl (by kernel_rfl) (by decide) (fun K hK => ?_)
  refine goes_ Try.func21 (by kernel_rfl) rfl #[.agg #[.int .u64 id, .int .u64 key, .int .i64 data, .int .i64 fields, .int .u64 made]] (by rfl) rfl rfl (by (try simp only [List.map_toArray, List.map_cons, List.map_nil]); first | done | rfl) ?_
  with_reducible refine (ref_hRight_calls id key data fields made _).mono ?_
  rintro e w9 ⟨rfl, hb9⟩
  refine ⟨_, rfl, ?_⟩
  rw [HR.out]
  refine hK.out _ _ ⟨(pw_cell_below hb9 hHeld.1), (pw_cell_below hb9 hHeld.2.1), (pw_cell_below hb9 hHeld.2.2.1), (pw_cell_below hb9 hHeld.2.2.2.1), (pw_cell_below hb9 hHeld.2.2.2.2.1), (pw_cell_below hb9 hHeld.2.2.2.2.2.1), (pw_cell_below hb9 hHeld.2.2.2.2.2.2.1), (pw_cell_below hb9 hHeld.2.2.2.2.2.2.2.1), (pw_cell_below hb9 hHeld.2.2.2.2.2.2.2.2.1), (pw_cell_below hb9 hHeld.2.2.2.2.2.2.2.2.2)⟩ (fun hHeld => ?_)
  clear hK K
  refine norm_ (a' := ?_) ?_ ?_
  rotate_left
  · show Act.put _ (some 30) _ = _
    simp only [Act.put, List.setIfInBounds_toArray, List.set_cons_zero, List.set_cons_succ, i64_w, i32_w]
    rfl
  refine pure_ (i := 2) (N := some 31) (v := ?_) (a' := ?_) #[true, true, true, false, false, false, false, false, false, false, false, false, false, false, false, false, false, false] rfl rfl (by kernel_rfl) (fun _ _ _ h => h) (Or.inl ⟨by rfl, ?_⟩) ?_ ?_
  rotate_left
  · intro w'
    go_simp
    with_reducible rfl
  rotate_left
  · simp only [Act.put, List.setIfInBounds_toArray, List.set_cons_zero, List.set_cons_succ, i64_w, i32_w]
    rfl
  refine pure_ (i := 3) (N := some 32) (v := undef) (a' := ?_) #[true, true, true, true, false, false, false, false, false, false, false, false, false, false, false, false, false, false] rfl rfl (by kernel_rfl) (fun _ _ _ h => h) (Or.inr ⟨by rfl, rfl⟩) ?_ ?_
  rotate_left
  · simp only [Act.put, List.setIfInBounds_toArray, List.set_cons_zero, List.set_cons_succ, i64_w, i32_w]
    rfl
  refine pure_ (i := 4) (N := some 33) (v := undef) (a' := ?_) #[true, true, true, true, true, false, false, false, false, false, false, false, false, false, false, false, false, false] rfl rfl (by kernel_rfl) (fun _ _ _ h => h) (Or.inr ⟨by rfl, rfl⟩) ?_ ?_
  rotate_left
  · simp only [Act.put, List.setIfInBounds_toArray, List.set_cons_zero, List.set_cons_succ, i64_w, i32_w]
    rfl
  refine pure_ (i := 5) (N := some 34) (v := undef) (a' := ?_) #[true, true, true, true, true, true, false, false, false, false, false, false, false, false, false, false, false, false] rfl rfl (by kernel_rfl) (fun _ _ _ h => h) (Or.inr ⟨by rfl, rfl⟩) ?_ ?_
  rotate_left
  · simp only [Act.put, List.setIfInBounds_toArray, List.set_cons_zero, List.set_cons_succ, i64_w, i32_w]
    rfl
  refine pure_ (i := 6) (N := some 35) (v := undef) (a' := ?_) #[true, true, true, true, true, true, true, false, false, false, false, false, false, false, false, false, false, false] rfl rfl (by kernel_rfl) (fun _ _ _ h => h) (Or.inr ⟨by rfl, rfl⟩) ?_ ?_
  rotate_left
  · simp only [Act.put, List.setIfInBounds_toArray, List.set_cons_zero, List.set_cons_succ, i64_w, i32_w]
    rfl
  refine pure_ (i := 7) (N := some 36) (v := undef) (a' := ?_) #[true, true, true, true, true, true, true, true, false, false, false, false, false, false, false, false, false, false] rfl rfl (by kernel_rfl) (fun _ _ _ h => h) (Or.inr ⟨by rfl, rfl⟩) ?_ ?_
  rotate_left
  · simp only [Act.put, List.setIfInBounds_toArray, List.set_cons_zero, List.set_cons_succ, i64_w, i32_w]
    rfl
  refine pure_ (i := 8) (N := some 37) (v := undef) (a' := ?_) #[true, true, true, true, true, true, true, true, true, false, false, false, false, false, false, false, false, false] rfl rfl (by kernel_rfl) (fun _ _ _ h => h) (Or.inr ⟨by rfl, rfl⟩) ?_ ?_
  rotate_left
  · simp only [Act.put, List.setIfInBounds_toArray, List.set_cons_zero, List.set_cons_succ, i64_w, i32_w]
    rfl
  refine pure_ (i := 9) (N := some 38) (v := undef) (a' := ?_) #[true, true, true, true, true, true, true, true, true, true, false, false, false, false, false, false, false, false] rfl rfl (by kernel_rfl) (fun _ _ _ h => h) (Or.inr ⟨by rfl, rfl⟩) ?_ ?_
  rotate_left
  · simp only [Act.put, List.setIfInBounds_toArray, List.set_cons_zero, List.set_cons_succ, i64_w, i32_w]
    rfl
  refine pure_ (i := 10) (N := some 39) (v := undef) (a' := ?_) #[true, true, true, true, true, true, true, true, true, true, true, false, false, false, false, false, false, false] rfl rfl (by kernel_rfl) (fun _ _ _ h => h) (Or.inr ⟨by rfl, rfl⟩) ?_ ?_
  rotate_left
  · simp only [Act.put, List.setIfInBounds_toArray, List.set_cons_zero, List.set_cons_succ, i64_w, i32_w]
    rfl
  refine pure_ (i := 11) (N := some 40) (v := undef) (a' := ?_) #[true, true, true, true, true, true, true, true, true, true, true, true, false, false, false, false, false, false] rfl rfl (by kernel_rfl) (fun _ _ _ h => h) (Or.inr ⟨by rfl, rfl⟩) ?_ ?_
  rotate_left
  · simp only [Act.put, List.setIfInBounds_toArray, List.set_cons_zero, List.set_cons_succ, i64_w, i32_w]
    rfl
  refine pure_ (i := 12) (N := some 41) (v := undef) (a' := ?_) #[true, true, true, true, true, true, true, true, true, true, true, true, true, false, false, false, false, false] rfl rfl (by kernel_rfl) (fun _ _ _ h => h) (Or.inr ⟨by rfl, rfl⟩) ?_ ?_
  rotate_left
  · simp only [Act.put, List.setIfInBounds_toArray, List.set_cons_zero, List.set_cons_succ, i64_w, i32_w]
    rfl
  refine pure_ (i := 13) (N := some 42) (v := undef) (a' := ?_) #[true, true, true, true, true, true, true, true, true, true, true, true, true, true, false, false, false, false] rfl rfl (by kernel_rfl) (fun _ _ _ h => h) (Or.inr ⟨by rfl, rfl⟩) ?_ ?_
  rotate_left
  · simp only [Act.put, List.setIfInBounds_toArray, List.set_cons_zero, List.set_cons_succ, i64_w, i32_w]
    rfl
  refine pure_ (i := 14) (N := some 43) (v := undef) (a' := ?_) #[true, true, true, true, true, true, true, true, true, true, true, true, true, true, true, false, false, false] rfl rfl (by kernel_rfl) (fun _ _ _ h => h) (Or.inr ⟨by rfl, rfl⟩) ?_ ?_
  rotate_left
  · simp only [Act.put, List.setIfInBounds_toArray, List.set_cons_zero, List.set_cons_succ, i64_w, i32_w]
    rfl
  refine pure_ (i := 15) (N := some 44) (v := undef) (a' := ?_) #[true, true, true, true, true, true, true, true, true, true, true, true, true, true, true, true, false, false] rfl rfl (by kernel_rfl) (fun _ _ _ h => h) (Or.inr ⟨by rfl, rfl⟩) ?_ ?_
  rotate_left
  · simp only [Act.put, List.setIfInBounds_toArray, List.set_cons_zero, List.set_cons_succ, i64_w, i32_w]
    rfl
  refine pure_ (i := 16) (N := some 45) (v := undef) (a' := ?_) #[true, true, true, true, true, true, true, true, true, true, true, true, true, true, true, true, true, false] rfl rfl (by kernel_rfl) (fun _ _ _ h => h) (Or.inr ⟨by rfl, rfl⟩) ?_ ?_
  rotate_left
  · simp only [Act.put, List.setIfInBounds_toArray, List.set_cons_zero, List.set_cons_succ, i64_w, i32_w]
    rfl
  refine pure_ (i := 17) (N := some 46) (v := ?_) (a' := ?_) #[true, true, true, true, true, true, true, true, true, true, true, true, true, true, true, true, true, true] rfl rfl (by kernel_rfl) (fun _ _ _ h => h) (Or.inl ⟨by rfl, ?_⟩) ?_ ?_
  rotate_left
  · intro w'
    go_simp
    with_reducible rfl
  rotate_left
  · simp only [Act.put, List.setIfInBounds_toArray, List.set_cons_zero, List.set_cons_succ, i64_w, i32_w]
    rfl
  refine done_ (by kernel_rfl) ?_
  have HB12 := Aside0.mk (below_step (below_drew HB8.out) hb9)
  clear hb9 a0 a1 a2 a3 a4 c0 c1 c2 c3 c4
  have hmm : (64 * (1 + m) == 64 * (1 + m)) = true := by simp
  go_wp2_with fail
  refine (head_Slot_calls n _).mono ?_
  rintro e wz ⟨rfl, rfl⟩
  rw [HMM.out]
  go_wp2_with fail
  refine (head_awake_calls _).mono ?_
  rintro e w13 ⟨rfl, hb⟩
  have HB13 := Aside0.mk (below_step HB12.out hb)
  clear hb
  go_wp2_with fail
  go_ret
  exact ⟨rfl, HB13.out⟩

theorem HeadWrites_walk (id key data fields made n : Int) (w : World) (w0 : (Lit.int .u64 id).wf = true) (w1 : (Lit.int .u64 key).wf = true) (w2 : (Lit.int .u64 made).wf = true) (wn : (Lit.int .i64 n).wf = true) :
    Calls Try.prog 3 #[.agg #[.int .u64 id, .int .u64 key, .int .i64 data, .int .i64 fields, .int .u64 made], .int .i64 n] w fun e w' => e = .returned (.bool true) ∧ Below w.heap.size w w' := by
  have a := bounds_u64 w0
  have b := bounds_u64 w1
  have c := bounds_u64 w2
  have d := bounds_i64 wn
  cases hr : hR data fields
  · exact HeadWrites_no id key data fields made n w hr d.1 d.2 a.1 a.2 b.1 b.2 c.1 c.2
  · exact HeadWrites_yes id key data fields made n w hr d.1 d.2 a.1 a.2 b.1 b.2 c.1 c.2
end Go.Proofs.Ytdleajnecohacaa
