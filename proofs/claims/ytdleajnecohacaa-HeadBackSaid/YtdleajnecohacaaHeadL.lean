/- HeadReads, HeadBack: the walks. -/
import Derived.Test.YtdleajnecohacaaHeadR
namespace Go.Proofs.Ytdleajnecohacaa
open Go.RowKit Go.Proofs.YtdleajnecohacaaW.PrintWords Go.Proofs.YtdleajnecohacaaW.PrintLast Go.Proofs.YtdleajnecohacaaW.PrintMore
attribute [local go_sem] max2_int min2_int max_two min_two max_three min_three max_four min_four   -- for this text's walks alone
set_option linter.unusedVariables false
set_option linter.unusedSimpArgs false


theorem hdV_form (l : List Int) : ∃ id key data fields made b, hdV l = .tuple #[.agg #[.int .u64 id, .int .u64 key, .int .i64 data, .int .i64 fields, .int .u64 made], .bool b] := by
  unfold hdV
  split
  · exact ⟨_, _, _, _, _, _, rfl⟩
  · exact ⟨_, _, _, _, _, _, rfl⟩
set_option maxHeartbeats 8000000 in
set_option maxRecDepth 100000 in
theorem head_of_calls (id key data fields made : Int) (w : World) : Calls Try.prog 30 #[.agg #[.int .u64 id, .int .u64 key, .int .i64 data, .int .i64 fields, .int .u64 made]] w fun e w' => e = .returned (.agg #[.int .u64 id, .int .u64 key, .int .i64 data, .int .i64 fields, .int .u64 made]) ∧ Below w.heap.size w w' := by
  go_enter Try.func30, Try.ntmps30
  go_wp2
  exact bodyPost_ret (v := .agg #[.int .u64 id, .int .u64 key, .int .i64 data, .int .i64 fields, .int .u64 made]) (by simp [results, Try.results30, go_sem]) rfl ⟨rfl, below_alloc (below_alloc (Below.refl _ _) _) _⟩
set_option maxHeartbeats 8000000 in
set_option maxRecDepth 100000 in
theorem HeadReads_calls (v : Value) (l : List Int) (w : World) (hr : Rd w .u8 v l) (hb : isB l) :
    Calls Try.prog 4 #[v] w fun e w' => e = .returned (.bool true) ∧ Below w.heap.size w w' := by
  have HV := Aside0.mk hr
  have HIB := Aside0.mk hb
  obtain ⟨A, c, ev, hc, hm, hrd⟩ := hr.mid
  clear hr hb hrd
  subst ev
  by_cases c1 : 2000 < l.length
  · have c2 : (2000 : Int) < (l.length : Int) := by omega
    go_enter Try.func4, Try.ntmps4
    go_wp2_with fail
    refine (head_awake_calls _).mono ?_
    rintro e w1 ⟨rfl, hb⟩
    have HB1 := Aside0.mk hb
    clear hb
    go_wp2_with fail
    go_ret
    exact ⟨rfl, HB1.out⟩
  · obtain ⟨id, key, data, fields, made, b, hv⟩ := hdV_form l
    have HF := Aside0.mk hv
    clear hv
    go_enter Try.func4, Try.ntmps4
    go_wp2_with fail
    refine (crc_Make_calls _).mono ?_
    rintro e w1 ⟨rfl, hT, hb⟩
    have HB1 := Aside0.mk hb
    have HT1 := Aside0.mk hT
    clear hb hT
    go_wp2_with fail
    refine (head_Decode_calls _ l _ w.heap.size HT1.out (HV.out.below HB1.out) HIB.out (by omega)).mono ?_
    rintro e w2 ⟨rfl, hb⟩
    have HB2 := Aside0.mk (below_alloc (below_step HB1.out hb) (.cells #[.int .u64 id, .int .u64 key, .int .i64 data, .int .i64 fields, .int .u64 made] 27))
    have HA2 := Aside0.mk (blk_new w2 (.cells #[.int .u64 id, .int .u64 key, .int .i64 data, .int .i64 fields, .int .u64 made] 27))
    clear hb
    rw [HF.out]
    go_wp2_with fail
    refine (ref_hDecode_calls _ l _ (HV.out.below HB2.out) HIB.out (by omega)).mono ?_
    rintro e w3 ⟨rfl, hb⟩
    have HB3 := Aside0.mk (below_alloc (below_step HB2.out hb) (.cells #[.int .u64 id, .int .u64 key, .int .i64 data, .int .i64 fields, .int .u64 made] 24))
    have HA3 := Aside0.mk (blk_alloc (blk_below HA2.out hb) (.cells #[.int .u64 id, .int .u64 key, .int .i64 data, .int .i64 fields, .int .u64 made] 24))
    have HC3 := Aside0.mk (blk_new w3 (.cells #[.int .u64 id, .int .u64 key, .int .i64 data, .int .i64 fields, .int .u64 made] 24))
    clear hb
    rw [HF.out]
    have hbb : (b == b) = true := by simp
    go_wp2_with fail
    have a0 : (w3.alloc (.cells #[.int .u64 id, .int .u64 key, .int .i64 data, .int .i64 fields, .int .u64 made] 24)).cell? ⟨w2.heap.size, 0, none⟩ = some (.int .u64 id) := blk_cell HA3.out 0
    have a1 : (w3.alloc (.cells #[.int .u64 id, .int .u64 key, .int .i64 data, .int .i64 fields, .int .u64 made] 24)).cell? ⟨w2.heap.size, 1, none⟩ = some (.int .u64 key) := blk_cell HA3.out 1
    have a2 : (w3.alloc (.cells #[.int .u64 id, .int .u64 key, .int .i64 data, .int .i64 fields, .int .u64 made] 24)).cell? ⟨w2.heap.size, 2, none⟩ = some (.int .i64 data) := blk_cell HA3.out 2
    have a3 : (w3.alloc (.cells #[.int .u64 id, .int .u64 key, .int .i64 data, .int .i64 fields, .int .u64 made] 24)).cell? ⟨w2.heap.size, 3, none⟩ = some (.int .i64 fields) := blk_cell HA3.out 3
    have a4 : (w3.alloc (.cells #[.int .u64 id, .int .u64 key, .int .i64 data, .int .i64 fields, .int .u64 made] 24)).cell? ⟨w2.heap.size, 4, none⟩ = some (.int .u64 made) := blk_cell HA3.out 4
    have c0 : (w3.alloc (.cells #[.int .u64 id, .int .u64 key, .int .i64 data, .int .i64 fields, .int .u64 made] 24)).cell? ⟨w3.heap.size, 0, none⟩ = some (.int .u64 id) := blk_cell HC3.out 0
    have c1 : (w3.alloc (.cells #[.int .u64 id, .int .u64 key, .int .i64 data, .int .i64 fields, .int .u64 made] 24)).cell? ⟨w3.heap.size, 1, none⟩ = some (.int .u64 key) := blk_cell HC3.out 1
    have c2 : (w3.alloc (.cells #[.int .u64 id, .int .u64 key, .int .i64 data, .int .i64 fields, .int .u64 made] 24)).cell? ⟨w3.heap.size, 2, none⟩ = some (.int .i64 data) := blk_cell HC3.out 2
    have c3 : (w3.alloc (.cells #[.int .u64 id, .int .u64 key, .int .i64 data, .int .i64 fields, .int .u64 made] 24)).cell? ⟨w3.heap.size, 3, none⟩ = some (.int .i64 fields) := blk_cell HC3.out 3
    have c4 : (w3.alloc (.cells #[.int .u64 id, .int .u64 key, .int .i64 data, .int .i64 fields, .int .u64 made] 24)).cell? ⟨w3.heap.size, 4, none⟩ = some (.int .u64 made) := blk_cell HC3.out 4
    refine start_ (n := 13) (S := fun w' => w'.cell? ⟨w2.heap.size, 0, none⟩ = some (.int .u64 id) ∧ w'.cell? ⟨w2.heap.size, 1, none⟩ = some (.int .u64 key) ∧ w'.cell? ⟨w2.heap.size, 2, none⟩ = some (.int .i64 data) ∧ w'.cell? ⟨w2.heap.size, 3, none⟩ = some (.int .i64 fields) ∧ w'.cell? ⟨w2.heap.size, 4, none⟩ = some (.int .u64 made) ∧ w'.cell? ⟨w3.heap.size, 0, none⟩ = some (.int .u64 id) ∧ w'.cell? ⟨w3.heap.size, 1, none⟩ = some (.int .u64 key) ∧ w'.cell? ⟨w3.heap.size, 2, none⟩ = some (.int .i64 data) ∧ w'.cell? ⟨w3.heap.size, 3, none⟩ = some (.int .i64 fields) ∧ w'.cell? ⟨w3.heap.size, 4, none⟩ = some (.int .u64 made)) (ds := []) #[false, false, false, false, false, false, false, false, false, false, false, false, false] (by kernel_rfl) rfl rfl ⟨a0, a1, a2, a3, a4, c0, c1, c2, c3, c4⟩ (fun hHeld => ?_)
    refine take_ (i := 0) (N := some 22) (v := ?_) (a' := ?_) #[true, false, false, false, false, false, false, false, false, false, false, false, false] rfl rfl (by kernel_rfl) (fun _ _ _ h => h) (Or.inl ⟨by rfl, ?_⟩) hHeld ?_ ?_
    rotate_left
    · rintro w' ⟨s0, s1, s2, s3, s4, s5, s6, s7, s8, s9⟩
      go_simp
      with_reducible rfl
    rotate_left
    · simp only [Act.put, List.setIfInBounds_toArray, List.set_cons_zero, List.set_cons_succ, i64_w, i32_w]
      rfl
    refine take_ (i := 2) (N := some 24) (v := ?_) (a' := ?_) #[true, false, true, false, false, false, false, false, false, false, false, false, false] rfl rfl (by kernel_rfl) (fun _ _ _ h => h) (Or.inl ⟨by rfl, ?_⟩) hHeld ?_ ?_
    rotate_left
    · rintro w' ⟨s0, s1, s2, s3, s4, s5, s6, s7, s8, s9⟩
      go_simp
      with_reducible rfl
    rotate_left
    · simp only [Act.put, List.setIfInBounds_toArray, List.set_cons_zero, List.set_cons_succ, i64_w, i32_w]
      rfl
    refine one_ (i := 1) (N := some 23) #[true, true, true, false, false, false, false, false, false, false, false, false, false] rfl rfl (by kernel_rfl) (by decide) (fun K hK => ?_)
    refine goes_ Try.func30 (by kernel_rfl) rfl #[.agg #[.int .u64 id, .int .u64 key, .int .i64 data, .int .i64 fields, .int .u64 made]] (by rfl) rfl rfl (by (try simp only [List.map_toArray, List.map_cons, List.map_nil]); first | done | rfl) ?_
    with_reducible refine (head_of_calls id key data fields made _).mono ?_
    rintro e w4 ⟨rfl, hb4⟩
    refine ⟨_, rfl, ?_⟩
    refine hK.out _ _ ⟨(pw_cell_below hb4 hHeld.1), (pw_cell_below hb4 hHeld.2.1), (pw_cell_below hb4 hHeld.2.2.1), (pw_cell_below hb4 hHeld.2.2.2.1), (pw_cell_below hb4 hHeld.2.2.2.2.1), (pw_cell_below hb4 hHeld.2.2.2.2.2.1), (pw_cell_below hb4 hHeld.2.2.2.2.2.2.1), (pw_cell_below hb4 hHeld.2.2.2.2.2.2.2.1), (pw_cell_below hb4 hHeld.2.2.2.2.2.2.2.2.1), (pw_cell_below hb4 hHeld.2.2.2.2.2.2.2.2.2)⟩ (fun hHeld => ?_)
    clear hK K
    refine norm_ (a' := ?_) ?_ ?_
    rotate_left
    · show Act.put _ (some 23) _ = _
      simp only [Act.put, List.setIfInBounds_toArray, List.set_cons_zero, List.set_cons_succ, i64_w, i32_w]
      rfl
    refine pure_ (i := 3) (N := some 25) (v := ?_) (a' := ?_) #[true, true, true, true, false, false, false, false, false, false, false, false, false] rfl rfl (by kernel_rfl) (fun _ _ _ h => h) (Or.inl ⟨by rfl, ?_⟩) ?_ ?_
    rotate_left
    · intro w'
      go_simp
      with_reducible rfl
    rotate_left
    · simp only [Act.put, List.setIfInBounds_toArray, List.set_cons_zero, List.set_cons_succ, i64_w, i32_w]
      rfl
    refine pure_ (i := 4) (N := some 26) (v := ?_) (a' := ?_) #[true, true, true, true, true, false, false, false, false, false, false, false, false] rfl rfl (by kernel_rfl) (fun _ _ _ h => h) (Or.inl ⟨by rfl, ?_⟩) ?_ ?_
    rotate_left
    · intro w'
      go_simp
      with_reducible rfl
    rotate_left
    · simp only [Act.put, List.setIfInBounds_toArray, List.set_cons_zero, List.set_cons_succ, i64_w, i32_w]
      rfl
    refine pure_ (i := 5) (N := some 27) (v := ?_) (a' := ?_) #[true, true, true, true, true, true, false, false, false, false, false, false, false] rfl rfl (by kernel_rfl) (fun _ _ _ h => h) (Or.inl ⟨by rfl, ?_⟩) ?_ ?_
    rotate_left
    · intro w'
      go_simp
      with_reducible rfl
    rotate_left
    · simp only [Act.put, List.setIfInBounds_toArray, List.set_cons_zero, List.set_cons_succ, i64_w, i32_w]
      rfl
    refine pure_ (i := 6) (N := some 28) (v := ?_) (a' := ?_) #[true, true, true, true, true, true, true, false, false, false, false, false, false] rfl rfl (by kernel_rfl) (fun _ _ _ h => h) (Or.inl ⟨by rfl, ?_⟩) ?_ ?_
    rotate_left
    · intro w'
      go_simp
      with_reducible rfl
    rotate_left
    · simp only [Act.put, List.setIfInBounds_toArray, List.set_cons_zero, List.set_cons_succ, i64_w, i32_w]
      rfl
    refine pure_ (i := 7) (N := some 29) (v := ?_) (a' := ?_) #[true, true, true, true, true, true, true, true, false, false, false, false, false] rfl rfl (by kernel_rfl) (fun _ _ _ h => h) (Or.inl ⟨by rfl, ?_⟩) ?_ ?_
    rotate_left
    · intro w'
      go_simp
      with_reducible rfl
    rotate_left
    · simp only [Act.put, List.setIfInBounds_toArray, List.set_cons_zero, List.set_cons_succ, i64_w, i32_w]
      rfl
    refine pure_ (i := 8) (N := some 30) (v := ?_) (a' := ?_) #[true, true, true, true, true, true, true, true, true, false, false, false, false] rfl rfl (by kernel_rfl) (fun _ _ _ h => h) (Or.inl ⟨by rfl, ?_⟩) ?_ ?_
    rotate_left
    · intro w'
      go_simp
      with_reducible rfl
    rotate_left
    · simp only [Act.put, List.setIfInBounds_toArray, List.set_cons_zero, List.set_cons_succ, i64_w, i32_w]
      rfl
    refine pure_ (i := 9) (N := some 31) (v := ?_) (a' := ?_) #[true, true, true, true, true, true, true, true, true, true, false, false, false] rfl rfl (by kernel_rfl) (fun _ _ _ h => h) (Or.inl ⟨by rfl, ?_⟩) ?_ ?_
    rotate_left
    · intro w'
      go_simp
      with_reducible rfl
    rotate_left
    · simp only [Act.put, List.setIfInBounds_toArray, List.set_cons_zero, List.set_cons_succ, i64_w, i32_w]
      rfl
    refine one_ (i := 10) (N := some 32) #[true, true, true, true, true, true, true, true, true, true, true, false, false] rfl rfl (by kernel_rfl) (by decide) (fun K hK => ?_)
    refine goes_ Try.func27 (by kernel_rfl) rfl #[] (by rfl) rfl rfl (by (try simp only [List.map_toArray, List.map_cons, List.map_nil]); first | done | rfl) ?_
    with_reducible refine (head_awake_calls _).mono ?_
    rintro e w5 ⟨rfl, hb5⟩
    refine ⟨_, rfl, ?_⟩
    refine hK.out _ _ ⟨(pw_cell_below hb5 hHeld.1), (pw_cell_below hb5 hHeld.2.1), (pw_cell_below hb5 hHeld.2.2.1), (pw_cell_below hb5 hHeld.2.2.2.1), (pw_cell_below hb5 hHeld.2.2.2.2.1), (pw_cell_below hb5 hHeld.2.2.2.2.2.1), (pw_cell_below hb5 hHeld.2.2.2.2.2.2.1), (pw_cell_below hb5 hHeld.2.2.2.2.2.2.2.1), (pw_cell_below hb5 hHeld.2.2.2.2.2.2.2.2.1), (pw_cell_below hb5 hHeld.2.2.2.2.2.2.2.2.2)⟩ (fun hHeld => ?_)
    clear hK K
    refine norm_ (a' := ?_) ?_ ?_
    rotate_left
    · show Act.put _ (some 32) _ = _
      simp only [Act.put, List.setIfInBounds_toArray, List.set_cons_zero, List.set_cons_succ, i64_w, i32_w]
      rfl
    refine pure_ (i := 11) (N := some 33) (v := ?_) (a' := ?_) #[true, true, true, true, true, true, true, true, true, true, true, true, false] rfl rfl (by kernel_rfl) (fun _ _ _ h => h) (Or.inl ⟨by rfl, ?_⟩) ?_ ?_
    rotate_left
    · intro w'
      go_simp
      with_reducible rfl
    rotate_left
    · simp only [Act.put, List.setIfInBounds_toArray, List.set_cons_zero, List.set_cons_succ, i64_w, i32_w]
      rfl
    refine pure_ (i := 12) (N := some 2) (v := ?_) (a' := ?_) #[true, true, true, true, true, true, true, true, true, true, true, true, true] rfl rfl (by kernel_rfl) (fun _ _ _ h => h) (Or.inl ⟨by rfl, ?_⟩) ?_ ?_
    rotate_left
    · intro w'
      go_simp
      with_reducible rfl
    rotate_left
    · simp only [Act.put, List.setIfInBounds_toArray, List.set_cons_zero, List.set_cons_succ, i64_w, i32_w]
      rfl
    refine done_ (by kernel_rfl) ?_
    have HB5 := Aside0.mk (below_step (below_step (below_drew HB3.out) hb4) hb5)
    clear hb4 hb5
    go_wp2_with fail
    go_ret
    exact ⟨rfl, HB5.out⟩
theorem getN_front (x y : List Int) (a : Nat) (h : a + 8 ≤ x.length) : getN (x ++ y) a 8 = getN x a 8 := by
  have h1 : fitsB (x ++ y).length a 8 = true := fits_ok ⟨by omega, by omega, by rw [List.length_append]; omega, by rw [List.length_append]; omega⟩
  have h2 : fitsB x.length a 8 = true := fits_ok ⟨by omega, by omega, by omega, by omega⟩
  rw [getN, getN, if_pos h1, if_pos h2, List.drop_append, show (8 : Int).toNat = 8 from rfl, List.take_append_of_le_length (by rw [List.length_drop]; omega)]
theorem getN_enc (pre ws r : List Int) (hw : isW ws) (i : Nat) (hi : i < ws.length) (a x : Int) (ha : a = (pre.length : Int) + 8 * (i : Int)) (hx : ws.getD i 0 = x) : getN (encZ pre ws ++ r) a 8 = x := by
  have ha2 : a = ((pre.length + 8 * i : Nat) : Int) := by omega
  have h3 := getN_words pre ws hw i hi
  rw [← ha, hx] at h3
  rw [ha2] at h3 ⊢
  rw [getN_front _ _ _ (by rw [encZ, List.length_append, encC_len]; omega), encZ, getN_front _ _ _ (by rw [encC_len]; omega), encC, getN_front _ _ _ (by rw [encB_len]; omega)]
  exact h3
theorem hd_of {X : List Int} {id key data fields made : Int} (h64 : 64 ≤ X.length) (g0 : getN X 8 8 = id) (g1 : getN X 16 8 = key) (g2 : getN X 24 8 = data) (g3 : getN X 32 8 = fields) (g4 : getN X 40 8 = made) (hr : hR data fields = true) (ht : encZ magicL [id, key, data, fields, made] = X.take 64) : hdV X = .tuple #[.agg #[.int .u64 id, .int .u64 key, .int .i64 data, .int .i64 fields, .int .u64 made], .bool true] := by
  have hok : hdOk X = true := by rw [hdOk, g0, g1, g2, g3, g4, hr, decide_eq_true h64, decide_eq_true ht]; rfl
  rw [hdV, if_pos hok, hdA, g0, g1, g2, g3, g4]
theorem hd_back (id key data fields made : Int) (r : List Int) (hr : hR data fields = true) (hw : isW [id, key, data, fields, made]) : hdV (encZ magicL [id, key, data, fields, made] ++ r) = .tuple #[.agg #[.int .u64 id, .int .u64 key, .int .i64 data, .int .i64 fields, .int .u64 made], .bool true] := by
  have hm : magicL.length = 8 := rfl
  have hl : (encZ magicL [id, key, data, fields, made]).length = 64 := by rw [encZ, List.length_append, encC_len, hm, List.length_replicate]; rfl
  have g := fun i hi a x => getN_enc magicL [id, key, data, fields, made] r hw i hi a x
  rw [hm] at g
  refine hd_of (by rw [List.length_append]; omega) (g 0 (by simp) 8 _ (by omega) rfl) (g 1 (by simp) 16 _ (by omega) rfl) (g 2 (by simp) 24 _ (by omega) rfl) (g 3 (by simp) 32 _ (by omega) rfl) (g 4 (by simp) 40 _ (by omega) rfl) hr ?_
  rw [← hl]
  exact List.take_left.symm
set_option maxHeartbeats 8000000 in
set_option maxRecDepth 100000 in
theorem HeadBack_calls (id key data fields made : Int) (v : Value) (l : List Int) (w : World) (hr : Rd w .u8 v l) (hb : isB l) (id0 : 0 ≤ id) (id1 : id ≤ 18446744073709551615) (key0 : 0 ≤ key) (key1 : key ≤ 18446744073709551615) (made0 : 0 ≤ made) (made1 : made ≤ 18446744073709551615) :
    Calls Try.prog 5 #[.agg #[.int .u64 id, .int .u64 key, .int .i64 data, .int .i64 fields, .int .u64 made], v] w fun e w' => e = .returned (.bool true) ∧ Below w.heap.size w w' := by
  have HV := Aside0.mk hr
  have HIB := Aside0.mk hb
  obtain ⟨A, c, ev, hc, hm, hrd⟩ := hr.mid
  clear hr hb hrd
  subst ev
  have HX0 := Aside0.mk (blk_new w (.cells #[.int .u64 id, .int .u64 key, .int .i64 data, .int .i64 fields, .int .u64 made] 24))
  cases hh : hR data fields with
  | false =>
    have HH := Aside0.mk hh
    clear hh
    go_enter Try.func5, Try.ntmps5
    go_wp2_with fail
    refine (ref_hRight_calls id key data fields made _).mono ?_
    rintro e w1 ⟨rfl, hb⟩
    have HB1 := Aside0.mk (below_step (below_alloc (Below.refl _ _) (.cells #[.int .u64 id, .int .u64 key, .int .i64 data, .int .i64 fields, .int .u64 made] 24)) hb)
    clear hb
    rw [HH.out]
    go_wp2_with fail
    refine (head_awake_calls _).mono ?_
    rintro e w2 ⟨rfl, hb⟩
    have HB2 := Aside0.mk (below_step HB1.out hb)
    clear hb
    go_wp2_with fail
    go_ret
    exact ⟨rfl, HB2.out⟩
  | true =>
    have hd : 1 ≤ data ∧ data ≤ 256 ∧ 1 ≤ fields ∧ fields ≤ 256 := by simpa [hR, and_assoc] using hh
    obtain ⟨d0, d1, f0, f1⟩ := hd
    have HH := Aside0.mk hh
    have HW := Aside0.mk (show isW [id, key, data, fields, made] by intro x hx; simp only [List.mem_cons, List.not_mem_nil, or_false] at hx; rcases hx with rfl | rfl | rfl | rfl | rfl <;> omega)
    have HBK := Aside0.mk (hd_back id key data fields made l hh HW.out)
    clear hh
    go_enter Try.func5, Try.ntmps5
    go_wp2_with fail
    refine (ref_hRight_calls id key data fields made _).mono ?_
    rintro e w1 ⟨rfl, hb⟩
    have HB1 := Aside0.mk (below_step (below_alloc (Below.refl _ _) (.cells #[.int .u64 id, .int .u64 key, .int .i64 data, .int .i64 fields, .int .u64 made] 24)) hb)
    have HX1 := Aside0.mk (blk_below HX0.out hb)
    clear hb
    rw [HH.out]
    by_cases c1 : 300 < l.length
    · have c2 : (300 : Int) < (l.length : Int) := by omega
      go_wp2_with fail
      refine (head_awake_calls _).mono ?_
      rintro e w2 ⟨rfl, hb⟩
      have HB2 := Aside0.mk (below_step HB1.out hb)
      clear hb
      go_wp2_with fail
      go_ret
      exact ⟨rfl, HB2.out⟩
    · go_wp2_with fail
      refine (crc_Make_calls _).mono ?_
      rintro e w2 ⟨rfl, hT, hb⟩
      have HB2 := Aside0.mk (below_step HB1.out hb)
      have HT2 := Aside0.mk hT
      have HX2 := Aside0.mk (blk_below HX1.out hb)
      clear hb hT
      have h0 := HX2.out
      have a0 : (w2).cell? ⟨w.heap.size, 0, none⟩ = some (.int .u64 id) := blk_cell h0 0
      have a1 : (w2).cell? ⟨w.heap.size, 1, none⟩ = some (.int .u64 key) := blk_cell h0 1
      have a2 : (w2).cell? ⟨w.heap.size, 2, none⟩ = some (.int .i64 data) := blk_cell h0 2
      have a3 : (w2).cell? ⟨w.heap.size, 3, none⟩ = some (.int .i64 fields) := blk_cell h0 3
      have a4 : (w2).cell? ⟨w.heap.size, 4, none⟩ = some (.int .u64 made) := blk_cell h0 4
      clear h0
      go_wp2_with fail
      refine (head_to_calls id key data fields made _).mono ?_
      rintro e w3 ⟨rfl, hb⟩
      have HB3 := Aside0.mk (below_step HB2.out hb)
      have HT3 := Aside0.mk (HT2.out.below hb)
      have HX3 := Aside0.mk (blk_below HX2.out hb)
      clear hb a0 a1 a2 a3 a4
      go_wp2_with fail
      refine (head_Encode_yes id key data fields made _ w1.heap.size HT3.out HH.out id0 id1 key0 key1 (by omega) d1 (by omega) f1 made0 made1).mono ?_
      rintro e w4 ⟨v4, rfl, ho, hb⟩
      have HB4 := Aside0.mk (below_step HB3.out hb)
      have hT4 := HT3.out.below hb
      have hX4 := blk_below HX3.out hb
      obtain ⟨A5, c5, w5, hrun5, hO5, hg5, hat5⟩ := app8 ho (HV.out.below HB4.out) hb.size (by simp [encZ, encC_len, magicL]; omega)
      have HB5 := Aside0.mk (Kp.from HB4.out (Kp.of_grown hg5) (fun k hk => by have := ho.ge hk; have := HB3.out.size; omega))
      have HT5 := Aside0.mk (show CrcT w5 w1.heap.size from blk_grown hT4 hg5 (fun e => ho.ne hT4 (by decide) e.symm))
      have HX5 := Aside0.mk (blk_grown hX4 hg5 (fun e => ho.ne hX4 (by decide) e.symm))
      obtain ⟨m, hm2⟩ : ∃ m, (encZ magicL [id, key, data, fields, made] ++ l).length = m := ⟨_, rfl⟩
      have HO5 := Aside0.mk (Own.rd hO5)
      have HLEN := Aside0.mk (show (encZ magicL [id, key, data, fields, made] ++ l).length ≤ 100000 by simp [encZ, encC_len, magicL]; omega)
      rw [hm2] at hrun5 HO5
      have HR5 := Aside0.mk hrun5
      clear ho hb hT4 hX4 hrun5 hO5 hg5 hat5 hm2
      go_wp2_with (first | ((with_reducible refine gate_builtin (b := .append) (xs := #[.tmp 23, .tmp 24]) rfl ?_); at_builtin; refine app_list rfl (.tmp 23) (.tmp 24) rfl rfl rfl HR5.out ?_))
      refine (head_Decode_calls _ (encZ magicL [id, key, data, fields, made] ++ l) _ w1.heap.size HT5.out HO5.out ((encZ_isB magic_isB _).app HIB.out) HLEN.out).mono ?_
      rintro e w6 ⟨rfl, hb⟩
      have HB6 := Aside0.mk (below_alloc (below_step HB5.out hb) (.cells #[.int .u64 id, .int .u64 key, .int .i64 data, .int .i64 fields, .int .u64 made] 27))
      have HA6 := Aside0.mk (blk_new w6 (.cells #[.int .u64 id, .int .u64 key, .int .i64 data, .int .i64 fields, .int .u64 made] 27))
      have HX6 := Aside0.mk (blk_alloc (blk_below HX5.out hb) (.cells #[.int .u64 id, .int .u64 key, .int .i64 data, .int .i64 fields, .int .u64 made] 27))
      clear hb
      rw [HBK.out]
      go_wp2_with fail
      have a0 : (w6.alloc (.cells #[.int .u64 id, .int .u64 key, .int .i64 data, .int .i64 fields, .int .u64 made] 27)).cell? ⟨w6.heap.size, 0, none⟩ = some (.int .u64 id) := blk_cell HA6.out 0
      have a1 : (w6.alloc (.cells #[.int .u64 id, .int .u64 key, .int .i64 data, .int .i64 fields, .int .u64 made] 27)).cell? ⟨w6.heap.size, 1, none⟩ = some (.int .u64 key) := blk_cell HA6.out 1
      have a2 : (w6.alloc (.cells #[.int .u64 id, .int .u64 key, .int .i64 data, .int .i64 fields, .int .u64 made] 27)).cell? ⟨w6.heap.size, 2, none⟩ = some (.int .i64 data) := blk_cell HA6.out 2
      have a3 : (w6.alloc (.cells #[.int .u64 id, .int .u64 key, .int .i64 data, .int .i64 fields, .int .u64 made] 27)).cell? ⟨w6.heap.size, 3, none⟩ = some (.int .i64 fields) := blk_cell HA6.out 3
      have a4 : (w6.alloc (.cells #[.int .u64 id, .int .u64 key, .int .i64 data, .int .i64 fields, .int .u64 made] 27)).cell? ⟨w6.heap.size, 4, none⟩ = some (.int .u64 made) := blk_cell HA6.out 4
      have c0 : (w6.alloc (.cells #[.int .u64 id, .int .u64 key, .int .i64 data, .int .i64 fields, .int .u64 made] 27)).cell? ⟨w.heap.size, 0, none⟩ = some (.int .u64 id) := blk_cell HX6.out 0
      have c1 : (w6.alloc (.cells #[.int .u64 id, .int .u64 key, .int .i64 data, .int .i64 fields, .int .u64 made] 27)).cell? ⟨w.heap.size, 1, none⟩ = some (.int .u64 key) := blk_cell HX6.out 1
      have c2 : (w6.alloc (.cells #[.int .u64 id, .int .u64 key, .int .i64 data, .int .i64 fields, .int .u64 made] 27)).cell? ⟨w.heap.size, 2, none⟩ = some (.int .i64 data) := blk_cell HX6.out 2
      have c3 : (w6.alloc (.cells #[.int .u64 id, .int .u64 key, .int .i64 data, .int .i64 fields, .int .u64 made] 27)).cell? ⟨w.heap.size, 3, none⟩ = some (.int .i64 fields) := blk_cell HX6.out 3
      have c4 : (w6.alloc (.cells #[.int .u64 id, .int .u64 key, .int .i64 data, .int .i64 fields, .int .u64 made] 27)).cell? ⟨w.heap.size, 4, none⟩ = some (.int .u64 made) := blk_cell HX6.out 4
      refine start_ (n := 11) (S := fun w' => w'.cell? ⟨w6.heap.size, 0, none⟩ = some (.int .u64 id) ∧ w'.cell? ⟨w6.heap.size, 1, none⟩ = some (.int .u64 key) ∧ w'.cell? ⟨w6.heap.size, 2, none⟩ = some (.int .i64 data) ∧ w'.cell? ⟨w6.heap.size, 3, none⟩ = some (.int .i64 fields) ∧ w'.cell? ⟨w6.heap.size, 4, none⟩ = some (.int .u64 made) ∧ w'.cell? ⟨w.heap.size, 0, none⟩ = some (.int .u64 id) ∧ w'.cell? ⟨w.heap.size, 1, none⟩ = some (.int .u64 key) ∧ w'.cell? ⟨w.heap.size, 2, none⟩ = some (.int .i64 data) ∧ w'.cell? ⟨w.heap.size, 3, none⟩ = some (.int .i64 fields) ∧ w'.cell? ⟨w.heap.size, 4, none⟩ = some (.int .u64 made)) (ds := []) #[false, false, false, false, false, false, false, false, false, false, false] (by kernel_rfl) rfl rfl ⟨a0, a1, a2, a3, a4, c0, c1, c2, c3, c4⟩ (fun hHeld => ?_)
      refine pure_ (i := 0) (N := some 29) (v := ?_) (a' := ?_) #[true, false, false, false, false, false, false, false, false, false, false] rfl rfl (by kernel_rfl) (fun _ _ _ h => h) (Or.inl ⟨by rfl, ?_⟩) ?_ ?_
      rotate_left
      · intro w'
        go_simp
        with_reducible rfl
      rotate_left
      · simp only [Act.put, List.setIfInBounds_toArray, List.set_cons_zero, List.set_cons_succ, i64_w, i32_w]
        rfl
      refine pure_ (i := 1) (N := some 30) (v := ?_) (a' := ?_) #[true, true, false, false, false, false, false, false, false, false, false] rfl rfl (by kernel_rfl) (fun _ _ _ h => h) (Or.inl ⟨by rfl, ?_⟩) ?_ ?_
      rotate_left
      · intro w'
        go_simp
        with_reducible rfl
      rotate_left
      · simp only [Act.put, List.setIfInBounds_toArray, List.set_cons_zero, List.set_cons_succ, i64_w, i32_w]
        rfl
      refine take_ (i := 2) (N := some 31) (v := ?_) (a' := ?_) #[true, true, true, false, false, false, false, false, false, false, false] rfl rfl (by kernel_rfl) (fun _ _ _ h => h) (Or.inl ⟨by rfl, ?_⟩) hHeld ?_ ?_
      rotate_left
      · rintro w' ⟨s0, s1, s2, s3, s4, s5, s6, s7, s8, s9⟩
        go_simp
        with_reducible rfl
      rotate_left
      · simp only [Act.put, List.setIfInBounds_toArray, List.set_cons_zero, List.set_cons_succ, i64_w, i32_w]
        rfl
      refine take_ (i := 4) (N := some 33) (v := ?_) (a' := ?_) #[true, true, true, false, true, false, false, false, false, false, false] rfl rfl (by kernel_rfl) (fun _ _ _ h => h) (Or.inl ⟨by rfl, ?_⟩) hHeld ?_ ?_
      rotate_left
      · rintro w' ⟨s0, s1, s2, s3, s4, s5, s6, s7, s8, s9⟩
        go_simp
        with_reducible rfl
      rotate_left
      · simp only [Act.put, List.setIfInBounds_toArray, List.set_cons_zero, List.set_cons_succ, i64_w, i32_w]
        rfl
      refine one_ (i := 3) (N := some 32) #[true, true, true, true, true, false, false, false, false, false, false] rfl rfl (by kernel_rfl) (by decide) (fun K hK => ?_)
      refine goes_ Try.func30 (by kernel_rfl) rfl #[.agg #[.int .u64 id, .int .u64 key, .int .i64 data, .int .i64 fields, .int .u64 made]] (by rfl) rfl rfl (by (try simp only [List.map_toArray, List.map_cons, List.map_nil]); first | done | rfl) ?_
      with_reducible refine (head_of_calls id key data fields made _).mono ?_
      rintro e w7 ⟨rfl, hb7⟩
      refine ⟨_, rfl, ?_⟩
      refine hK.out _ _ ⟨(pw_cell_below hb7 hHeld.1), (pw_cell_below hb7 hHeld.2.1), (pw_cell_below hb7 hHeld.2.2.1), (pw_cell_below hb7 hHeld.2.2.2.1), (pw_cell_below hb7 hHeld.2.2.2.2.1), (pw_cell_below hb7 hHeld.2.2.2.2.2.1), (pw_cell_below hb7 hHeld.2.2.2.2.2.2.1), (pw_cell_below hb7 hHeld.2.2.2.2.2.2.2.1), (pw_cell_below hb7 hHeld.2.2.2.2.2.2.2.2.1), (pw_cell_below hb7 hHeld.2.2.2.2.2.2.2.2.2)⟩ (fun hHeld => ?_)
      clear hK K
      refine norm_ (a' := ?_) ?_ ?_
      rotate_left
      · show Act.put _ (some 32) _ = _
        simp only [Act.put, List.setIfInBounds_toArray, List.set_cons_zero, List.set_cons_succ, i64_w, i32_w]
        rfl
      refine pure_ (i := 5) (N := some 34) (v := ?_) (a' := ?_) #[true, true, true, true, true, true, false, false, false, false, false] rfl rfl (by kernel_rfl) (fun _ _ _ h => h) (Or.inl ⟨by rfl, ?_⟩) ?_ ?_
      rotate_left
      · intro w'
        go_simp
        with_reducible rfl
      rotate_left
      · simp only [Act.put, List.setIfInBounds_toArray, List.set_cons_zero, List.set_cons_succ, i64_w, i32_w]
        rfl
      refine pure_ (i := 6) (N := some 35) (v := ?_) (a' := ?_) #[true, true, true, true, true, true, true, false, false, false, false] rfl rfl (by kernel_rfl) (fun _ _ _ h => h) (Or.inl ⟨by rfl, ?_⟩) ?_ ?_
      rotate_left
      · intro w'
        go_simp
        with_reducible rfl
      rotate_left
      · simp only [Act.put, List.setIfInBounds_toArray, List.set_cons_zero, List.set_cons_succ, i64_w, i32_w]
        rfl
      refine pure_ (i := 7) (N := some 36) (v := ?_) (a' := ?_) #[true, true, true, true, true, true, true, true, false, false, false] rfl rfl (by kernel_rfl) (fun _ _ _ h => h) (Or.inl ⟨by rfl, ?_⟩) ?_ ?_
      rotate_left
      · intro w'
        go_simp
        with_reducible rfl
      rotate_left
      · simp only [Act.put, List.setIfInBounds_toArray, List.set_cons_zero, List.set_cons_succ, i64_w, i32_w]
        rfl
      refine one_ (i := 8) (N := some 37) #[true, true, true, true, true, true, true, true, true, false, false] rfl rfl (by kernel_rfl) (by decide) (fun K hK => ?_)
      refine goes_ Try.func27 (by kernel_rfl) rfl #[] (by rfl) rfl rfl (by (try simp only [List.map_toArray, List.map_cons, List.map_nil]); first | done | rfl) ?_
      with_reducible refine (head_awake_calls _).mono ?_
      rintro e w8 ⟨rfl, hb8⟩
      refine ⟨_, rfl, ?_⟩
      refine hK.out _ _ ⟨(pw_cell_below hb8 hHeld.1), (pw_cell_below hb8 hHeld.2.1), (pw_cell_below hb8 hHeld.2.2.1), (pw_cell_below hb8 hHeld.2.2.2.1), (pw_cell_below hb8 hHeld.2.2.2.2.1), (pw_cell_below hb8 hHeld.2.2.2.2.2.1), (pw_cell_below hb8 hHeld.2.2.2.2.2.2.1), (pw_cell_below hb8 hHeld.2.2.2.2.2.2.2.1), (pw_cell_below hb8 hHeld.2.2.2.2.2.2.2.2.1), (pw_cell_below hb8 hHeld.2.2.2.2.2.2.2.2.2)⟩ (fun hHeld => ?_)
      clear hK K
      refine norm_ (a' := ?_) ?_ ?_
      rotate_left
      · show Act.put _ (some 37) _ = _
        simp only [Act.put, List.setIfInBounds_toArray, List.set_cons_zero, List.set_cons_succ, i64_w, i32_w]
        rfl
      refine pure_ (i := 9) (N := some 38) (v := ?_) (a' := ?_) #[true, true, true, true, true, true, true, true, true, true, false] rfl rfl (by kernel_rfl) (fun _ _ _ h => h) (Or.inl ⟨by rfl, ?_⟩) ?_ ?_
      rotate_left
      · intro w'
        go_simp
        with_reducible rfl
      rotate_left
      · simp only [Act.put, List.setIfInBounds_toArray, List.set_cons_zero, List.set_cons_succ, i64_w, i32_w]
        rfl
      refine pure_ (i := 10) (N := some 4) (v := ?_) (a' := ?_) #[true, true, true, true, true, true, true, true, true, true, true] rfl rfl (by kernel_rfl) (fun _ _ _ h => h) (Or.inl ⟨by rfl, ?_⟩) ?_ ?_
      rotate_left
      · intro w'
        go_simp
        with_reducible rfl
      rotate_left
      · simp only [Act.put, List.setIfInBounds_toArray, List.set_cons_zero, List.set_cons_succ, i64_w, i32_w]
        rfl
      refine done_ (by kernel_rfl) ?_
      have HB8 := Aside0.mk (below_step (below_step (below_drew HB6.out) hb7) hb8)
      clear hb7 hb8
      go_wp2_with fail
      go_ret
      exact ⟨rfl, HB8.out⟩
theorem HeadReads_walk (a0 : Option Addr) (len0 cap0 : Nat) (z0 : List Int) (w : World) (w0 : (a0 = none ∧ len0 = 0 ∧ cap0 = 0 ∧ z0 = []) ∨ ∃ x, a0 = some x ∧ len0 ≤ cap0 ∧ cap0 ≤ maxLen ∧ z0.length = cap0 ∧ (∀ i, i < z0.length → w.cell? (x.add i) = some (.int .u8 (z0.getD i 0))) ∧ ∀ n ∈ z0, (Lit.int .u8 n).wf = true) (y0 : len0 * 1 ≤ 140737488351232) :
    Calls Try.prog 4 #[.slice a0 len0 cap0] w fun e w' => e = .returned (.bool true) ∧ Below w.heap.size w w' := by
  obtain ⟨l0, rfl, hr0, hm0, hw0, hc0⟩ := ReadsInt.ofRowC w0
  exact HeadReads_calls _ l0 w ⟨_, _, rfl, hc0, hr0⟩ (wf_isB hw0)
theorem HeadBack_walk (id key data fields made : Int) (a0 : Option Addr) (len0 cap0 : Nat) (z0 : List Int) (w : World) (w1 : (Lit.int .u64 id).wf = true) (w2 : (Lit.int .u64 key).wf = true) (w3 : (Lit.int .u64 made).wf = true) (w0 : (a0 = none ∧ len0 = 0 ∧ cap0 = 0 ∧ z0 = []) ∨ ∃ x, a0 = some x ∧ len0 ≤ cap0 ∧ cap0 ≤ maxLen ∧ z0.length = cap0 ∧ (∀ i, i < z0.length → w.cell? (x.add i) = some (.int .u8 (z0.getD i 0))) ∧ ∀ n ∈ z0, (Lit.int .u8 n).wf = true) (y0 : len0 * 1 ≤ 140737488351232) :
    Calls Try.prog 5 #[.agg #[.int .u64 id, .int .u64 key, .int .i64 data, .int .i64 fields, .int .u64 made], .slice a0 len0 cap0] w fun e w' => e = .returned (.bool true) ∧ Below w.heap.size w w' := by
  obtain ⟨l0, rfl, hr0, hm0, hw0, hc0⟩ := ReadsInt.ofRowC w0
  have a := bounds_u64 w1
  have b := bounds_u64 w2
  have c := bounds_u64 w3
  exact HeadBack_calls id key data fields made _ l0 w ⟨_, _, rfl, hc0, hr0⟩ (wf_isB hw0) a.1 a.2 b.1 b.2 c.1 c.2
end Go.Proofs.Ytdleajnecohacaa
