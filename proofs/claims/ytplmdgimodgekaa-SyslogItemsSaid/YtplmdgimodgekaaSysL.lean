/- Syslog: the laws: for every input each returns true. -/
import Derived.Test.YtplmdgimodgekaaSysI
import Derived.Test.YtplmdgimodgekaaAggF
namespace Go.Proofs.Ytplmdgimodgekaa
open Go.RowKit Go.Proofs.YtplmdgimodgekaaW.PrintWords Go.Proofs.YtplmdgimodgekaaW.PrintLast Go.Proofs.YtplmdgimodgekaaW.PrintMore
attribute [local go_sem] max2_int min2_int max_two min_two max_three min_three max_four min_four   -- for this text's walks alone
set_option linter.unusedVariables false
set_option linter.unusedSimpArgs false

set_option maxHeartbeats 8000000 in
set_option maxRecDepth 100000 in
theorem sy_to_calls (p f : Int) (NM PI TX : ByteArray) (w : World) : Calls Try.prog 35 #[.agg #[.int .i64 p, .int .i64 f, .string NM, .string PI, .string TX]] w fun e w' => e = .returned (.agg #[.int .i64 p, .int .i64 f, .string NM, .string PI, .string TX]) ∧ Below w.heap.size w w' := by
  go_enter Try.func35, Try.ntmps35
  go_wp2_with fail
  refine bodyPost_ret (v := .agg #[.int .i64 p, .int .i64 f, .string NM, .string PI, .string TX]) (by simp [results, Try.results35, go_sem]) rfl ⟨rfl, ?_⟩
  first | exact below_alloc (below_alloc (Below.refl _ _) _) _ | exact below_set5 (below_alloc (below_alloc (Below.refl _ _) _) _) _ (Nat.le_succ _) _ _ _ _ _
theorem sy_ex : syP [60, 49, 51, 62, 99, 114, 111, 110, 91, 55, 93, 58, 32, 103, 111] = (5, 1, [99, 114, 111, 110], [55], [103, 111]) := by decide +kernel
set_option maxHeartbeats 8000000 in
set_option maxRecDepth 100000 in
theorem sy_awake_calls (w : World) : Calls Try.prog 33 #[] w fun e w' => e = .returned (.bool true) ∧ Below w.heap.size w w' := by
  have hb : isB [60, 49, 51, 62, 99, 114, 111, 110, 91, 55, 93, 58, 32, 103, 111] := by
    have : ([60, 49, 51, 62, 99, 114, 111, 110, 91, 55, 93, 58, 32, 103, 111] : List Int).all (fun x => decide (0 ≤ x ∧ x ≤ 255)) = true := by decide
    exact fun x hx => of_decide_eq_true (List.all_eq_true.1 this x hx)
  have CP := Aside0.mk (fun w => sParse_calls [60, 49, 51, 62, 99, 114, 111, 110, 91, 55, 93, 58, 32, 103, 111] w hb (by decide))
  rw [sy_ex, syV] at CP
  dsimp only at CP
  rw [show strOfNums [60, 49, 51, 62, 99, 114, 111, 110, 91, 55, 93, 58, 32, 103, 111] = ⟨#[60, 49, 51, 62, 99, 114, 111, 110, 91, 55, 93, 58, 32, 103, 111]⟩ from rfl, show strOfNums [99, 114, 111, 110] = ⟨#[99, 114, 111, 110]⟩ from rfl, show strOfNums [55] = ⟨#[55]⟩ from rfl, show strOfNums [103, 111] = ⟨#[103, 111]⟩ from rfl] at CP
  clear hb
  go_enter Try.func33, Try.ntmps33
  go_wp2_with fail
  refine (CP.out _).mono ?_
  rintro _ w1 ⟨rfl, hb⟩
  have HB := Aside0.mk hb
  clear hb
  go_wp2_with fail
  go_ret
  exact ⟨rfl, HB.out⟩
set_option maxHeartbeats 8000000 in
set_option maxRecDepth 100000 in
theorem sy_short_no (p f : Int) (NM PI TX : ByteArray) (a b c : Nat) (w : World) (h1 : NM.size = a) (h2 : PI.size = b) (h3 : TX.size = c) (h : 200 < a ∨ 100 < b ∨ 1000 < c) : Calls Try.prog 31 #[.agg #[.int .i64 p, .int .i64 f, .string NM, .string PI, .string TX]] w fun e w' => e = .returned (.bool false) ∧ Below w.heap.size w w' := by
  by_cases c1 : 200 < a
  · clear h
    go_enter Try.func31, Try.ntmps31
    go_wp2_with fail
    go_ret
    exact ⟨rfl, below_alloc (Below.refl _ _) _⟩
  · by_cases c2 : 100 < b
    · clear h
      go_enter Try.func31, Try.ntmps31
      go_wp2_with fail
      go_ret
      exact ⟨rfl, below_alloc (Below.refl _ _) _⟩
    · have c3 : 1000 < c := by omega
      clear h
      go_enter Try.func31, Try.ntmps31
      go_wp2_with fail
      go_ret
      exact ⟨by simp; omega, below_alloc (Below.refl _ _) _⟩
set_option maxHeartbeats 8000000 in
set_option maxRecDepth 100000 in
theorem sy_short_yes (p f : Int) (NM PI TX : ByteArray) (a b c : Nat) (w : World) (h1 : NM.size = a) (h2 : PI.size = b) (h3 : TX.size = c) (a1 : a ≤ 200) (a2 : b ≤ 100) (a3 : c ≤ 1000) : Calls Try.prog 31 #[.agg #[.int .i64 p, .int .i64 f, .string NM, .string PI, .string TX]] w fun e w' => e = .returned (.bool true) ∧ Below w.heap.size w w' := by
  go_enter Try.func31, Try.ntmps31
  go_wp2_with fail
  go_ret
  exact ⟨by simp; omega, below_alloc (Below.refl _ _) _⟩
set_option maxHeartbeats 8000000 in
set_option maxRecDepth 100000 in
theorem SyslogReads_calls (l : List Int) (w : World) (hl : isB l) : Calls Try.prog 10 #[.string (strOfNums l)] w fun e w' => e = .returned (.bool true) ∧ Below w.heap.size w w' := by
  have hs := strOf_size l
  by_cases c1 : 1500 < l.length
  · obtain ⟨n, hn⟩ : ∃ n, l.length = n := ⟨_, rfl⟩
    rw [hn] at hs c1
    clear hn
    go_enter Try.func10, Try.ntmps10
    go_wp2_with fail
    refine (sy_awake_calls _).mono ?_
    rintro _ w1 ⟨rfl, hb⟩
    have HB := Aside0.mk hb
    clear hb
    go_wp2_with fail
    go_ret
    exact ⟨rfl, HB.out⟩
  · have CS := Aside0.mk (fun w => sParse_calls l w hl (by omega))
    have CR := Aside0.mk (fun w => rParse_calls l w hl (by omega))
    have hb := syP_isB hl
    have hri := sy_ri l
    have hlen := syP_len l
    obtain ⟨M, hM⟩ : ∃ M, syP l = M := ⟨_, rfl⟩
    rw [hM] at CS CR hb hri hlen
    clear hM
    obtain ⟨p, f, nm, pi, tx⟩ := M
    have CQ := Aside0.mk (fun w => sRight_calls p f nm pi tx w hb.1 hb.2.1 hb.2.2 (by have := hlen.1; dsimp only at this; omega) (by have := hlen.2; dsimp only at this; omega))
    rw [decide_eq_true hri] at CQ
    rw [syV] at CS CR CQ
    dsimp only at CS CR CQ
    obtain ⟨NM, hNM⟩ : ∃ V, strOfNums nm = V := ⟨_, rfl⟩
    obtain ⟨PI, hPI⟩ : ∃ V, strOfNums pi = V := ⟨_, rfl⟩
    obtain ⟨TX, hTX⟩ : ∃ V, strOfNums tx = V := ⟨_, rfl⟩
    obtain ⟨S, hS⟩ : ∃ V, strOfNums l = V := ⟨_, rfl⟩
    obtain ⟨n, hn⟩ : ∃ n, l.length = n := ⟨_, rfl⟩
    rw [hNM, hPI, hTX] at CS CR CQ
    rw [hS] at CS CR hs ⊢
    rw [hn] at hs c1
    clear hNM hPI hTX hS hn hb hri hlen hl
    go_enter Try.func10, Try.ntmps10
    go_wp2_with fail
    refine (CS.out _).mono ?_
    rintro _ w1 ⟨rfl, hb⟩
    have HZ := Aside0.mk (blk_new w1 (.cells #[.int .i64 p, .int .i64 f, .string NM, .string PI, .string TX] 54))
    have HB := Aside0.mk (below_alloc hb (.cells #[.int .i64 p, .int .i64 f, .string NM, .string PI, .string TX] 54))
    obtain ⟨g, hg⟩ : ∃ g, w1.heap.size = g := ⟨_, rfl⟩
    clear hb
    go_upto_region 4 with fail
    rw [hg] at HZ
    obtain ⟨wz, hwz⟩ : ∃ wz, w1.alloc (.cells #[.int .i64 p, .int .i64 f, .string NM, .string PI, .string TX] 54) = wz := ⟨_, rfl⟩
    rw [hwz] at HZ HB ⊢
    clear hg hwz
    have r0 := blk_cell HZ.out 0
    have r1 := blk_cell HZ.out 1
    have r2 := blk_cell HZ.out 2
    have r3 := blk_cell HZ.out 3
    have r4 := blk_cell HZ.out 4

    refine start_ (n := 13) (S := fun w' => w'.cell? ⟨g, 0, none⟩ = some (.int .i64 p) ∧ w'.cell? ⟨g, 1, none⟩ = some (.int .i64 f) ∧ w'.cell? ⟨g, 2, none⟩ = some (.string NM) ∧ w'.cell? ⟨g, 3, none⟩ = some (.string PI) ∧ w'.cell? ⟨g, 4, none⟩ = some (.string TX)) (ds := []) #[false, false, false, false, false, false, false, false, false, false, false, false, false] (by kernel_rfl) rfl rfl ⟨r0, r1, r2, r3, r4⟩ (fun hHeld => ?_)
    refine pure_ (i := 1) (N := some 11) (v := ?_) (a' := ?_) #[false, true, false, false, false, false, false, false, false, false, false, false, false] rfl rfl (by kernel_rfl) (fun _ _ _ h => h) (Or.inl ⟨by rfl, ?_⟩) ?_ ?_
    rotate_left
    · intro w'
      go_simp
      with_reducible rfl
    rotate_left
    · simp only [Act.put, List.setIfInBounds_toArray, List.set_cons_zero, List.set_cons_succ, i64_w, i32_w]
      rfl
    refine take_ (i := 0) (N := some 10) (v := ?_) (a' := ?_) #[true, true, false, false, false, false, false, false, false, false, false, false, false] rfl rfl (by kernel_rfl) (fun _ _ _ h => h) (Or.inl ⟨by rfl, ?_⟩) hHeld ?_ ?_
    rotate_left
    · rintro w' ⟨s0, s1, s2, s3, s4⟩
      go_simp
      with_reducible rfl
    rotate_left
    · simp only [Act.put, List.setIfInBounds_toArray, List.set_cons_zero, List.set_cons_succ, i64_w, i32_w]
      rfl
    refine one_ (i := 2) (N := some 12) #[true, true, true, false, false, false, false, false, false, false, false, false, false] rfl rfl (by kernel_rfl) (by decide) (fun K hK => ?_)
    refine goes_ Try.func39 (by kernel_rfl) rfl #[.string S] (by rfl) rfl rfl (by (try simp only [List.map_toArray, List.map_cons, List.map_nil]); first | done | rfl) ?_
    with_reducible refine (CR.out _).mono ?_
    rintro e w2 ⟨rfl, hb2⟩
    refine ⟨_, rfl, ?_⟩
    refine hK.out _ _ ⟨(pw_cell_below hb2 hHeld.1), (pw_cell_below hb2 hHeld.2.1), (pw_cell_below hb2 hHeld.2.2.1), (pw_cell_below hb2 hHeld.2.2.2.1), (pw_cell_below hb2 hHeld.2.2.2.2)⟩ (fun hHeld => ?_)
    clear hK K
    refine norm_ (a' := ?_) ?_ ?_
    rotate_left
    · show Act.put _ (some 12) _ = _
      simp only [Act.put, List.setIfInBounds_toArray, List.set_cons_zero, List.set_cons_succ, i64_w, i32_w]
      rfl
    refine one_ (i := 3) (N := some 13) #[true, true, true, true, false, false, false, false, false, false, false, false, false] rfl rfl (by kernel_rfl) (by decide) (fun K hK => ?_)
    refine goes_ Try.func35 (by kernel_rfl) rfl #[.agg #[.int .i64 p, .int .i64 f, .string NM, .string PI, .string TX]] (by rfl) rfl rfl (by (try simp only [List.map_toArray, List.map_cons, List.map_nil]); first | done | rfl) ?_
    with_reducible refine (sy_to_calls p f NM PI TX _).mono ?_
    rintro e w3 ⟨rfl, hb3⟩
    refine ⟨_, rfl, ?_⟩
    refine hK.out _ _ ⟨(pw_cell_below hb3 hHeld.1), (pw_cell_below hb3 hHeld.2.1), (pw_cell_below hb3 hHeld.2.2.1), (pw_cell_below hb3 hHeld.2.2.2.1), (pw_cell_below hb3 hHeld.2.2.2.2)⟩ (fun hHeld => ?_)
    clear hK K
    refine norm_ (a' := ?_) ?_ ?_
    rotate_left
    · show Act.put _ (some 13) _ = _
      simp only [Act.put, List.setIfInBounds_toArray, List.set_cons_zero, List.set_cons_succ, i64_w, i32_w]
      rfl
    refine pure_ (i := 4) (N := some 14) (v := ?_) (a' := ?_) #[true, true, true, true, true, false, false, false, false, false, false, false, false] rfl rfl (by kernel_rfl) (fun _ _ _ h => h) (Or.inl ⟨by rfl, ?_⟩) ?_ ?_
    rotate_left
    · intro w'
      go_simp
      with_reducible rfl
    rotate_left
    · simp only [Act.put, List.setIfInBounds_toArray, List.set_cons_zero, List.set_cons_succ, i64_w, i32_w]
      rfl
    refine pure_ (i := 5) (N := some 15) (v := ?_) (a' := ?_) #[true, true, true, true, true, true, false, false, false, false, false, false, false] rfl rfl (by kernel_rfl) (fun _ _ _ h => h) (Or.inl ⟨by rfl, ?_⟩) ?_ ?_
    rotate_left
    · intro w'
      go_simp
      with_reducible rfl
    rotate_left
    · simp only [Act.put, List.setIfInBounds_toArray, List.set_cons_zero, List.set_cons_succ, i64_w, i32_w]
      rfl
    refine take_ (i := 6) (N := some 16) (v := ?_) (a' := ?_) #[true, true, true, true, true, true, true, false, false, false, false, false, false] rfl rfl (by kernel_rfl) (fun _ _ _ h => h) (Or.inl ⟨by rfl, ?_⟩) hHeld ?_ ?_
    rotate_left
    · rintro w' ⟨s0, s1, s2, s3, s4⟩
      go_simp
      with_reducible rfl
    rotate_left
    · simp only [Act.put, List.setIfInBounds_toArray, List.set_cons_zero, List.set_cons_succ, i64_w, i32_w]
      rfl
    refine one_ (i := 7) (N := some 17) #[true, true, true, true, true, true, true, true, false, false, false, false, false] rfl rfl (by kernel_rfl) (by decide) (fun K hK => ?_)
    refine goes_ Try.func40 (by kernel_rfl) rfl #[.agg #[.int .i64 p, .int .i64 f, .string NM, .string PI, .string TX]] (by rfl) rfl rfl (by (try simp only [List.map_toArray, List.map_cons, List.map_nil]); first | done | rfl) ?_
    with_reducible refine (CQ.out _).mono ?_
    rintro e w4 ⟨rfl, hb4⟩
    refine ⟨_, rfl, ?_⟩
    refine hK.out _ _ ⟨(pw_cell_below hb4 hHeld.1), (pw_cell_below hb4 hHeld.2.1), (pw_cell_below hb4 hHeld.2.2.1), (pw_cell_below hb4 hHeld.2.2.2.1), (pw_cell_below hb4 hHeld.2.2.2.2)⟩ (fun hHeld => ?_)
    clear hK K
    refine norm_ (a' := ?_) ?_ ?_
    rotate_left
    · show Act.put _ (some 17) _ = _
      simp only [Act.put, List.setIfInBounds_toArray, List.set_cons_zero, List.set_cons_succ, i64_w, i32_w]
      rfl
    refine pure_ (i := 8) (N := some 18) (v := ?_) (a' := ?_) #[true, true, true, true, true, true, true, true, true, false, false, false, false] rfl rfl (by kernel_rfl) (fun _ _ _ h => h) (Or.inl ⟨by rfl, ?_⟩) ?_ ?_
    rotate_left
    · intro w'
      go_simp
      with_reducible rfl
    rotate_left
    · simp only [Act.put, List.setIfInBounds_toArray, List.set_cons_zero, List.set_cons_succ, i64_w, i32_w]
      rfl
    refine pure_ (i := 9) (N := some 19) (v := ?_) (a' := ?_) #[true, true, true, true, true, true, true, true, true, true, false, false, false] rfl rfl (by kernel_rfl) (fun _ _ _ h => h) (Or.inl ⟨by rfl, ?_⟩) ?_ ?_
    rotate_left
    · intro w'
      go_simp
      with_reducible rfl
    rotate_left
    · simp only [Act.put, List.setIfInBounds_toArray, List.set_cons_zero, List.set_cons_succ, i64_w, i32_w]
      rfl
    refine one_ (i := 10) (N := some 20) #[true, true, true, true, true, true, true, true, true, true, true, false, false] rfl rfl (by kernel_rfl) (by decide) (fun K hK => ?_)
    refine goes_ Try.func33 (by kernel_rfl) rfl #[] (by rfl) rfl rfl (by (try simp only [List.map_toArray, List.map_cons, List.map_nil]); first | done | rfl) ?_
    with_reducible refine (sy_awake_calls _).mono ?_
    rintro e w5 ⟨rfl, hb5⟩
    refine ⟨_, rfl, ?_⟩
    refine hK.out _ _ ⟨(pw_cell_below hb5 hHeld.1), (pw_cell_below hb5 hHeld.2.1), (pw_cell_below hb5 hHeld.2.2.1), (pw_cell_below hb5 hHeld.2.2.2.1), (pw_cell_below hb5 hHeld.2.2.2.2)⟩ (fun hHeld => ?_)
    clear hK K
    refine norm_ (a' := ?_) ?_ ?_
    rotate_left
    · show Act.put _ (some 20) _ = _
      simp only [Act.put, List.setIfInBounds_toArray, List.set_cons_zero, List.set_cons_succ, i64_w, i32_w]
      rfl
    refine pure_ (i := 11) (N := some 21) (v := ?_) (a' := ?_) #[true, true, true, true, true, true, true, true, true, true, true, true, false] rfl rfl (by kernel_rfl) (fun _ _ _ h => h) (Or.inl ⟨by rfl, ?_⟩) ?_ ?_
    rotate_left
    · intro w'
      go_simp
      with_reducible rfl
    rotate_left
    · simp only [Act.put, List.setIfInBounds_toArray, List.set_cons_zero, List.set_cons_succ, i64_w, i32_w]
      rfl
    refine pure_ (i := 12) (N := some 2) (v := ?_) (a' := ?_) #[true, true, true, true, true, true, true, true, true, true, true, true, true] rfl rfl (by kernel_rfl) (fun _ _ _ h => h) (Or.inl ⟨by rfl, ?_⟩) ?_ ?_
    rotate_left
    · intro w'
      go_simp
      with_reducible rfl
    rotate_left
    · simp only [Act.put, List.setIfInBounds_toArray, List.set_cons_zero, List.set_cons_succ, i64_w, i32_w]
      rfl
    refine done_ (by kernel_rfl) ?_
    have HB9 := Aside0.mk (below_step (below_step (below_step (below_step (below_drew HB.out) hb2) hb3) hb4) hb5)
    clear hb2 hb3 hb4 hb5
    go_wp2_with fail
    go_ret
    exact ⟨rfl, HB9.out⟩

set_option maxHeartbeats 8000000 in
set_option maxRecDepth 100000 in
theorem SyslogWrites_calls (p f : Int) (nm pi tx : List Int) (w : World) (hb1 : isB nm) (hb2 : isB pi) (hb3 : isB tx) : Calls Try.prog 11 #[syV (p, f, nm, pi, tx)] w fun e w' => e = .returned (.bool true) ∧ Below w.heap.size w w' := by
  have q1 := strOf_size nm
  have q2 := strOf_size pi
  have q3 := strOf_size tx
  rw [syV]
  dsimp only

  by_cases c1 : 200 < nm.length ∨ 100 < pi.length ∨ 1000 < tx.length
  · have CS := Aside0.mk (fun w => sy_short_no p f _ _ _ _ _ _ w q1 q2 q3 c1)
    obtain ⟨NM, hNM⟩ : ∃ V, strOfNums nm = V := ⟨_, rfl⟩
    obtain ⟨PI, hPI⟩ : ∃ V, strOfNums pi = V := ⟨_, rfl⟩
    obtain ⟨TX, hTX⟩ : ∃ V, strOfNums tx = V := ⟨_, rfl⟩
    rw [hNM, hPI, hTX] at CS ⊢
    clear hNM hPI hTX c1 q1 q2 q3
    go_enter Try.func11, Try.ntmps11
    go_wp2_with fail
    refine (CS.out _).mono ?_
    rintro _ w1 ⟨rfl, hb⟩
    have HZ := blk_below (blk_new w (.cells #[.int .i64 p, .int .i64 f, .string NM, .string PI, .string TX] 51)) hb
    have HB := Aside0.mk (below_step (below_alloc (Below.refl w.heap.size w) (.cells #[.int .i64 p, .int .i64 f, .string NM, .string PI, .string TX] 51)) hb)
    clear hb
    go_wp2_with fail
    refine (sy_awake_calls _).mono ?_
    rintro _ w2 ⟨rfl, hb⟩
    replace HB := Aside0.mk (below_step HB.out hb)
    clear hb
    go_wp2_with fail
    go_ret
    exact ⟨rfl, HB.out⟩

  · have CS := Aside0.mk (fun w => sy_short_yes p f _ _ _ _ _ _ w q1 q2 q3 (by omega) (by omega) (by omega))
    have CQ := Aside0.mk (fun w => sRight_calls p f nm pi tx w hb1 hb2 hb3 (by omega) (by omega))
    have CR := Aside0.mk (fun w => rRight_calls p f nm pi tx w hb1 hb2 hb3 (by omega) (by omega))
    rw [syV] at CQ CR
    dsimp only at CQ CR
    by_cases hri : riP (p, f, nm, pi, tx)
    · rw [decide_eq_true hri] at CQ CR
      have hpf := hri.1
      dsimp only at hpf
      have C1 := Aside0.mk (fun w => sLine_calls p f nm pi tx w (by omega) (by omega) (by omega) (by omega) (by omega))
      have C2 := Aside0.mk (fun w => rLine_calls p f nm pi tx w (by omega) (by omega) (by omega) (by omega) (by omega))
      have hlb := lnL_isB (p := p) (f := f) (by omega) (by omega) hb1 hb2 hb3
      have hll : (lnL (p, f, nm, pi, tx)).length ≤ 100000 := by
        rw [lnL]
        dsimp only
        have := (decD_len 19 (8 * f + p)).1
        rw [show 19 + 1 = 20 from rfl] at this
        have h2 : (bkL nm pi tx).length ≤ 5000 := by
          rw [bkL]
          split
          · omega
          · split <;> simp only [List.length_append, List.length_cons, List.length_nil] <;> omega
        simp only [List.length_cons, List.length_append]
        omega
      have C3 := Aside0.mk (fun w => sParse_calls _ w hlb (by omega))
      rw [ri_back hri] at C3
      rw [syV] at C3
      dsimp only [syV] at C1 C2 C3
      obtain ⟨L, hL⟩ : ∃ L, strOfNums (lnL (p, f, nm, pi, tx)) = L := ⟨_, rfl⟩
      obtain ⟨NM, hNM⟩ : ∃ V, strOfNums nm = V := ⟨_, rfl⟩
      obtain ⟨PI, hPI⟩ : ∃ V, strOfNums pi = V := ⟨_, rfl⟩
      obtain ⟨TX, hTX⟩ : ∃ V, strOfNums tx = V := ⟨_, rfl⟩
      rw [hL] at C1 C2 C3
      rw [hNM, hPI, hTX] at CS CQ CR C1 C2 C3 ⊢
      clear hNM hPI hTX c1 q1 q2 q3 hL hri hpf hlb hll hb1 hb2 hb3
      go_enter Try.func11, Try.ntmps11
      go_wp2_with fail
      refine (CS.out _).mono ?_
      rintro _ w1 ⟨rfl, hb⟩
      have HZ := Aside0.mk (blk_below (blk_new w (.cells #[.int .i64 p, .int .i64 f, .string NM, .string PI, .string TX] 51)) hb)
      have HB := Aside0.mk (below_step (below_alloc (Below.refl w.heap.size w) (.cells #[.int .i64 p, .int .i64 f, .string NM, .string PI, .string TX] 51)) hb)
      clear hb
      have r0 := blk_cell HZ.out 0
      have r1 := blk_cell HZ.out 1
      have r2 := blk_cell HZ.out 2
      have r3 := blk_cell HZ.out 3
      have r4 := blk_cell HZ.out 4

      go_wp2_with fail
      refine (sy_to_calls p f NM PI TX _).mono ?_
      rintro _ w2 ⟨rfl, hb⟩
      replace HZ := Aside0.mk (blk_alloc (blk_below HZ.out hb) (.cells #[.int .i64 p, .int .i64 f, .string NM, .string PI, .string TX] 54))
      replace HB := Aside0.mk (below_alloc (below_step HB.out hb) (.cells #[.int .i64 p, .int .i64 f, .string NM, .string PI, .string TX] 54))
      have HY := Aside0.mk (blk_new w2 (.cells #[.int .i64 p, .int .i64 f, .string NM, .string PI, .string TX] 54))
      obtain ⟨g, hg⟩ : ∃ g, w2.heap.size = g := ⟨_, rfl⟩
      clear hb r0 r1 r2 r3 r4
      go_upto_region 4 with fail
      rw [hg] at HY
      obtain ⟨wz, hwz⟩ : ∃ wz, w2.alloc (.cells #[.int .i64 p, .int .i64 f, .string NM, .string PI, .string TX] 54) = wz := ⟨_, rfl⟩
      rw [hwz] at HZ HY HB ⊢
      clear hg hwz
      have r0 := blk_cell HZ.out 0
      have r1 := blk_cell HZ.out 1
      have r2 := blk_cell HZ.out 2
      have r3 := blk_cell HZ.out 3
      have r4 := blk_cell HZ.out 4

      have s0 := blk_cell HY.out 0
      have s1 := blk_cell HY.out 1
      have s2 := blk_cell HY.out 2
      have s3 := blk_cell HY.out 3
      have s4 := blk_cell HY.out 4

      refine start_ (n := 5) (S := fun w' => w'.cell? ⟨w.heap.size, 0, none⟩ = some (.int .i64 p) ∧ w'.cell? ⟨w.heap.size, 1, none⟩ = some (.int .i64 f) ∧ w'.cell? ⟨w.heap.size, 2, none⟩ = some (.string NM) ∧ w'.cell? ⟨w.heap.size, 3, none⟩ = some (.string PI) ∧ w'.cell? ⟨w.heap.size, 4, none⟩ = some (.string TX) ∧ w'.cell? ⟨g, 0, none⟩ = some (.int .i64 p) ∧ w'.cell? ⟨g, 1, none⟩ = some (.int .i64 f) ∧ w'.cell? ⟨g, 2, none⟩ = some (.string NM) ∧ w'.cell? ⟨g, 3, none⟩ = some (.string PI) ∧ w'.cell? ⟨g, 4, none⟩ = some (.string TX)) (ds := []) #[false, false, false, false, false] (by kernel_rfl) rfl rfl ⟨r0, r1, r2, r3, r4, s0, s1, s2, s3, s4⟩ (fun hHeld => ?_)
      refine take_ (i := 0) (N := some 10) (v := ?_) (a' := ?_) #[true, false, false, false, false] rfl rfl (by kernel_rfl) (fun _ _ _ h => h) (Or.inl ⟨by rfl, ?_⟩) hHeld ?_ ?_
      rotate_left
      · rintro w' ⟨s0, s1, s2, s3, s4, s5, s6, s7, s8, s9⟩
        go_simp
        with_reducible rfl
      rotate_left
      · simp only [Act.put, List.setIfInBounds_toArray, List.set_cons_zero, List.set_cons_succ, i64_w, i32_w]
        rfl
      refine take_ (i := 2) (N := some 12) (v := ?_) (a' := ?_) #[true, false, true, false, false] rfl rfl (by kernel_rfl) (fun _ _ _ h => h) (Or.inl ⟨by rfl, ?_⟩) hHeld ?_ ?_
      rotate_left
      · rintro w' ⟨s0, s1, s2, s3, s4, s5, s6, s7, s8, s9⟩
        go_simp
        with_reducible rfl
      rotate_left
      · simp only [Act.put, List.setIfInBounds_toArray, List.set_cons_zero, List.set_cons_succ, i64_w, i32_w]
        rfl
      refine one_ (i := 1) (N := some 11) #[true, true, true, false, false] rfl rfl (by kernel_rfl) (by decide) (fun K hK => ?_)
      refine goes_ Try.func40 (by kernel_rfl) rfl #[.agg #[.int .i64 p, .int .i64 f, .string NM, .string PI, .string TX]] (by rfl) rfl rfl (by (try simp only [List.map_toArray, List.map_cons, List.map_nil]); first | done | rfl) ?_
      with_reducible refine (CQ.out _).mono ?_
      rintro e w3 ⟨rfl, hb3⟩
      refine ⟨_, rfl, ?_⟩
      refine hK.out _ _ ⟨(pw_cell_below hb3 hHeld.1), (pw_cell_below hb3 hHeld.2.1), (pw_cell_below hb3 hHeld.2.2.1), (pw_cell_below hb3 hHeld.2.2.2.1), (pw_cell_below hb3 hHeld.2.2.2.2.1), (pw_cell_below hb3 hHeld.2.2.2.2.2.1), (pw_cell_below hb3 hHeld.2.2.2.2.2.2.1), (pw_cell_below hb3 hHeld.2.2.2.2.2.2.2.1), (pw_cell_below hb3 hHeld.2.2.2.2.2.2.2.2.1), (pw_cell_below hb3 hHeld.2.2.2.2.2.2.2.2.2)⟩ (fun hHeld => ?_)
      clear hK K
      refine norm_ (a' := ?_) ?_ ?_
      rotate_left
      · show Act.put _ (some 11) _ = _
        simp only [Act.put, List.setIfInBounds_toArray, List.set_cons_zero, List.set_cons_succ, i64_w, i32_w]
        rfl
      refine one_ (i := 3) (N := some 13) #[true, true, true, true, false] rfl rfl (by kernel_rfl) (by decide) (fun K hK => ?_)
      refine goes_ Try.func32 (by kernel_rfl) rfl #[.agg #[.int .i64 p, .int .i64 f, .string NM, .string PI, .string TX]] (by rfl) rfl rfl (by (try simp only [List.map_toArray, List.map_cons, List.map_nil]); first | done | rfl) ?_
      with_reducible refine (CR.out _).mono ?_
      rintro e w4 ⟨rfl, hb4⟩
      refine ⟨_, rfl, ?_⟩
      refine hK.out _ _ ⟨(pw_cell_below hb4 hHeld.1), (pw_cell_below hb4 hHeld.2.1), (pw_cell_below hb4 hHeld.2.2.1), (pw_cell_below hb4 hHeld.2.2.2.1), (pw_cell_below hb4 hHeld.2.2.2.2.1), (pw_cell_below hb4 hHeld.2.2.2.2.2.1), (pw_cell_below hb4 hHeld.2.2.2.2.2.2.1), (pw_cell_below hb4 hHeld.2.2.2.2.2.2.2.1), (pw_cell_below hb4 hHeld.2.2.2.2.2.2.2.2.1), (pw_cell_below hb4 hHeld.2.2.2.2.2.2.2.2.2)⟩ (fun hHeld => ?_)
      clear hK K
      refine norm_ (a' := ?_) ?_ ?_
      rotate_left
      · show Act.put _ (some 13) _ = _
        simp only [Act.put, List.setIfInBounds_toArray, List.set_cons_zero, List.set_cons_succ, i64_w, i32_w]
        rfl
      refine pure_ (i := 4) (N := some 14) (v := ?_) (a' := ?_) #[true, true, true, true, true] rfl rfl (by kernel_rfl) (fun _ _ _ h => h) (Or.inl ⟨by rfl, ?_⟩) ?_ ?_
      rotate_left
      · intro w'
        go_simp
        with_reducible rfl
      rotate_left
      · simp only [Act.put, List.setIfInBounds_toArray, List.set_cons_zero, List.set_cons_succ, i64_w, i32_w]
        rfl
      refine done_ (by kernel_rfl) ?_
      replace HZ := Aside0.mk (blk_below (blk_below (blk_drew HZ.out) hb3) hb4)
      replace HY := Aside0.mk (blk_below (blk_below (blk_drew HY.out) hb3) hb4)
      replace HB := Aside0.mk (below_step (below_step (below_drew HB.out) hb3) hb4)
      clear hb3 hb4 r0 r1 r2 r3 r4 s0 s1 s2 s3 s4
      have r0 := blk_cell HZ.out 0
      have r1 := blk_cell HZ.out 1
      have r2 := blk_cell HZ.out 2
      have r3 := blk_cell HZ.out 3
      have r4 := blk_cell HZ.out 4

      have s0 := blk_cell HY.out 0
      have s1 := blk_cell HY.out 1
      have s2 := blk_cell HY.out 2
      have s3 := blk_cell HY.out 3
      have s4 := blk_cell HY.out 4

      go_upto_region 6 with fail
      refine start_ (n := 21) (S := fun w' => w'.cell? ⟨w.heap.size, 0, none⟩ = some (.int .i64 p) ∧ w'.cell? ⟨w.heap.size, 1, none⟩ = some (.int .i64 f) ∧ w'.cell? ⟨w.heap.size, 2, none⟩ = some (.string NM) ∧ w'.cell? ⟨w.heap.size, 3, none⟩ = some (.string PI) ∧ w'.cell? ⟨w.heap.size, 4, none⟩ = some (.string TX) ∧ w'.cell? ⟨g, 0, none⟩ = some (.int .i64 p) ∧ w'.cell? ⟨g, 1, none⟩ = some (.int .i64 f) ∧ w'.cell? ⟨g, 2, none⟩ = some (.string NM) ∧ w'.cell? ⟨g, 3, none⟩ = some (.string PI) ∧ w'.cell? ⟨g, 4, none⟩ = some (.string TX)) (ds := []) #[false, false, false, false, false, false, false, false, false, false, false, false, false, false, false, false, false, false, false, false, false] (by kernel_rfl) rfl rfl ⟨r0, r1, r2, r3, r4, s0, s1, s2, s3, s4⟩ (fun hHeld => ?_)
      refine take_ (i := 0) (N := some 15) (v := ?_) (a' := ?_) #[true, false, false, false, false, false, false, false, false, false, false, false, false, false, false, false, false, false, false, false, false] rfl rfl (by kernel_rfl) (fun _ _ _ h => h) (Or.inl ⟨by rfl, ?_⟩) hHeld ?_ ?_
      rotate_left
      · rintro w' ⟨s0, s1, s2, s3, s4, s5, s6, s7, s8, s9⟩
        go_simp
        with_reducible rfl
      rotate_left
      · simp only [Act.put, List.setIfInBounds_toArray, List.set_cons_zero, List.set_cons_succ, i64_w, i32_w]
        rfl
      refine one_ (i := 1) (N := some 16) #[true, true, false, false, false, false, false, false, false, false, false, false, false, false, false, false, false, false, false, false, false] rfl rfl (by kernel_rfl) (by decide) (fun K hK => ?_)
      refine goes_ Try.func32 (by kernel_rfl) rfl #[.agg #[.int .i64 p, .int .i64 f, .string NM, .string PI, .string TX]] (by rfl) rfl rfl (by (try simp only [List.map_toArray, List.map_cons, List.map_nil]); first | done | rfl) ?_
      with_reducible refine (CR.out _).mono ?_
      rintro e w5 ⟨rfl, hb5⟩
      refine ⟨_, rfl, ?_⟩
      refine hK.out _ _ ⟨(pw_cell_below hb5 hHeld.1), (pw_cell_below hb5 hHeld.2.1), (pw_cell_below hb5 hHeld.2.2.1), (pw_cell_below hb5 hHeld.2.2.2.1), (pw_cell_below hb5 hHeld.2.2.2.2.1), (pw_cell_below hb5 hHeld.2.2.2.2.2.1), (pw_cell_below hb5 hHeld.2.2.2.2.2.2.1), (pw_cell_below hb5 hHeld.2.2.2.2.2.2.2.1), (pw_cell_below hb5 hHeld.2.2.2.2.2.2.2.2.1), (pw_cell_below hb5 hHeld.2.2.2.2.2.2.2.2.2)⟩ (fun hHeld => ?_)
      clear hK K
      refine norm_ (a' := ?_) ?_ ?_
      rotate_left
      · show Act.put _ (some 16) _ = _
        simp only [Act.put, List.setIfInBounds_toArray, List.set_cons_zero, List.set_cons_succ, i64_w, i32_w]
        rfl
      refine pure_ (i := 2) (N := some 17) (v := ?_) (a' := ?_) #[true, true, true, false, false, false, false, false, false, false, false, false, false, false, false, false, false, false, false, false, false] rfl rfl (by kernel_rfl) (fun _ _ _ h => h) (Or.inl ⟨by rfl, ?_⟩) ?_ ?_
      rotate_left
      · intro w'
        go_simp
        with_reducible rfl
      rotate_left
      · simp only [Act.put, List.setIfInBounds_toArray, List.set_cons_zero, List.set_cons_succ, i64_w, i32_w]
        rfl
      refine pure_ (i := 3) (N := some 18) (v := ?_) (a' := ?_) #[true, true, true, true, false, false, false, false, false, false, false, false, false, false, false, false, false, false, false, false, false] rfl rfl (by kernel_rfl) (fun _ _ _ h => h) (Or.inl ⟨by rfl, ?_⟩) ?_ ?_
      rotate_left
      · intro w'
        go_simp
        with_reducible rfl
      rotate_left
      · simp only [Act.put, List.setIfInBounds_toArray, List.set_cons_zero, List.set_cons_succ, i64_w, i32_w]
        rfl
      refine take_ (i := 4) (N := some 19) (v := ?_) (a' := ?_) #[true, true, true, true, true, false, false, false, false, false, false, false, false, false, false, false, false, false, false, false, false] rfl rfl (by kernel_rfl) (fun _ _ _ h => h) (Or.inl ⟨by rfl, ?_⟩) hHeld ?_ ?_
      rotate_left
      · rintro w' ⟨s0, s1, s2, s3, s4, s5, s6, s7, s8, s9⟩
        go_simp
        with_reducible rfl
      rotate_left
      · simp only [Act.put, List.setIfInBounds_toArray, List.set_cons_zero, List.set_cons_succ, i64_w, i32_w]
        rfl
      refine take_ (i := 6) (N := some 21) (v := ?_) (a' := ?_) #[true, true, true, true, true, false, true, false, false, false, false, false, false, false, false, false, false, false, false, false, false] rfl rfl (by kernel_rfl) (fun _ _ _ h => h) (Or.inl ⟨by rfl, ?_⟩) hHeld ?_ ?_
      rotate_left
      · rintro w' ⟨s0, s1, s2, s3, s4, s5, s6, s7, s8, s9⟩
        go_simp
        with_reducible rfl
      rotate_left
      · simp only [Act.put, List.setIfInBounds_toArray, List.set_cons_zero, List.set_cons_succ, i64_w, i32_w]
        rfl
      refine one_ (i := 5) (N := some 20) #[true, true, true, true, true, true, true, false, false, false, false, false, false, false, false, false, false, false, false, false, false] rfl rfl (by kernel_rfl) (by decide) (fun K hK => ?_)
      refine goes_ Try.func41 (by kernel_rfl) rfl #[.agg #[.int .i64 p, .int .i64 f, .string NM, .string PI, .string TX]] (by rfl) rfl rfl (by (try simp only [List.map_toArray, List.map_cons, List.map_nil]); first | done | rfl) ?_
      with_reducible refine (C1.out _).mono ?_
      rintro e w6 ⟨rfl, hb6⟩
      refine ⟨_, rfl, ?_⟩
      refine hK.out _ _ ⟨(pw_cell_below hb6 hHeld.1), (pw_cell_below hb6 hHeld.2.1), (pw_cell_below hb6 hHeld.2.2.1), (pw_cell_below hb6 hHeld.2.2.2.1), (pw_cell_below hb6 hHeld.2.2.2.2.1), (pw_cell_below hb6 hHeld.2.2.2.2.2.1), (pw_cell_below hb6 hHeld.2.2.2.2.2.2.1), (pw_cell_below hb6 hHeld.2.2.2.2.2.2.2.1), (pw_cell_below hb6 hHeld.2.2.2.2.2.2.2.2.1), (pw_cell_below hb6 hHeld.2.2.2.2.2.2.2.2.2)⟩ (fun hHeld => ?_)
      clear hK K
      refine norm_ (a' := ?_) ?_ ?_
      rotate_left
      · show Act.put _ (some 20) _ = _
        simp only [Act.put, List.setIfInBounds_toArray, List.set_cons_zero, List.set_cons_succ, i64_w, i32_w]
        rfl
      refine one_ (i := 7) (N := some 22) #[true, true, true, true, true, true, true, true, false, false, false, false, false, false, false, false, false, false, false, false, false] rfl rfl (by kernel_rfl) (by decide) (fun K hK => ?_)
      refine goes_ Try.func42 (by kernel_rfl) rfl #[.agg #[.int .i64 p, .int .i64 f, .string NM, .string PI, .string TX]] (by rfl) rfl rfl (by (try simp only [List.map_toArray, List.map_cons, List.map_nil]); first | done | rfl) ?_
      with_reducible refine (C2.out _).mono ?_
      rintro e w7 ⟨rfl, hb7⟩
      refine ⟨_, rfl, ?_⟩
      refine hK.out _ _ ⟨(pw_cell_below hb7 hHeld.1), (pw_cell_below hb7 hHeld.2.1), (pw_cell_below hb7 hHeld.2.2.1), (pw_cell_below hb7 hHeld.2.2.2.1), (pw_cell_below hb7 hHeld.2.2.2.2.1), (pw_cell_below hb7 hHeld.2.2.2.2.2.1), (pw_cell_below hb7 hHeld.2.2.2.2.2.2.1), (pw_cell_below hb7 hHeld.2.2.2.2.2.2.2.1), (pw_cell_below hb7 hHeld.2.2.2.2.2.2.2.2.1), (pw_cell_below hb7 hHeld.2.2.2.2.2.2.2.2.2)⟩ (fun hHeld => ?_)
      clear hK K
      refine norm_ (a' := ?_) ?_ ?_
      rotate_left
      · show Act.put _ (some 22) _ = _
        simp only [Act.put, List.setIfInBounds_toArray, List.set_cons_zero, List.set_cons_succ, i64_w, i32_w]
        rfl
      refine pure_ (i := 8) (N := some 23) (v := ?_) (a' := ?_) #[true, true, true, true, true, true, true, true, true, false, false, false, false, false, false, false, false, false, false, false, false] rfl rfl (by kernel_rfl) (fun _ _ _ h => h) (Or.inl ⟨by rfl, ?_⟩) ?_ ?_
      rotate_left
      · intro w'
        go_simp
        with_reducible rfl
      rotate_left
      · simp only [Act.put, List.setIfInBounds_toArray, List.set_cons_zero, List.set_cons_succ, i64_w, i32_w]
        rfl
      refine pure_ (i := 9) (N := some 24) (v := ?_) (a' := ?_) #[true, true, true, true, true, true, true, true, true, true, false, false, false, false, false, false, false, false, false, false, false] rfl rfl (by kernel_rfl) (fun _ _ _ h => h) (Or.inl ⟨by rfl, ?_⟩) ?_ ?_
      rotate_left
      · intro w'
        go_simp
        with_reducible rfl
      rotate_left
      · simp only [Act.put, List.setIfInBounds_toArray, List.set_cons_zero, List.set_cons_succ, i64_w, i32_w]
        rfl
      refine take_ (i := 10) (N := some 25) (v := ?_) (a' := ?_) #[true, true, true, true, true, true, true, true, true, true, true, false, false, false, false, false, false, false, false, false, false] rfl rfl (by kernel_rfl) (fun _ _ _ h => h) (Or.inl ⟨by rfl, ?_⟩) hHeld ?_ ?_
      rotate_left
      · rintro w' ⟨s0, s1, s2, s3, s4, s5, s6, s7, s8, s9⟩
        go_simp
        with_reducible rfl
      rotate_left
      · simp only [Act.put, List.setIfInBounds_toArray, List.set_cons_zero, List.set_cons_succ, i64_w, i32_w]
        rfl
      refine take_ (i := 13) (N := some 28) (v := ?_) (a' := ?_) #[true, true, true, true, true, true, true, true, true, true, true, false, false, true, false, false, false, false, false, false, false] rfl rfl (by kernel_rfl) (fun _ _ _ h => h) (Or.inl ⟨by rfl, ?_⟩) hHeld ?_ ?_
      rotate_left
      · rintro w' ⟨s0, s1, s2, s3, s4, s5, s6, s7, s8, s9⟩
        go_simp
        with_reducible rfl
      rotate_left
      · simp only [Act.put, List.setIfInBounds_toArray, List.set_cons_zero, List.set_cons_succ, i64_w, i32_w]
        rfl
      refine one_ (i := 11) (N := some 26) #[true, true, true, true, true, true, true, true, true, true, true, true, false, true, false, false, false, false, false, false, false] rfl rfl (by kernel_rfl) (by decide) (fun K hK => ?_)
      refine goes_ Try.func41 (by kernel_rfl) rfl #[.agg #[.int .i64 p, .int .i64 f, .string NM, .string PI, .string TX]] (by rfl) rfl rfl (by (try simp only [List.map_toArray, List.map_cons, List.map_nil]); first | done | rfl) ?_
      with_reducible refine (C1.out _).mono ?_
      rintro e w8 ⟨rfl, hb8⟩
      refine ⟨_, rfl, ?_⟩
      refine hK.out _ _ ⟨(pw_cell_below hb8 hHeld.1), (pw_cell_below hb8 hHeld.2.1), (pw_cell_below hb8 hHeld.2.2.1), (pw_cell_below hb8 hHeld.2.2.2.1), (pw_cell_below hb8 hHeld.2.2.2.2.1), (pw_cell_below hb8 hHeld.2.2.2.2.2.1), (pw_cell_below hb8 hHeld.2.2.2.2.2.2.1), (pw_cell_below hb8 hHeld.2.2.2.2.2.2.2.1), (pw_cell_below hb8 hHeld.2.2.2.2.2.2.2.2.1), (pw_cell_below hb8 hHeld.2.2.2.2.2.2.2.2.2)⟩ (fun hHeld => ?_)
      clear hK K
      refine norm_ (a' := ?_) ?_ ?_
      rotate_left
      · show Act.put _ (some 26) _ = _
        simp only [Act.put, List.setIfInBounds_toArray, List.set_cons_zero, List.set_cons_succ, i64_w, i32_w]
        rfl
      refine one_ (i := 12) (N := some 27) #[true, true, true, true, true, true, true, true, true, true, true, true, true, true, false, false, false, false, false, false, false] rfl rfl (by kernel_rfl) (by decide) (fun K hK => ?_)
      refine goes_ Try.func38 (by kernel_rfl) rfl #[.string L] (by rfl) rfl rfl (by (try simp only [List.map_toArray, List.map_cons, List.map_nil]); first | done | rfl) ?_
      with_reducible refine (C3.out _).mono ?_
      rintro e w10 ⟨rfl, hb10⟩
      refine ⟨_, rfl, ?_⟩
      refine hK.out _ _ ⟨(pw_cell_below hb10 hHeld.1), (pw_cell_below hb10 hHeld.2.1), (pw_cell_below hb10 hHeld.2.2.1), (pw_cell_below hb10 hHeld.2.2.2.1), (pw_cell_below hb10 hHeld.2.2.2.2.1), (pw_cell_below hb10 hHeld.2.2.2.2.2.1), (pw_cell_below hb10 hHeld.2.2.2.2.2.2.1), (pw_cell_below hb10 hHeld.2.2.2.2.2.2.2.1), (pw_cell_below hb10 hHeld.2.2.2.2.2.2.2.2.1), (pw_cell_below hb10 hHeld.2.2.2.2.2.2.2.2.2)⟩ (fun hHeld => ?_)
      clear hK K
      refine norm_ (a' := ?_) ?_ ?_
      rotate_left
      · show Act.put _ (some 27) _ = _
        simp only [Act.put, List.setIfInBounds_toArray, List.set_cons_zero, List.set_cons_succ, i64_w, i32_w]
        rfl
      refine pure_ (i := 14) (N := some 29) (v := ?_) (a' := ?_) #[true, true, true, true, true, true, true, true, true, true, true, true, true, true, true, false, false, false, false, false, false] rfl rfl (by kernel_rfl) (fun _ _ _ h => h) (Or.inl ⟨by rfl, ?_⟩) ?_ ?_
      rotate_left
      · intro w'
        go_simp
        with_reducible rfl
      rotate_left
      · simp only [Act.put, List.setIfInBounds_toArray, List.set_cons_zero, List.set_cons_succ, i64_w, i32_w]
        rfl
      refine pure_ (i := 15) (N := some 30) (v := ?_) (a' := ?_) #[true, true, true, true, true, true, true, true, true, true, true, true, true, true, true, true, false, false, false, false, false] rfl rfl (by kernel_rfl) (fun _ _ _ h => h) (Or.inl ⟨by rfl, ?_⟩) ?_ ?_
      rotate_left
      · intro w'
        go_simp
        with_reducible rfl
      rotate_left
      · simp only [Act.put, List.setIfInBounds_toArray, List.set_cons_zero, List.set_cons_succ, i64_w, i32_w]
        rfl
      refine pure_ (i := 16) (N := some 31) (v := ?_) (a' := ?_) #[true, true, true, true, true, true, true, true, true, true, true, true, true, true, true, true, true, false, false, false, false] rfl rfl (by kernel_rfl) (fun _ _ _ h => h) (Or.inl ⟨by rfl, ?_⟩) ?_ ?_
      rotate_left
      · intro w'
        go_simp
        with_reducible rfl
      rotate_left
      · simp only [Act.put, List.setIfInBounds_toArray, List.set_cons_zero, List.set_cons_succ, i64_w, i32_w]
        rfl
      refine pure_ (i := 17) (N := some 32) (v := ?_) (a' := ?_) #[true, true, true, true, true, true, true, true, true, true, true, true, true, true, true, true, true, true, false, false, false] rfl rfl (by kernel_rfl) (fun _ _ _ h => h) (Or.inl ⟨by rfl, ?_⟩) ?_ ?_
      rotate_left
      · intro w'
        go_simp
        with_reducible rfl
      rotate_left
      · simp only [Act.put, List.setIfInBounds_toArray, List.set_cons_zero, List.set_cons_succ, i64_w, i32_w]
        rfl
      refine one_ (i := 18) (N := some 33) #[true, true, true, true, true, true, true, true, true, true, true, true, true, true, true, true, true, true, true, false, false] rfl rfl (by kernel_rfl) (by decide) (fun K hK => ?_)
      refine goes_ Try.func33 (by kernel_rfl) rfl #[] (by rfl) rfl rfl (by (try simp only [List.map_toArray, List.map_cons, List.map_nil]); first | done | rfl) ?_
      with_reducible refine (sy_awake_calls _).mono ?_
      rintro e w9 ⟨rfl, hb9⟩
      refine ⟨_, rfl, ?_⟩
      refine hK.out _ _ ⟨(pw_cell_below hb9 hHeld.1), (pw_cell_below hb9 hHeld.2.1), (pw_cell_below hb9 hHeld.2.2.1), (pw_cell_below hb9 hHeld.2.2.2.1), (pw_cell_below hb9 hHeld.2.2.2.2.1), (pw_cell_below hb9 hHeld.2.2.2.2.2.1), (pw_cell_below hb9 hHeld.2.2.2.2.2.2.1), (pw_cell_below hb9 hHeld.2.2.2.2.2.2.2.1), (pw_cell_below hb9 hHeld.2.2.2.2.2.2.2.2.1), (pw_cell_below hb9 hHeld.2.2.2.2.2.2.2.2.2)⟩ (fun hHeld => ?_)
      clear hK K
      refine norm_ (a' := ?_) ?_ ?_
      rotate_left
      · show Act.put _ (some 33) _ = _
        simp only [Act.put, List.setIfInBounds_toArray, List.set_cons_zero, List.set_cons_succ, i64_w, i32_w]
        rfl
      refine pure_ (i := 19) (N := some 34) (v := ?_) (a' := ?_) #[true, true, true, true, true, true, true, true, true, true, true, true, true, true, true, true, true, true, true, true, false] rfl rfl (by kernel_rfl) (fun _ _ _ h => h) (Or.inl ⟨by rfl, ?_⟩) ?_ ?_
      rotate_left
      · intro w'
        go_simp
        with_reducible rfl
      rotate_left
      · simp only [Act.put, List.setIfInBounds_toArray, List.set_cons_zero, List.set_cons_succ, i64_w, i32_w]
        rfl
      refine pure_ (i := 20) (N := some 2) (v := ?_) (a' := ?_) #[true, true, true, true, true, true, true, true, true, true, true, true, true, true, true, true, true, true, true, true, true] rfl rfl (by kernel_rfl) (fun _ _ _ h => h) (Or.inl ⟨by rfl, ?_⟩) ?_ ?_
      rotate_left
      · intro w'
        go_simp
        with_reducible rfl
      rotate_left
      · simp only [Act.put, List.setIfInBounds_toArray, List.set_cons_zero, List.set_cons_succ, i64_w, i32_w]
        rfl
      refine done_ (by kernel_rfl) ?_
      replace HB := Aside0.mk (below_step (below_step (below_step (below_step (below_step (below_step (below_drew HB.out) hb5) hb6) hb7) hb8) hb10) hb9)
      clear hb5 hb6 hb7 hb8 hb9 hb10
      go_wp2_with fail
      go_ret
      exact ⟨rfl, HB.out⟩
    · rw [decide_eq_false hri] at CQ CR
      obtain ⟨NM, hNM⟩ : ∃ V, strOfNums nm = V := ⟨_, rfl⟩
      obtain ⟨PI, hPI⟩ : ∃ V, strOfNums pi = V := ⟨_, rfl⟩
      obtain ⟨TX, hTX⟩ : ∃ V, strOfNums tx = V := ⟨_, rfl⟩
      rw [hNM, hPI, hTX] at CS CQ CR ⊢
      clear hNM hPI hTX c1 q1 q2 q3 hri hb1 hb2 hb3
      go_enter Try.func11, Try.ntmps11
      go_wp2_with fail
      refine (CS.out _).mono ?_
      rintro _ w1 ⟨rfl, hb⟩
      have HZ := Aside0.mk (blk_below (blk_new w (.cells #[.int .i64 p, .int .i64 f, .string NM, .string PI, .string TX] 51)) hb)
      have HB := Aside0.mk (below_step (below_alloc (Below.refl w.heap.size w) (.cells #[.int .i64 p, .int .i64 f, .string NM, .string PI, .string TX] 51)) hb)
      clear hb
      have r0 := blk_cell HZ.out 0
      have r1 := blk_cell HZ.out 1
      have r2 := blk_cell HZ.out 2
      have r3 := blk_cell HZ.out 3
      have r4 := blk_cell HZ.out 4

      go_wp2_with fail
      refine (sy_to_calls p f NM PI TX _).mono ?_
      rintro _ w2 ⟨rfl, hb⟩
      replace HZ := Aside0.mk (blk_alloc (blk_below HZ.out hb) (.cells #[.int .i64 p, .int .i64 f, .string NM, .string PI, .string TX] 54))
      replace HB := Aside0.mk (below_alloc (below_step HB.out hb) (.cells #[.int .i64 p, .int .i64 f, .string NM, .string PI, .string TX] 54))
      have HY := Aside0.mk (blk_new w2 (.cells #[.int .i64 p, .int .i64 f, .string NM, .string PI, .string TX] 54))
      obtain ⟨g, hg⟩ : ∃ g, w2.heap.size = g := ⟨_, rfl⟩
      clear hb r0 r1 r2 r3 r4
      go_upto_region 4 with fail
      rw [hg] at HY
      obtain ⟨wz, hwz⟩ : ∃ wz, w2.alloc (.cells #[.int .i64 p, .int .i64 f, .string NM, .string PI, .string TX] 54) = wz := ⟨_, rfl⟩
      rw [hwz] at HZ HY HB ⊢
      clear hg hwz
      have r0 := blk_cell HZ.out 0
      have r1 := blk_cell HZ.out 1
      have r2 := blk_cell HZ.out 2
      have r3 := blk_cell HZ.out 3
      have r4 := blk_cell HZ.out 4

      have s0 := blk_cell HY.out 0
      have s1 := blk_cell HY.out 1
      have s2 := blk_cell HY.out 2
      have s3 := blk_cell HY.out 3
      have s4 := blk_cell HY.out 4

      refine start_ (n := 5) (S := fun w' => w'.cell? ⟨w.heap.size, 0, none⟩ = some (.int .i64 p) ∧ w'.cell? ⟨w.heap.size, 1, none⟩ = some (.int .i64 f) ∧ w'.cell? ⟨w.heap.size, 2, none⟩ = some (.string NM) ∧ w'.cell? ⟨w.heap.size, 3, none⟩ = some (.string PI) ∧ w'.cell? ⟨w.heap.size, 4, none⟩ = some (.string TX) ∧ w'.cell? ⟨g, 0, none⟩ = some (.int .i64 p) ∧ w'.cell? ⟨g, 1, none⟩ = some (.int .i64 f) ∧ w'.cell? ⟨g, 2, none⟩ = some (.string NM) ∧ w'.cell? ⟨g, 3, none⟩ = some (.string PI) ∧ w'.cell? ⟨g, 4, none⟩ = some (.string TX)) (ds := []) #[false, false, false, false, false] (by kernel_rfl) rfl rfl ⟨r0, r1, r2, r3, r4, s0, s1, s2, s3, s4⟩ (fun hHeld => ?_)
      refine take_ (i := 0) (N := some 10) (v := ?_) (a' := ?_) #[true, false, false, false, false] rfl rfl (by kernel_rfl) (fun _ _ _ h => h) (Or.inl ⟨by rfl, ?_⟩) hHeld ?_ ?_
      rotate_left
      · rintro w' ⟨s0, s1, s2, s3, s4, s5, s6, s7, s8, s9⟩
        go_simp
        with_reducible rfl
      rotate_left
      · simp only [Act.put, List.setIfInBounds_toArray, List.set_cons_zero, List.set_cons_succ, i64_w, i32_w]
        rfl
      refine take_ (i := 2) (N := some 12) (v := ?_) (a' := ?_) #[true, false, true, false, false] rfl rfl (by kernel_rfl) (fun _ _ _ h => h) (Or.inl ⟨by rfl, ?_⟩) hHeld ?_ ?_
      rotate_left
      · rintro w' ⟨s0, s1, s2, s3, s4, s5, s6, s7, s8, s9⟩
        go_simp
        with_reducible rfl
      rotate_left
      · simp only [Act.put, List.setIfInBounds_toArray, List.set_cons_zero, List.set_cons_succ, i64_w, i32_w]
        rfl
      refine one_ (i := 1) (N := some 11) #[true, true, true, false, false] rfl rfl (by kernel_rfl) (by decide) (fun K hK => ?_)
      refine goes_ Try.func40 (by kernel_rfl) rfl #[.agg #[.int .i64 p, .int .i64 f, .string NM, .string PI, .string TX]] (by rfl) rfl rfl (by (try simp only [List.map_toArray, List.map_cons, List.map_nil]); first | done | rfl) ?_
      with_reducible refine (CQ.out _).mono ?_
      rintro e w3 ⟨rfl, hb3⟩
      refine ⟨_, rfl, ?_⟩
      refine hK.out _ _ ⟨(pw_cell_below hb3 hHeld.1), (pw_cell_below hb3 hHeld.2.1), (pw_cell_below hb3 hHeld.2.2.1), (pw_cell_below hb3 hHeld.2.2.2.1), (pw_cell_below hb3 hHeld.2.2.2.2.1), (pw_cell_below hb3 hHeld.2.2.2.2.2.1), (pw_cell_below hb3 hHeld.2.2.2.2.2.2.1), (pw_cell_below hb3 hHeld.2.2.2.2.2.2.2.1), (pw_cell_below hb3 hHeld.2.2.2.2.2.2.2.2.1), (pw_cell_below hb3 hHeld.2.2.2.2.2.2.2.2.2)⟩ (fun hHeld => ?_)
      clear hK K
      refine norm_ (a' := ?_) ?_ ?_
      rotate_left
      · show Act.put _ (some 11) _ = _
        simp only [Act.put, List.setIfInBounds_toArray, List.set_cons_zero, List.set_cons_succ, i64_w, i32_w]
        rfl
      refine one_ (i := 3) (N := some 13) #[true, true, true, true, false] rfl rfl (by kernel_rfl) (by decide) (fun K hK => ?_)
      refine goes_ Try.func32 (by kernel_rfl) rfl #[.agg #[.int .i64 p, .int .i64 f, .string NM, .string PI, .string TX]] (by rfl) rfl rfl (by (try simp only [List.map_toArray, List.map_cons, List.map_nil]); first | done | rfl) ?_
      with_reducible refine (CR.out _).mono ?_
      rintro e w4 ⟨rfl, hb4⟩
      refine ⟨_, rfl, ?_⟩
      refine hK.out _ _ ⟨(pw_cell_below hb4 hHeld.1), (pw_cell_below hb4 hHeld.2.1), (pw_cell_below hb4 hHeld.2.2.1), (pw_cell_below hb4 hHeld.2.2.2.1), (pw_cell_below hb4 hHeld.2.2.2.2.1), (pw_cell_below hb4 hHeld.2.2.2.2.2.1), (pw_cell_below hb4 hHeld.2.2.2.2.2.2.1), (pw_cell_below hb4 hHeld.2.2.2.2.2.2.2.1), (pw_cell_below hb4 hHeld.2.2.2.2.2.2.2.2.1), (pw_cell_below hb4 hHeld.2.2.2.2.2.2.2.2.2)⟩ (fun hHeld => ?_)
      clear hK K
      refine norm_ (a' := ?_) ?_ ?_
      rotate_left
      · show Act.put _ (some 13) _ = _
        simp only [Act.put, List.setIfInBounds_toArray, List.set_cons_zero, List.set_cons_succ, i64_w, i32_w]
        rfl
      refine pure_ (i := 4) (N := some 14) (v := ?_) (a' := ?_) #[true, true, true, true, true] rfl rfl (by kernel_rfl) (fun _ _ _ h => h) (Or.inl ⟨by rfl, ?_⟩) ?_ ?_
      rotate_left
      · intro w'
        go_simp
        with_reducible rfl
      rotate_left
      · simp only [Act.put, List.setIfInBounds_toArray, List.set_cons_zero, List.set_cons_succ, i64_w, i32_w]
        rfl
      refine done_ (by kernel_rfl) ?_
      replace HZ := Aside0.mk (blk_below (blk_below (blk_drew HZ.out) hb3) hb4)
      replace HY := Aside0.mk (blk_below (blk_below (blk_drew HY.out) hb3) hb4)
      replace HB := Aside0.mk (below_step (below_step (below_drew HB.out) hb3) hb4)
      clear hb3 hb4 r0 r1 r2 r3 r4 s0 s1 s2 s3 s4
      have r0 := blk_cell HZ.out 0
      have r1 := blk_cell HZ.out 1
      have r2 := blk_cell HZ.out 2
      have r3 := blk_cell HZ.out 3
      have r4 := blk_cell HZ.out 4

      have s0 := blk_cell HY.out 0
      have s1 := blk_cell HY.out 1
      have s2 := blk_cell HY.out 2
      have s3 := blk_cell HY.out 3
      have s4 := blk_cell HY.out 4

      go_upto_region 6 with fail
      refine start_ (n := 21) (S := fun w' => w'.cell? ⟨w.heap.size, 0, none⟩ = some (.int .i64 p) ∧ w'.cell? ⟨w.heap.size, 1, none⟩ = some (.int .i64 f) ∧ w'.cell? ⟨w.heap.size, 2, none⟩ = some (.string NM) ∧ w'.cell? ⟨w.heap.size, 3, none⟩ = some (.string PI) ∧ w'.cell? ⟨w.heap.size, 4, none⟩ = some (.string TX) ∧ w'.cell? ⟨g, 0, none⟩ = some (.int .i64 p) ∧ w'.cell? ⟨g, 1, none⟩ = some (.int .i64 f) ∧ w'.cell? ⟨g, 2, none⟩ = some (.string NM) ∧ w'.cell? ⟨g, 3, none⟩ = some (.string PI) ∧ w'.cell? ⟨g, 4, none⟩ = some (.string TX)) (ds := []) #[false, false, false, false, false, false, false, false, false, false, false, false, false, false, false, false, false, false, false, false, false] (by kernel_rfl) rfl rfl ⟨r0, r1, r2, r3, r4, s0, s1, s2, s3, s4⟩ (fun hHeld => ?_)
      refine take_ (i := 0) (N := some 15) (v := ?_) (a' := ?_) #[true, false, false, false, false, false, false, false, false, false, false, false, false, false, false, false, false, false, false, false, false] rfl rfl (by kernel_rfl) (fun _ _ _ h => h) (Or.inl ⟨by rfl, ?_⟩) hHeld ?_ ?_
      rotate_left
      · rintro w' ⟨s0, s1, s2, s3, s4, s5, s6, s7, s8, s9⟩
        go_simp
        with_reducible rfl
      rotate_left
      · simp only [Act.put, List.setIfInBounds_toArray, List.set_cons_zero, List.set_cons_succ, i64_w, i32_w]
        rfl
      refine one_ (i := 1) (N := some 16) #[true, true, false, false, false, false, false, false, false, false, false, false, false, false, false, false, false, false, false, false, false] rfl rfl (by kernel_rfl) (by decide) (fun K hK => ?_)
      refine goes_ Try.func32 (by kernel_rfl) rfl #[.agg #[.int .i64 p, .int .i64 f, .string NM, .string PI, .string TX]] (by rfl) rfl rfl (by (try simp only [List.map_toArray, List.map_cons, List.map_nil]); first | done | rfl) ?_
      with_reducible refine (CR.out _).mono ?_
      rintro e w5 ⟨rfl, hb5⟩
      refine ⟨_, rfl, ?_⟩
      refine hK.out _ _ ⟨(pw_cell_below hb5 hHeld.1), (pw_cell_below hb5 hHeld.2.1), (pw_cell_below hb5 hHeld.2.2.1), (pw_cell_below hb5 hHeld.2.2.2.1), (pw_cell_below hb5 hHeld.2.2.2.2.1), (pw_cell_below hb5 hHeld.2.2.2.2.2.1), (pw_cell_below hb5 hHeld.2.2.2.2.2.2.1), (pw_cell_below hb5 hHeld.2.2.2.2.2.2.2.1), (pw_cell_below hb5 hHeld.2.2.2.2.2.2.2.2.1), (pw_cell_below hb5 hHeld.2.2.2.2.2.2.2.2.2)⟩ (fun hHeld => ?_)
      clear hK K
      refine norm_ (a' := ?_) ?_ ?_
      rotate_left
      · show Act.put _ (some 16) _ = _
        simp only [Act.put, List.setIfInBounds_toArray, List.set_cons_zero, List.set_cons_succ, i64_w, i32_w]
        rfl
      refine pure_ (i := 2) (N := some 17) (v := ?_) (a' := ?_) #[true, true, true, false, false, false, false, false, false, false, false, false, false, false, false, false, false, false, false, false, false] rfl rfl (by kernel_rfl) (fun _ _ _ h => h) (Or.inl ⟨by rfl, ?_⟩) ?_ ?_
      rotate_left
      · intro w'
        go_simp
        with_reducible rfl
      rotate_left
      · simp only [Act.put, List.setIfInBounds_toArray, List.set_cons_zero, List.set_cons_succ, i64_w, i32_w]
        rfl
      refine pure_ (i := 3) (N := some 18) (v := ?_) (a' := ?_) #[true, true, true, true, false, false, false, false, false, false, false, false, false, false, false, false, false, false, false, false, false] rfl rfl (by kernel_rfl) (fun _ _ _ h => h) (Or.inl ⟨by rfl, ?_⟩) ?_ ?_
      rotate_left
      · intro w'
        go_simp
        with_reducible rfl
      rotate_left
      · simp only [Act.put, List.setIfInBounds_toArray, List.set_cons_zero, List.set_cons_succ, i64_w, i32_w]
        rfl
      refine pure_ (i := 4) (N := some 19) (v := undef) (a' := ?_) #[true, true, true, true, true, false, false, false, false, false, false, false, false, false, false, false, false, false, false, false, false] rfl rfl (by kernel_rfl) (fun _ _ _ h => h) (Or.inr ⟨by rfl, rfl⟩) ?_ ?_
      rotate_left
      · simp only [Act.put, List.setIfInBounds_toArray, List.set_cons_zero, List.set_cons_succ, i64_w, i32_w]
        rfl
      refine pure_ (i := 5) (N := some 20) (v := undef) (a' := ?_) #[true, true, true, true, true, true, false, false, false, false, false, false, false, false, false, false, false, false, false, false, false] rfl rfl (by kernel_rfl) (fun _ _ _ h => h) (Or.inr ⟨by rfl, rfl⟩) ?_ ?_
      rotate_left
      · simp only [Act.put, List.setIfInBounds_toArray, List.set_cons_zero, List.set_cons_succ, i64_w, i32_w]
        rfl
      refine pure_ (i := 6) (N := some 21) (v := undef) (a' := ?_) #[true, true, true, true, true, true, true, false, false, false, false, false, false, false, false, false, false, false, false, false, false] rfl rfl (by kernel_rfl) (fun _ _ _ h => h) (Or.inr ⟨by rfl, rfl⟩) ?_ ?_
      rotate_left
      · simp only [Act.put, List.setIfInBounds_toArray, List.set_cons_zero, List.set_cons_succ, i64_w, i32_w]
        rfl
      refine pure_ (i := 7) (N := some 22) (v := undef) (a' := ?_) #[true, true, true, true, true, true, true, true, false, false, false, false, false, false, false, false, false, false, false, false, false] rfl rfl (by kernel_rfl) (fun _ _ _ h => h) (Or.inr ⟨by rfl, rfl⟩) ?_ ?_
      rotate_left
      · simp only [Act.put, List.setIfInBounds_toArray, List.set_cons_zero, List.set_cons_succ, i64_w, i32_w]
        rfl
      refine pure_ (i := 8) (N := some 23) (v := undef) (a' := ?_) #[true, true, true, true, true, true, true, true, true, false, false, false, false, false, false, false, false, false, false, false, false] rfl rfl (by kernel_rfl) (fun _ _ _ h => h) (Or.inr ⟨by rfl, rfl⟩) ?_ ?_
      rotate_left
      · simp only [Act.put, List.setIfInBounds_toArray, List.set_cons_zero, List.set_cons_succ, i64_w, i32_w]
        rfl
      refine pure_ (i := 9) (N := some 24) (v := undef) (a' := ?_) #[true, true, true, true, true, true, true, true, true, true, false, false, false, false, false, false, false, false, false, false, false] rfl rfl (by kernel_rfl) (fun _ _ _ h => h) (Or.inr ⟨by rfl, rfl⟩) ?_ ?_
      rotate_left
      · simp only [Act.put, List.setIfInBounds_toArray, List.set_cons_zero, List.set_cons_succ, i64_w, i32_w]
        rfl
      refine pure_ (i := 10) (N := some 25) (v := undef) (a' := ?_) #[true, true, true, true, true, true, true, true, true, true, true, false, false, false, false, false, false, false, false, false, false] rfl rfl (by kernel_rfl) (fun _ _ _ h => h) (Or.inr ⟨by rfl, rfl⟩) ?_ ?_
      rotate_left
      · simp only [Act.put, List.setIfInBounds_toArray, List.set_cons_zero, List.set_cons_succ, i64_w, i32_w]
        rfl
      refine pure_ (i := 11) (N := some 26) (v := undef) (a' := ?_) #[true, true, true, true, true, true, true, true, true, true, true, true, false, false, false, false, false, false, false, false, false] rfl rfl (by kernel_rfl) (fun _ _ _ h => h) (Or.inr ⟨by rfl, rfl⟩) ?_ ?_
      rotate_left
      · simp only [Act.put, List.setIfInBounds_toArray, List.set_cons_zero, List.set_cons_succ, i64_w, i32_w]
        rfl
      refine pure_ (i := 12) (N := some 27) (v := undef) (a' := ?_) #[true, true, true, true, true, true, true, true, true, true, true, true, true, false, false, false, false, false, false, false, false] rfl rfl (by kernel_rfl) (fun _ _ _ h => h) (Or.inr ⟨by rfl, rfl⟩) ?_ ?_
      rotate_left
      · simp only [Act.put, List.setIfInBounds_toArray, List.set_cons_zero, List.set_cons_succ, i64_w, i32_w]
        rfl
      refine pure_ (i := 13) (N := some 28) (v := undef) (a' := ?_) #[true, true, true, true, true, true, true, true, true, true, true, true, true, true, false, false, false, false, false, false, false] rfl rfl (by kernel_rfl) (fun _ _ _ h => h) (Or.inr ⟨by rfl, rfl⟩) ?_ ?_
      rotate_left
      · simp only [Act.put, List.setIfInBounds_toArray, List.set_cons_zero, List.set_cons_succ, i64_w, i32_w]
        rfl
      refine pure_ (i := 14) (N := some 29) (v := undef) (a' := ?_) #[true, true, true, true, true, true, true, true, true, true, true, true, true, true, true, false, false, false, false, false, false] rfl rfl (by kernel_rfl) (fun _ _ _ h => h) (Or.inr ⟨by rfl, rfl⟩) ?_ ?_
      rotate_left
      · simp only [Act.put, List.setIfInBounds_toArray, List.set_cons_zero, List.set_cons_succ, i64_w, i32_w]
        rfl
      refine pure_ (i := 15) (N := some 30) (v := undef) (a' := ?_) #[true, true, true, true, true, true, true, true, true, true, true, true, true, true, true, true, false, false, false, false, false] rfl rfl (by kernel_rfl) (fun _ _ _ h => h) (Or.inr ⟨by rfl, rfl⟩) ?_ ?_
      rotate_left
      · simp only [Act.put, List.setIfInBounds_toArray, List.set_cons_zero, List.set_cons_succ, i64_w, i32_w]
        rfl
      refine pure_ (i := 16) (N := some 31) (v := ?_) (a' := ?_) #[true, true, true, true, true, true, true, true, true, true, true, true, true, true, true, true, true, false, false, false, false] rfl rfl (by kernel_rfl) (fun _ _ _ h => h) (Or.inl ⟨by rfl, ?_⟩) ?_ ?_
      rotate_left
      · intro w'
        go_simp
        with_reducible rfl
      rotate_left
      · simp only [Act.put, List.setIfInBounds_toArray, List.set_cons_zero, List.set_cons_succ, i64_w, i32_w]
        rfl
      refine pure_ (i := 17) (N := some 32) (v := ?_) (a' := ?_) #[true, true, true, true, true, true, true, true, true, true, true, true, true, true, true, true, true, true, false, false, false] rfl rfl (by kernel_rfl) (fun _ _ _ h => h) (Or.inl ⟨by rfl, ?_⟩) ?_ ?_
      rotate_left
      · intro w'
        go_simp
        with_reducible rfl
      rotate_left
      · simp only [Act.put, List.setIfInBounds_toArray, List.set_cons_zero, List.set_cons_succ, i64_w, i32_w]
        rfl
      refine one_ (i := 18) (N := some 33) #[true, true, true, true, true, true, true, true, true, true, true, true, true, true, true, true, true, true, true, false, false] rfl rfl (by kernel_rfl) (by decide) (fun K hK => ?_)
      refine goes_ Try.func33 (by kernel_rfl) rfl #[] (by rfl) rfl rfl (by (try simp only [List.map_toArray, List.map_cons, List.map_nil]); first | done | rfl) ?_
      with_reducible refine (sy_awake_calls _).mono ?_
      rintro e w9 ⟨rfl, hb9⟩
      refine ⟨_, rfl, ?_⟩
      refine hK.out _ _ ⟨(pw_cell_below hb9 hHeld.1), (pw_cell_below hb9 hHeld.2.1), (pw_cell_below hb9 hHeld.2.2.1), (pw_cell_below hb9 hHeld.2.2.2.1), (pw_cell_below hb9 hHeld.2.2.2.2.1), (pw_cell_below hb9 hHeld.2.2.2.2.2.1), (pw_cell_below hb9 hHeld.2.2.2.2.2.2.1), (pw_cell_below hb9 hHeld.2.2.2.2.2.2.2.1), (pw_cell_below hb9 hHeld.2.2.2.2.2.2.2.2.1), (pw_cell_below hb9 hHeld.2.2.2.2.2.2.2.2.2)⟩ (fun hHeld => ?_)
      clear hK K
      refine norm_ (a' := ?_) ?_ ?_
      rotate_left
      · show Act.put _ (some 33) _ = _
        simp only [Act.put, List.setIfInBounds_toArray, List.set_cons_zero, List.set_cons_succ, i64_w, i32_w]
        rfl
      refine pure_ (i := 19) (N := some 34) (v := ?_) (a' := ?_) #[true, true, true, true, true, true, true, true, true, true, true, true, true, true, true, true, true, true, true, true, false] rfl rfl (by kernel_rfl) (fun _ _ _ h => h) (Or.inl ⟨by rfl, ?_⟩) ?_ ?_
      rotate_left
      · intro w'
        go_simp
        with_reducible rfl
      rotate_left
      · simp only [Act.put, List.setIfInBounds_toArray, List.set_cons_zero, List.set_cons_succ, i64_w, i32_w]
        rfl
      refine pure_ (i := 20) (N := some 2) (v := ?_) (a' := ?_) #[true, true, true, true, true, true, true, true, true, true, true, true, true, true, true, true, true, true, true, true, true] rfl rfl (by kernel_rfl) (fun _ _ _ h => h) (Or.inl ⟨by rfl, ?_⟩) ?_ ?_
      rotate_left
      · intro w'
        go_simp
        with_reducible rfl
      rotate_left
      · simp only [Act.put, List.setIfInBounds_toArray, List.set_cons_zero, List.set_cons_succ, i64_w, i32_w]
        rfl
      refine done_ (by kernel_rfl) ?_
      replace HB := Aside0.mk (below_step (below_step (below_drew HB.out) hb5) hb9)
      clear hb5 hb9
      go_wp2_with fail
      go_ret
      exact ⟨rfl, HB.out⟩
set_option maxHeartbeats 8000000 in
set_option maxRecDepth 100000 in
theorem SyslogItems_calls (p f : Int) (nm pi tx : List Int) (w : World) (hb1 : isB nm) (hb2 : isB pi) (hb3 : isB tx) : Calls Try.prog 9 #[syV (p, f, nm, pi, tx)] w fun e w' => e = .returned (.bool true) ∧ Below w.heap.size w w' := by
  have q1 := strOf_size nm
  have q2 := strOf_size pi
  have q3 := strOf_size tx
  rw [syV]
  dsimp only

  by_cases c1 : 200 < nm.length ∨ 100 < pi.length ∨ 1000 < tx.length
  · have CS := Aside0.mk (fun w => sy_short_no p f _ _ _ _ _ _ w q1 q2 q3 c1)
    obtain ⟨NM, hNM⟩ : ∃ V, strOfNums nm = V := ⟨_, rfl⟩
    obtain ⟨PI, hPI⟩ : ∃ V, strOfNums pi = V := ⟨_, rfl⟩
    obtain ⟨TX, hTX⟩ : ∃ V, strOfNums tx = V := ⟨_, rfl⟩
    rw [hNM, hPI, hTX] at CS ⊢
    clear hNM hPI hTX c1 q1 q2 q3
    go_enter Try.func9, Try.ntmps9
    go_wp2_with fail
    refine (CS.out _).mono ?_
    rintro _ w1 ⟨rfl, hb⟩
    have HZ := blk_below (blk_new w (.cells #[.int .i64 p, .int .i64 f, .string NM, .string PI, .string TX] 51)) hb
    have HB := Aside0.mk (below_step (below_alloc (Below.refl w.heap.size w) (.cells #[.int .i64 p, .int .i64 f, .string NM, .string PI, .string TX] 51)) hb)
    clear hb
    go_wp2_with fail
    refine (sy_awake_calls _).mono ?_
    rintro _ w2 ⟨rfl, hb⟩
    replace HB := Aside0.mk (below_step HB.out hb)
    clear hb
    go_wp2_with fail
    go_ret
    exact ⟨rfl, HB.out⟩

  · have CS := Aside0.mk (fun w => sy_short_yes p f _ _ _ _ _ _ w q1 q2 q3 (by omega) (by omega) (by omega))
    have CR := Aside0.mk (fun w => rRight_calls p f nm pi tx w hb1 hb2 hb3 (by omega) (by omega))
    rw [syV] at CR
    dsimp only at CR
    by_cases hri : riP (p, f, nm, pi, tx)
    · rw [decide_eq_true hri] at CR
      have hpf := hri.1
      dsimp only at hpf
      obtain ⟨n, hn⟩ : ∃ n, (itL p f nm pi (strOfNums nm) (strOfNums pi) (strOfNums tx)).length = n := ⟨_, rfl⟩
      have hn5 := itL_len p f nm pi (strOfNums nm) (strOfNums pi) (strOfNums tx)
      rw [hn] at hn5
      have C1 := Aside0.mk (fun w => sItems_rd p f nm pi _ _ _ n w hn (by omega) (by omega) rfl rfl (by omega) (by omega) (by omega))
      have C2 := Aside0.mk (fun w => rItems_rd p f nm pi _ _ _ n w hn (by omega) (by omega) rfl rfl (by omega) (by omega) (by omega))
      obtain ⟨L, hL⟩ : ∃ L, itL p f nm pi (strOfNums nm) (strOfNums pi) (strOfNums tx) = L := ⟨_, rfl⟩
      rw [hL] at hn C1 C2
      have HN := Aside0.mk hn
      obtain ⟨NM, hNM⟩ : ∃ V, strOfNums nm = V := ⟨_, rfl⟩
      obtain ⟨PI, hPI⟩ : ∃ V, strOfNums pi = V := ⟨_, rfl⟩
      obtain ⟨TX, hTX⟩ : ∃ V, strOfNums tx = V := ⟨_, rfl⟩
      rw [hNM, hPI, hTX] at CS CR C1 C2 ⊢
      clear hNM hPI hTX c1 q1 q2 q3 hL hri hpf hb1 hb2 hb3 hn
      go_enter Try.func9, Try.ntmps9
      go_wp2_with fail
      refine (CS.out _).mono ?_
      rintro _ w1 ⟨rfl, hb⟩
      have HZ := Aside0.mk (blk_below (blk_new w (.cells #[.int .i64 p, .int .i64 f, .string NM, .string PI, .string TX] 51)) hb)
      have HB := Aside0.mk (below_step (below_alloc (Below.refl w.heap.size w) (.cells #[.int .i64 p, .int .i64 f, .string NM, .string PI, .string TX] 51)) hb)
      clear hb
      have r0 := blk_cell HZ.out 0
      have r1 := blk_cell HZ.out 1
      have r2 := blk_cell HZ.out 2
      have r3 := blk_cell HZ.out 3
      have r4 := blk_cell HZ.out 4

      go_wp2_with fail
      refine (CR.out _).mono ?_
      rintro _ w2 ⟨rfl, hb⟩
      replace HZ := Aside0.mk (blk_below HZ.out hb)
      replace HB := Aside0.mk (below_step HB.out hb)
      clear hb r0 r1 r2 r3 r4
      have r0 := blk_cell HZ.out 0
      have r1 := blk_cell HZ.out 1
      have r2 := blk_cell HZ.out 2
      have r3 := blk_cell HZ.out 3
      have r4 := blk_cell HZ.out 4

      go_upto_region 3 with fail
      refine start_ (n := 10) (S := fun w' => w'.cell? ⟨w.heap.size, 0, none⟩ = some (.int .i64 p) ∧ w'.cell? ⟨w.heap.size, 1, none⟩ = some (.int .i64 f) ∧ w'.cell? ⟨w.heap.size, 2, none⟩ = some (.string NM) ∧ w'.cell? ⟨w.heap.size, 3, none⟩ = some (.string PI) ∧ w'.cell? ⟨w.heap.size, 4, none⟩ = some (.string TX)) (ds := []) #[false, false, false, false, false, false, false, false, false, false] (by kernel_rfl) rfl rfl ⟨r0, r1, r2, r3, r4⟩ (fun hHeld => ?_)
      refine take_ (i := 0) (N := some 12) (v := ?_) (a' := ?_) #[true, false, false, false, false, false, false, false, false, false] rfl rfl (by kernel_rfl) (fun _ _ _ h => h) (Or.inl ⟨by rfl, ?_⟩) hHeld ?_ ?_
      rotate_left
      · rintro w' ⟨s0, s1, s2, s3, s4⟩
        go_simp
        with_reducible rfl
      rotate_left
      · simp only [Act.put, List.setIfInBounds_toArray, List.set_cons_zero, List.set_cons_succ, i64_w, i32_w]
        rfl
      refine take_ (i := 3) (N := some 15) (v := ?_) (a' := ?_) #[true, false, false, true, false, false, false, false, false, false] rfl rfl (by kernel_rfl) (fun _ _ _ h => h) (Or.inl ⟨by rfl, ?_⟩) hHeld ?_ ?_
      rotate_left
      · rintro w' ⟨s0, s1, s2, s3, s4⟩
        go_simp
        with_reducible rfl
      rotate_left
      · simp only [Act.put, List.setIfInBounds_toArray, List.set_cons_zero, List.set_cons_succ, i64_w, i32_w]
        rfl
      refine one_ (i := 1) (N := some 13) #[true, true, false, true, false, false, false, false, false, false] rfl rfl (by kernel_rfl) (by decide) (fun K hK => ?_)
      refine goes_ Try.func35 (by kernel_rfl) rfl #[.agg #[.int .i64 p, .int .i64 f, .string NM, .string PI, .string TX]] (by rfl) rfl rfl (by (try simp only [List.map_toArray, List.map_cons, List.map_nil]); first | done | rfl) ?_
      with_reducible refine (sy_to_calls p f NM PI TX _).mono ?_
      rintro e w3 ⟨rfl, hb3⟩
      refine ⟨_, rfl, ?_⟩
      refine hK.out _ _ ⟨(pw_cell_below hb3 hHeld.1), (pw_cell_below hb3 hHeld.2.1), (pw_cell_below hb3 hHeld.2.2.1), (pw_cell_below hb3 hHeld.2.2.2.1), (pw_cell_below hb3 hHeld.2.2.2.2)⟩ (fun hHeld => ?_)
      clear hK K
      refine norm_ (a' := ?_) ?_ ?_
      rotate_left
      · show Act.put _ (some 13) _ = _
        simp only [Act.put, List.setIfInBounds_toArray, List.set_cons_zero, List.set_cons_succ, i64_w, i32_w]
        rfl
      refine one_ (i := 2) (N := some 14) #[true, true, true, true, false, false, false, false, false, false] rfl rfl (by kernel_rfl) (by decide) (fun K hK => ?_)
      refine goes_ Try.func36 (by kernel_rfl) rfl #[.agg #[.int .i64 p, .int .i64 f, .string NM, .string PI, .string TX]] (by rfl) rfl rfl (by (try simp only [List.map_toArray, List.map_cons, List.map_nil]); first | done | rfl) ?_
      with_reducible refine (C1.out _).mono ?_
      rintro e w4 ⟨A4, c4, rfl, hr4, hb4⟩
      refine ⟨_, rfl, ?_⟩
      refine hK.out _ _ ⟨(pw_cell_below hb4 hHeld.1), (pw_cell_below hb4 hHeld.2.1), (pw_cell_below hb4 hHeld.2.2.1), (pw_cell_below hb4 hHeld.2.2.2.1), (pw_cell_below hb4 hHeld.2.2.2.2)⟩ (fun hHeld => ?_)
      clear hK K
      refine norm_ (a' := ?_) ?_ ?_
      rotate_left
      · show Act.put _ (some 14) _ = _
        simp only [Act.put, List.setIfInBounds_toArray, List.set_cons_zero, List.set_cons_succ, i64_w, i32_w]
        rfl
      refine one_ (i := 4) (N := some 16) #[true, true, true, true, true, false, false, false, false, false] rfl rfl (by kernel_rfl) (by decide) (fun K hK => ?_)
      refine goes_ Try.func37 (by kernel_rfl) rfl #[.agg #[.int .i64 p, .int .i64 f, .string NM, .string PI, .string TX]] (by rfl) rfl rfl (by (try simp only [List.map_toArray, List.map_cons, List.map_nil]); first | done | rfl) ?_
      with_reducible refine (C2.out _).mono ?_
      rintro e w5 ⟨A5, c5, rfl, hr5, hb5⟩
      refine ⟨_, rfl, ?_⟩
      refine hK.out _ _ ⟨(pw_cell_below hb5 hHeld.1), (pw_cell_below hb5 hHeld.2.1), (pw_cell_below hb5 hHeld.2.2.1), (pw_cell_below hb5 hHeld.2.2.2.1), (pw_cell_below hb5 hHeld.2.2.2.2)⟩ (fun hHeld => ?_)
      clear hK K
      refine norm_ (a' := ?_) ?_ ?_
      rotate_left
      · show Act.put _ (some 16) _ = _
        simp only [Act.put, List.setIfInBounds_toArray, List.set_cons_zero, List.set_cons_succ, i64_w, i32_w]
        rfl
      refine one_ (i := 5) (N := some 17) #[true, true, true, true, true, true, false, false, false, false] rfl rfl (by kernel_rfl) (by decide) (fun K hK => ?_)
      refine goes_ Try.func34 (by kernel_rfl) rfl #[.slice A4 n c4, .slice A5 n c5] (by rfl) rfl rfl (by (try simp only [List.map_toArray, List.map_cons, List.map_nil]); first | done | rfl) ?_
      with_reducible refine (texts_same A4 A5 c4 c5 L n _ HN.out (by omega) (hr4.below hb5) hr5).mono ?_
      rintro e w6 ⟨rfl, hb6⟩
      refine ⟨_, rfl, ?_⟩
      refine hK.out _ _ ⟨(pw_cell_below hb6 hHeld.1), (pw_cell_below hb6 hHeld.2.1), (pw_cell_below hb6 hHeld.2.2.1), (pw_cell_below hb6 hHeld.2.2.2.1), (pw_cell_below hb6 hHeld.2.2.2.2)⟩ (fun hHeld => ?_)
      clear hK K
      refine norm_ (a' := ?_) ?_ ?_
      rotate_left
      · show Act.put _ (some 17) _ = _
        simp only [Act.put, List.setIfInBounds_toArray, List.set_cons_zero, List.set_cons_succ, i64_w, i32_w]
        rfl
      refine pure_ (i := 6) (N := some 18) (v := ?_) (a' := ?_) #[true, true, true, true, true, true, true, false, false, false] rfl rfl (by kernel_rfl) (fun _ _ _ h => h) (Or.inl ⟨by rfl, ?_⟩) ?_ ?_
      rotate_left
      · intro w'
        go_simp
        with_reducible rfl
      rotate_left
      · simp only [Act.put, List.setIfInBounds_toArray, List.set_cons_zero, List.set_cons_succ, i64_w, i32_w]
        rfl
      refine one_ (i := 7) (N := some 19) #[true, true, true, true, true, true, true, true, false, false] rfl rfl (by kernel_rfl) (by decide) (fun K hK => ?_)
      refine goes_ Try.func33 (by kernel_rfl) rfl #[] (by rfl) rfl rfl (by (try simp only [List.map_toArray, List.map_cons, List.map_nil]); first | done | rfl) ?_
      with_reducible refine (sy_awake_calls _).mono ?_
      rintro e w7 ⟨rfl, hb7⟩
      refine ⟨_, rfl, ?_⟩
      refine hK.out _ _ ⟨(pw_cell_below hb7 hHeld.1), (pw_cell_below hb7 hHeld.2.1), (pw_cell_below hb7 hHeld.2.2.1), (pw_cell_below hb7 hHeld.2.2.2.1), (pw_cell_below hb7 hHeld.2.2.2.2)⟩ (fun hHeld => ?_)
      clear hK K
      refine norm_ (a' := ?_) ?_ ?_
      rotate_left
      · show Act.put _ (some 19) _ = _
        simp only [Act.put, List.setIfInBounds_toArray, List.set_cons_zero, List.set_cons_succ, i64_w, i32_w]
        rfl
      refine pure_ (i := 8) (N := some 20) (v := ?_) (a' := ?_) #[true, true, true, true, true, true, true, true, true, false] rfl rfl (by kernel_rfl) (fun _ _ _ h => h) (Or.inl ⟨by rfl, ?_⟩) ?_ ?_
      rotate_left
      · intro w'
        go_simp
        with_reducible rfl
      rotate_left
      · simp only [Act.put, List.setIfInBounds_toArray, List.set_cons_zero, List.set_cons_succ, i64_w, i32_w]
        rfl
      refine pure_ (i := 9) (N := some 2) (v := ?_) (a' := ?_) #[true, true, true, true, true, true, true, true, true, true] rfl rfl (by kernel_rfl) (fun _ _ _ h => h) (Or.inl ⟨by rfl, ?_⟩) ?_ ?_
      rotate_left
      · intro w'
        go_simp
        with_reducible rfl
      rotate_left
      · simp only [Act.put, List.setIfInBounds_toArray, List.set_cons_zero, List.set_cons_succ, i64_w, i32_w]
        rfl
      refine done_ (by kernel_rfl) ?_
      replace HB := Aside0.mk (below_step (below_step (below_step (below_step (below_step (below_drew HB.out) hb3) hb4) hb5) hb6) hb7)
      clear hb3 hb4 hb5 hb6 hb7
      go_wp2_with fail
      go_ret
      exact ⟨rfl, HB.out⟩
    · rw [decide_eq_false hri] at CR
      obtain ⟨NM, hNM⟩ : ∃ V, strOfNums nm = V := ⟨_, rfl⟩
      obtain ⟨PI, hPI⟩ : ∃ V, strOfNums pi = V := ⟨_, rfl⟩
      obtain ⟨TX, hTX⟩ : ∃ V, strOfNums tx = V := ⟨_, rfl⟩
      rw [hNM, hPI, hTX] at CS CR ⊢
      clear hNM hPI hTX c1 q1 q2 q3 hri hb1 hb2 hb3
      go_enter Try.func9, Try.ntmps9
      go_wp2_with fail
      refine (CS.out _).mono ?_
      rintro _ w1 ⟨rfl, hb⟩
      have HZ := Aside0.mk (blk_below (blk_new w (.cells #[.int .i64 p, .int .i64 f, .string NM, .string PI, .string TX] 51)) hb)
      have HB := Aside0.mk (below_step (below_alloc (Below.refl w.heap.size w) (.cells #[.int .i64 p, .int .i64 f, .string NM, .string PI, .string TX] 51)) hb)
      clear hb
      have r0 := blk_cell HZ.out 0
      have r1 := blk_cell HZ.out 1
      have r2 := blk_cell HZ.out 2
      have r3 := blk_cell HZ.out 3
      have r4 := blk_cell HZ.out 4

      go_wp2_with fail
      refine (CR.out _).mono ?_
      rintro _ w2 ⟨rfl, hb⟩
      replace HZ := Aside0.mk (blk_below HZ.out hb)
      replace HB := Aside0.mk (below_step HB.out hb)
      clear hb r0 r1 r2 r3 r4
      go_wp2_with fail
      refine (sy_awake_calls _).mono ?_
      rintro _ w3 ⟨rfl, hb⟩
      replace HB := Aside0.mk (below_step HB.out hb)
      clear hb
      go_wp2_with fail
      go_ret
      exact ⟨rfl, HB.out⟩
theorem SyslogReads_walk (a0 : ByteArray) (w : World) (w0 : a0.size ≤ 140737488351232) : Calls Try.prog 10 #[.string a0] w fun e w' => e = .returned (.bool true) ∧ Below w.heap.size w w' := by
  rw [← strOf_bytesOf a0]
  exact SyslogReads_calls _ w (bytesOf_isB a0)

theorem SyslogWrites_walk (p f : Int) (a b c : ByteArray) (w : World) (h1 : a.size ≤ 9223372036854775807) (h2 : b.size ≤ 9223372036854775807) (h3 : c.size ≤ 9223372036854775807) : Calls Try.prog 11 #[.agg #[.int .i64 p, .int .i64 f, .string a, .string b, .string c]] w fun e w' => e = .returned (.bool true) ∧ Below w.heap.size w w' := by
  have h := SyslogWrites_calls p f (bytesOf a) (bytesOf b) (bytesOf c) w (bytesOf_isB a) (bytesOf_isB b) (bytesOf_isB c)
  rw [syV] at h
  dsimp only at h
  rw [strOf_bytesOf, strOf_bytesOf, strOf_bytesOf] at h
  exact h
theorem SyslogItems_walk (p f : Int) (a b c : ByteArray) (w : World) (h1 : a.size ≤ 9223372036854775807) (h2 : b.size ≤ 9223372036854775807) (h3 : c.size ≤ 9223372036854775807) : Calls Try.prog 9 #[.agg #[.int .i64 p, .int .i64 f, .string a, .string b, .string c]] w fun e w' => e = .returned (.bool true) ∧ Below w.heap.size w w' := by
  have h := SyslogItems_calls p f (bytesOf a) (bytesOf b) (bytesOf c) w (bytesOf_isB a) (bytesOf_isB b) (bytesOf_isB c)
  rw [syV] at h
  dsimp only at h
  rw [strOf_bytesOf, strOf_bytesOf, strOf_bytesOf] at h
  exact h

end Go.Proofs.Ytplmdgimodgekaa
