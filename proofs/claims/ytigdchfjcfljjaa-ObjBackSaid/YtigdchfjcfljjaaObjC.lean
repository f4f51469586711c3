/- ObjBack: the walk. -/
import Derived.Test.YtigdchfjcfljjaaObjB
import Derived.Test.YtigdchfjcfljjaaObjO
import Derived.Test.YtigdchfjcfljjaaObjS
import Derived.Test.YtigdchfjcfljjaaAp
import Derived.Test.YtigdchfjcfljjaaMk
namespace Go.Proofs.Ytigdchfjcfljjaa
open Go.RowKit Go.Proofs.YtigdchfjcfljjaaW.PrintWords Go.Proofs.YtigdchfjcfljjaaW.PrintLast Go.Proofs.YtigdchfjcfljjaaW.PrintMore
attribute [local go_sem] max2_int min2_int max_two min_two max_three min_three max_four min_four   -- for this text's walks alone
set_option linter.unusedVariables false
set_option linter.unusedSimpArgs false

theorem oneB8 : ∀ x : Int, (Value.int .u8 x).oneCell' = true := fun _ => rfl
theorem app_u8 {W : World} {base : Nat} {v u : Value} {xs ys : List Int} {k m : Nat} (HO : OwnO (Value.int .u8) W base 5 v xs) (HR : Rd W .u8 u ys) (hk : xs.length = k) (hm : ys.length = m) (hbase : base ≤ W.heap.size) (hl : k + m ≤ 1000000) :
    ∃ A1 c1 w1, (Builtin.append_ #[22, 22] 22 #[v, u]).run Try.prog W = .ok (.slice A1 (k + m) c1) w1 ∧ OwnO (Value.int .u8) w1 base 5 (.slice A1 (k + m) c1) (xs ++ ys) ∧ Kp (fun b => v.ownBlock = some b) W w1 := by
  obtain ⟨A1, c1, w1, h1, h2, h3, _⟩ := app_rd (P := Try.prog) (d := (0 : Int)) oneB8 Try.underlying22 infoU8 rfl (by omega) HO (rdE_int.2 HR) hk hm hbase (by omega)
  exact ⟨A1, c1, w1, h1, h2, h3⟩
set_option maxHeartbeats 8000000 in
set_option maxRecDepth 100000 in
theorem ObjBack_yes (kd : Int) (ws raw it : List Int) (A1 A2 A3 A4 : Option Addr) (c1 c2 c3 c4 : Nat) (f : Nat) (bh : List Int) (w : World) (h1 : Rd w .u64 (.slice A1 ws.length c1) ws) (h2 : Rd w .u8 (.slice A2 raw.length c2) raw) (h3 : Rd w .u64 (.slice A3 it.length c3) it) (h4 : Rd w .u8 (.slice A4 bh.length c4) bh)
    (b1 : isW ws) (b2 : isB raw) (b3 : isW it) (b4 : isB bh) (hf : f ≤ 255) (hl : lightB ws.length raw.length it.length = true) (hm : bh.length ≤ 200) (hr : oR kd ws.length raw.length it.length = true) :
    Calls Try.prog 5 #[.agg #[.int .i64 kd, .slice A1 ws.length c1, .slice A2 raw.length c2, .slice A3 it.length c3], .int .u8 (f : Int), .slice A4 bh.length c4] w fun e w' => e = .returned (.bool true) ∧ Below w.heap.size w w' := by
  have hls : ws.length ≤ 20 ∧ raw.length ≤ 1100 ∧ it.length ≤ 1100 := by simpa [lightB, and_assoc] using hl
  obtain ⟨n1, n2, n3⟩ := hls
  obtain ⟨Z, hZ⟩ : ∃ Z, objZ kd ws raw it = Z := ⟨_, rfl⟩
  obtain ⟨k, hk⟩ : ∃ k, 8 * f = k := ⟨_, rfl⟩
  obtain ⟨LL, hLL⟩ : ∃ LL, List.replicate k 0 ++ (Z ++ bh) = LL := ⟨_, rfl⟩
  obtain ⟨S, hS⟩ : ∃ S, 16 + 8 * (ws.length : Int) + (raw.length : Int) + 8 * (it.length : Int) = S := ⟨_, rfl⟩
  have hbk := obj_back bh k (by omega) hr b1 b3 hS.symm (show LL = List.replicate k 0 ++ (objZ kd ws raw it ++ bh) by rw [hZ, hLL])
  obtain ⟨q1, q2, q3, q4, q5, q6, q7⟩ := hbk
  have hZb : isB Z := by rw [← hZ]; exact objZ_isB kd b2
  have hLb : isB LL := by rw [← hLL]; exact (zeros_isB k).app (hZb.app b4)
  obtain ⟨N, hN⟩ : ∃ N, Z.length = N := ⟨_, rfl⟩
  obtain ⟨M, hM⟩ : ∃ M, bh.length = M := ⟨_, rfl⟩
  have hNb : N ≤ 20000 := by
    have := objB_len kd ws raw it
    have h2 : padN ((objB kd ws raw it).length : Int) 8 ≤ 8 := by unfold padN; split <;> omega
    rw [← hN, ← hZ, objZ, List.length_append, List.length_replicate]; omega
  have hLn : LL.length = k + N + M := by rw [← hLL]; simp only [List.length_append, List.length_replicate, hN, hM]; omega
  have hdV : ∀ u1 u2 u3, dV LL k u1 u2 u3 = .tuple #[.agg #[.int .i64 kd, u1, u2, u3], .int .i64 ((k : Int) + (N : Int)), .bool true] := fun u1 u2 u3 => by
    rw [dV, q1, q2, q3, q7, hZ, hN]; rfl
  have HDV := Aside0.mk hdV
  have HQ := Aside0.mk (⟨q1, q2, q3, q4, q5, q6⟩ : dG LL k = true ∧ getN LL k 8 = kd ∧ getN LL ((k : Int) + 8) 8 = S ∧ odW LL k kd = ws ∧ odR LL k kd S = raw ∧ odI LL k kd S = it)
  have HL := Aside0.mk hl
  have HR := Aside0.mk hr
  have H1 := Aside0.mk h1
  have H2 := Aside0.mk h2
  have H3 := Aside0.mk h3
  have H4 := Aside0.mk h4
  have W1 := Aside0.mk b1
  have W2 := Aside0.mk b2
  have W3 := Aside0.mk b3
  have HZZ := Aside0.mk hZ
  have HLL := Aside0.mk hLL
  have HLB := Aside0.mk hLb
  have HLN := Aside0.mk hLn
  have HN := Aside0.mk hN
  have HM := Aside0.mk hM
  have hk2 : k ≤ 2040 := by omega
  have hcv : IntKind.i64.wrap (f : Int) = (f : Int) := by rw [IntKind.wrap_i64]; omega
  have hml : IntKind.i64.wrap (8 * (f : Int)) = (k : Int) := by rw [IntKind.wrap_i64]; omega
  have hml2 : wrap64 (8 * (f : Int)) = (k : Int) := by simp only [wrap64]; omega
  have hmk : ∀ W : World, (Instr.makeSlice 22 (.int .i64 (k : Int)) (.int .i64 (k : Int))).run Try.prog W = .ok (.slice (some ⟨W.heap.size, 0, none⟩) k k) (W.alloc (.cells (nums .u8 (List.replicate k 0)).toArray 5)) := fun W => mk_zeros k (by omega) W
  obtain ⟨zs, hzs⟩ : ∃ zs, (nums .u8 (List.replicate k 0)).toArray = zs := ⟨_, rfl⟩
  have HOWN := Aside0.mk (show ∀ (W : World), w.heap.size ≤ W.heap.size → OwnO (Value.int .u8) (W.alloc (.cells zs 5)) w.heap.size 5 (.slice (some ⟨W.heap.size, 0, none⟩) k k) (List.replicate k 0) from fun W h => by
    have := OwnO.of_own (own_lit_of (enc := Value.int .u8) W w.heap.size 5 (List.replicate k 0) h (by simp; omega))
    rw [List.length_replicate] at this
    rw [← hzs]; exact this)
  rw [hzs] at hmk
  rw [hM] at H4 hm ⊢
  clear hl hr h1 h2 h3 h4 b1 b2 b3 b4 q1 q2 q3 q4 q5 q6 q7 hZ hk hLL hS hdV hZb hLb hN hM hLn hzs
  go_enter Try.func5, Try.ntmps5
  go_wp2_with fail
  refine (light_calls kd A1 A2 A3 ws.length raw.length it.length c1 c2 c3 _).mono ?_
  rintro e w1 ⟨rfl, hb⟩
  have HZ := Aside0.mk (blk_below (blk_new w (.cells #[.int .i64 kd, .slice A1 ws.length c1, .slice A2 raw.length c2, .slice A3 it.length c3] 48)) hb)
  have HB := Aside0.mk (below_step (below_alloc (Below.refl w.heap.size w) (.cells #[.int .i64 kd, .slice A1 ws.length c1, .slice A2 raw.length c2, .slice A3 it.length c3] 48)) hb)
  rw [HL.out]
  clear hb
  have z0 : (w1).cell? ⟨w.heap.size, 0, none⟩ = some (.int .i64 kd) := blk_cell HZ.out 0
  have z1 : (w1).cell? ⟨w.heap.size, 1, none⟩ = some (.slice A1 ws.length c1) := blk_cell HZ.out 1
  have z2 : (w1).cell? ⟨w.heap.size, 2, none⟩ = some (.slice A2 raw.length c2) := blk_cell HZ.out 2
  have z3 : (w1).cell? ⟨w.heap.size, 3, none⟩ = some (.slice A3 it.length c3) := blk_cell HZ.out 3
  go_wp2_with fail
  refine (ref_oRight_calls kd A1 A2 A3 ws.length raw.length it.length c1 c2 c3 _ (by omega) (by omega) (by omega)).mono ?_
  rintro e wr ⟨rfl, hb⟩
  replace HZ := Aside0.mk (blk_below HZ.out hb)
  replace HB := Aside0.mk (below_step HB.out hb)
  rw [HR.out]
  clear hb z0 z1 z2 z3
  have z0 : (wr).cell? ⟨w.heap.size, 0, none⟩ = some (.int .i64 kd) := blk_cell HZ.out 0
  have z1 : (wr).cell? ⟨w.heap.size, 1, none⟩ = some (.slice A1 ws.length c1) := blk_cell HZ.out 1
  have z2 : (wr).cell? ⟨w.heap.size, 2, none⟩ = some (.slice A2 raw.length c2) := blk_cell HZ.out 2
  have z3 : (wr).cell? ⟨w.heap.size, 3, none⟩ = some (.slice A3 it.length c3) := blk_cell HZ.out 3
  go_upto_region 4 with fail
  refine start_ (n := 9) (S := fun w' => w'.cell? ⟨w.heap.size, 0, none⟩ = some (.int .i64 kd) ∧ w'.cell? ⟨w.heap.size, 1, none⟩ = some (.slice A1 ws.length c1) ∧ w'.cell? ⟨w.heap.size, 2, none⟩ = some (.slice A2 raw.length c2) ∧ w'.cell? ⟨w.heap.size, 3, none⟩ = some (.slice A3 it.length c3)) (ds := [5, 7]) #[false, false, false, false, false, false, false, false, false] (by kernel_rfl) rfl rfl ⟨z0, z1, z2, z3⟩ (fun hHeld => ?_)
  refine pure_ (i := 0) (N := some 29) (v := ?_) (a' := ?_) #[true, false, false, false, false, false, false, false, false] rfl rfl (by kernel_rfl) (fun _ _ _ h => h) (Or.inl ⟨by rfl, ?_⟩) ?_ ?_
  rotate_left
  · intro w'
    go_simp
    with_reducible rfl
  rotate_left
  · simp only [Act.put, List.setIfInBounds_toArray, List.set_cons_zero, List.set_cons_succ, i64_w, i32_w]
    rfl
  refine pure_ (i := 6) (N := some 35) (v := ?_) (a' := ?_) #[true, false, false, false, false, false, true, false, false] rfl rfl (by kernel_rfl) (fun _ _ _ h => h) (Or.inl ⟨by rfl, ?_⟩) ?_ ?_
  rotate_left
  · intro w'
    go_simp
    with_reducible rfl
  rotate_left
  · simp only [Act.put, List.setIfInBounds_toArray, List.set_cons_zero, List.set_cons_succ, i64_w, i32_w]
    rfl
  refine take_ (i := 2) (N := some 31) (v := ?_) (a' := ?_) #[true, false, true, false, false, false, true, false, false] rfl rfl (by kernel_rfl) (fun _ _ _ h => h) (Or.inl ⟨by rfl, ?_⟩) hHeld ?_ ?_
  rotate_left
  · rintro w' ⟨s0, s1, s2, s3⟩
    go_simp
    with_reducible rfl
  rotate_left
  · simp only [Act.put, List.setIfInBounds_toArray, List.set_cons_zero, List.set_cons_succ, i64_w, i32_w]
    rfl
  refine join_ (σ := Value × Value) 3 #[true, true, true, true, true, false, true, false, false] (fun s => [(30, s.1), (32, .agg #[.int .i64 kd, .slice A1 ws.length c1, .slice A2 raw.length c2, .slice A3 it.length c3]), (33, s.2)]) (fun s w' => OwnO (Value.int .u8) w' w.heap.size 5 s.1 (List.replicate k 0) ∧ Rd w' .u8 s.2 Z ∧ Below w.heap.size w w' ∧ w'.heap[w.heap.size]? = some (.cells #[.int .i64 kd, .slice A1 ws.length c1, .slice A2 raw.length c2, .slice A3 it.length c3] 48 (0, 0))) ?_ ?_
  rotate_left
  · intro hCont
    refine two_ (i := 1) (j := 3) (Ni := some 30) (Nj := some 32) #[true, true, true, false, false, false, true, false, false] #[true, false, true, true, false, false, true, false, false] rfl rfl rfl rfl (by kernel_rfl) (by decide) (by decide) (fun K hK => ?_) (fun K hK => ?_)
    · skip
      refine value_ (w1 := ?_) (v := ?_) (by rfl) rfl ?_ ?_
      rotate_left 2
      · go_simp
        constructor
        · rfl
        · rfl
      refine hK.out _ _ ⟨(pw_cell_below (below_alloc (Below.refl _ _) _) hHeld.1), (pw_cell_below (below_alloc (Below.refl _ _) _) hHeld.2.1), (pw_cell_below (below_alloc (Below.refl _ _) _) hHeld.2.2.1), (pw_cell_below (below_alloc (Below.refl _ _) _) hHeld.2.2.2)⟩ (fun hHeld => ?_)
      clear hK K
      refine norm_ (a' := ?_) ?_ ?_
      rotate_left
      · show Act.put _ (some 30) _ = _
        simp only [Act.put, List.setIfInBounds_toArray, List.set_cons_zero, List.set_cons_succ, i64_w, i32_w]
        rfl
      refine one_ (i := 3) (N := some 32) #[true, true, true, true, false, false, true, false, false] rfl rfl (by kernel_rfl) (by decide) (fun K hK => ?_)
      refine goes_ Try.func32 (by kernel_rfl) rfl #[.agg #[.int .i64 kd, .slice A1 ws.length c1, .slice A2 raw.length c2, .slice A3 it.length c3]] (by rfl) rfl rfl (by (try simp only [List.map_toArray, List.map_cons, List.map_nil]); first | done | rfl) ?_
      with_reducible refine (obj_to_calls kd A1 A2 A3 ws.length raw.length it.length c1 c2 c3 _).mono ?_
      rintro e w3 ⟨rfl, hb3⟩
      refine ⟨_, rfl, ?_⟩
      refine hK.out _ _ ⟨(pw_cell_below hb3 hHeld.1), (pw_cell_below hb3 hHeld.2.1), (pw_cell_below hb3 hHeld.2.2.1), (pw_cell_below hb3 hHeld.2.2.2)⟩ (fun hHeld => ?_)
      clear hK K
      refine norm_ (a' := ?_) ?_ ?_
      rotate_left
      · show Act.put _ (some 32) _ = _
        simp only [Act.put, List.setIfInBounds_toArray, List.set_cons_zero, List.set_cons_succ, i64_w, i32_w]
        rfl
      refine one_ (i := 4) (N := some 33) #[true, true, true, true, true, false, true, false, false] rfl rfl (by kernel_rfl) (by decide) (fun K hK => ?_)
      refine goes_ Try.func31 (by kernel_rfl) rfl #[.agg #[.int .i64 kd, .slice A1 ws.length c1, .slice A2 raw.length c2, .slice A3 it.length c3]] (by rfl) rfl rfl (by (try simp only [List.map_toArray, List.map_cons, List.map_nil]); first | done | rfl) ?_
      with_reducible refine (obj_Encode_yes kd ws raw it A1 A2 A3 c1 c2 c3 _ (H1.out.below (below_step (below_drew (below_alloc HB.out (.cells zs 5))) hb3)) (H2.out.below (below_step (below_drew (below_alloc HB.out (.cells zs 5))) hb3)) (H3.out.below (below_step (below_drew (below_alloc HB.out (.cells zs 5))) hb3)) W1.out W2.out W3.out HR.out).mono ?_
      rintro e w4 ⟨v4, rfl, ho4, hb4⟩
      refine ⟨_, rfl, ?_⟩
      rw [HZZ.out] at ho4
      refine hK.out _ _ ⟨(pw_cell_below hb4 hHeld.1), (pw_cell_below hb4 hHeld.2.1), (pw_cell_below hb4 hHeld.2.2.1), (pw_cell_below hb4 hHeld.2.2.2)⟩ (fun hHeld => ?_)
      clear hK K
      refine norm_ (a' := ?_) ?_ ?_
      rotate_left
      · show Act.put _ (some 33) _ = _
        simp only [Act.put, List.setIfInBounds_toArray, List.set_cons_zero, List.set_cons_succ, i64_w, i32_w]
        rfl
      exact norm_ (by simp only [putAll, Act.put, List.setIfInBounds_toArray, List.set_cons_zero, List.set_cons_succ]) (hCont (.slice (some ⟨wr.heap.size, 0, none⟩) k k, v4) _ ⟨(OwnO.below (OwnO.below (OwnO.below (HOWN.out wr HB.out.size) (below_drew (Below.refl _ _))) hb3) hb4), (Own.rd ho4), (below_step (below_step (below_drew (below_alloc HB.out (.cells zs 5))) hb3) hb4), (blk_below (blk_below (blk_drew (blk_alloc HZ.out (.cells zs 5))) hb3) hb4)⟩)
    · skip
      refine goes_ Try.func32 (by kernel_rfl) rfl #[.agg #[.int .i64 kd, .slice A1 ws.length c1, .slice A2 raw.length c2, .slice A3 it.length c3]] (by rfl) rfl rfl (by (try simp only [List.map_toArray, List.map_cons, List.map_nil]); first | done | rfl) ?_
      with_reducible refine (obj_to_calls kd A1 A2 A3 ws.length raw.length it.length c1 c2 c3 _).mono ?_
      rintro e w3 ⟨rfl, hb3⟩
      refine ⟨_, rfl, ?_⟩
      refine hK.out _ _ ⟨(pw_cell_below hb3 hHeld.1), (pw_cell_below hb3 hHeld.2.1), (pw_cell_below hb3 hHeld.2.2.1), (pw_cell_below hb3 hHeld.2.2.2)⟩ (fun hHeld => ?_)
      clear hK K
      refine norm_ (a' := ?_) ?_ ?_
      rotate_left
      · show Act.put _ (some 32) _ = _
        simp only [Act.put, List.setIfInBounds_toArray, List.set_cons_zero, List.set_cons_succ, i64_w, i32_w]
        rfl
      refine two_ (i := 1) (j := 4) (Ni := some 30) (Nj := some 33) #[true, true, true, true, false, false, true, false, false] #[true, false, true, true, true, false, true, false, false] rfl rfl rfl rfl (by kernel_rfl) (by decide) (by decide) (fun K hK => ?_) (fun K hK => ?_)
      · skip
        refine value_ (w1 := ?_) (v := ?_) (by rfl) rfl ?_ ?_
        rotate_left 2
        · go_simp
          constructor
          · rfl
          · rfl
        refine hK.out _ _ ⟨(pw_cell_below (below_alloc (Below.refl _ _) _) hHeld.1), (pw_cell_below (below_alloc (Below.refl _ _) _) hHeld.2.1), (pw_cell_below (below_alloc (Below.refl _ _) _) hHeld.2.2.1), (pw_cell_below (below_alloc (Below.refl _ _) _) hHeld.2.2.2)⟩ (fun hHeld => ?_)
        clear hK K
        refine norm_ (a' := ?_) ?_ ?_
        rotate_left
        · show Act.put _ (some 30) _ = _
          simp only [Act.put, List.setIfInBounds_toArray, List.set_cons_zero, List.set_cons_succ, i64_w, i32_w]
          rfl
        refine one_ (i := 4) (N := some 33) #[true, true, true, true, true, false, true, false, false] rfl rfl (by kernel_rfl) (by decide) (fun K hK => ?_)
        refine goes_ Try.func31 (by kernel_rfl) rfl #[.agg #[.int .i64 kd, .slice A1 ws.length c1, .slice A2 raw.length c2, .slice A3 it.length c3]] (by rfl) rfl rfl (by (try simp only [List.map_toArray, List.map_cons, List.map_nil]); first | done | rfl) ?_
        with_reducible refine (obj_Encode_yes kd ws raw it A1 A2 A3 c1 c2 c3 _ (H1.out.below (below_alloc (below_step (below_drew HB.out) hb3) (.cells zs 5))) (H2.out.below (below_alloc (below_step (below_drew HB.out) hb3) (.cells zs 5))) (H3.out.below (below_alloc (below_step (below_drew HB.out) hb3) (.cells zs 5))) W1.out W2.out W3.out HR.out).mono ?_
        rintro e w4 ⟨v4, rfl, ho4, hb4⟩
        refine ⟨_, rfl, ?_⟩
        rw [HZZ.out] at ho4
        refine hK.out _ _ ⟨(pw_cell_below hb4 hHeld.1), (pw_cell_below hb4 hHeld.2.1), (pw_cell_below hb4 hHeld.2.2.1), (pw_cell_below hb4 hHeld.2.2.2)⟩ (fun hHeld => ?_)
        clear hK K
        refine norm_ (a' := ?_) ?_ ?_
        rotate_left
        · show Act.put _ (some 33) _ = _
          simp only [Act.put, List.setIfInBounds_toArray, List.set_cons_zero, List.set_cons_succ, i64_w, i32_w]
          rfl
        exact norm_ (by simp only [putAll, Act.put, List.setIfInBounds_toArray, List.set_cons_zero, List.set_cons_succ]) (hCont (.slice (some ⟨w3.heap.size, 0, none⟩) k k, v4) _ ⟨(OwnO.below (HOWN.out w3 (below_step (below_drew HB.out) hb3).size) hb4), (Own.rd ho4), (below_step (below_alloc (below_step (below_drew HB.out) hb3) (.cells zs 5)) hb4), (blk_below (blk_alloc (blk_below (blk_drew HZ.out) hb3) (.cells zs 5)) hb4)⟩)
      · skip
        refine goes_ Try.func31 (by kernel_rfl) rfl #[.agg #[.int .i64 kd, .slice A1 ws.length c1, .slice A2 raw.length c2, .slice A3 it.length c3]] (by rfl) rfl rfl (by (try simp only [List.map_toArray, List.map_cons, List.map_nil]); first | done | rfl) ?_
        with_reducible refine (obj_Encode_yes kd ws raw it A1 A2 A3 c1 c2 c3 _ (H1.out.below (below_step (below_drew HB.out) hb3)) (H2.out.below (below_step (below_drew HB.out) hb3)) (H3.out.below (below_step (below_drew HB.out) hb3)) W1.out W2.out W3.out HR.out).mono ?_
        rintro e w4 ⟨v4, rfl, ho4, hb4⟩
        refine ⟨_, rfl, ?_⟩
        rw [HZZ.out] at ho4
        refine hK.out _ _ ⟨(pw_cell_below hb4 hHeld.1), (pw_cell_below hb4 hHeld.2.1), (pw_cell_below hb4 hHeld.2.2.1), (pw_cell_below hb4 hHeld.2.2.2)⟩ (fun hHeld => ?_)
        clear hK K
        refine norm_ (a' := ?_) ?_ ?_
        rotate_left
        · show Act.put _ (some 33) _ = _
          simp only [Act.put, List.setIfInBounds_toArray, List.set_cons_zero, List.set_cons_succ, i64_w, i32_w]
          rfl
        refine one_ (i := 1) (N := some 30) #[true, true, true, true, true, false, true, false, false] rfl rfl (by kernel_rfl) (by decide) (fun K hK => ?_)
        refine value_ (w1 := ?_) (v := ?_) (by rfl) rfl ?_ ?_
        rotate_left 2
        · go_simp
          constructor
          · rfl
          · rfl
        refine hK.out _ _ ⟨(pw_cell_below (below_alloc (Below.refl _ _) _) hHeld.1), (pw_cell_below (below_alloc (Below.refl _ _) _) hHeld.2.1), (pw_cell_below (below_alloc (Below.refl _ _) _) hHeld.2.2.1), (pw_cell_below (below_alloc (Below.refl _ _) _) hHeld.2.2.2)⟩ (fun hHeld => ?_)
        clear hK K
        refine norm_ (a' := ?_) ?_ ?_
        rotate_left
        · show Act.put _ (some 30) _ = _
          simp only [Act.put, List.setIfInBounds_toArray, List.set_cons_zero, List.set_cons_succ, i64_w, i32_w]
          rfl
        exact norm_ (by simp only [putAll, Act.put, List.setIfInBounds_toArray, List.set_cons_zero, List.set_cons_succ]) (hCont (.slice (some ⟨w4.heap.size, 0, none⟩) k k, v4) _ ⟨(HOWN.out w4 (below_step (below_step (below_drew HB.out) hb3) hb4).size), (Rd.below (Own.rd ho4) (below_alloc (Below.refl _ _) (.cells zs 5))), (below_alloc (below_step (below_step (below_drew HB.out) hb3) hb4) (.cells zs 5)), (blk_alloc (blk_below (blk_below (blk_drew HZ.out) hb3) hb4) (.cells zs 5))⟩)
  rintro s w5 ⟨ho5, hr5, hbF, hz5⟩
  obtain ⟨s1, s2⟩ := s
  dsimp only at ho5 hr5 ⊢
  have hHeld : w5.cell? ⟨w.heap.size, 0, none⟩ = some (.int .i64 kd) ∧ w5.cell? ⟨w.heap.size, 1, none⟩ = some (.slice A1 ws.length c1) ∧ w5.cell? ⟨w.heap.size, 2, none⟩ = some (.slice A2 raw.length c2) ∧ w5.cell? ⟨w.heap.size, 3, none⟩ = some (.slice A3 it.length c3) := ⟨blk_cell hz5 0, blk_cell hz5 1, blk_cell hz5 2, blk_cell hz5 3⟩
  refine norm_ (a' := ?_) ?_ ?_
  rotate_left
  · simp only [putAll, Act.put, List.setIfInBounds_toArray, List.set_cons_zero, List.set_cons_succ]
    rfl
  refine last_ (i := 5) (N := some 34) #[true, true, true, true, true, true, true, false, false] rfl rfl (by kernel_rfl) (by decide) (fun K hK => ?_)
  obtain ⟨A6, c6, w6, hr6, ho6, hk6⟩ := app_u8 ho5 hr5 List.length_replicate HN.out hbF.size (by omega)
  have hb6 := Kp.from hbF hk6 (fun b hb => ho5.ge hb)
  refine app_step (by rfl) (.tmp 30) (.tmp 33) rfl rfl rfl hr6 ?_
  refine hK.out _ _ ?_
  clear hK K
  refine norm_ (a' := ?_) ?_ ?_
  rotate_left
  · show Act.put _ (some 34) _ = _
    simp only [Act.put, List.setIfInBounds_toArray, List.set_cons_zero, List.set_cons_succ, i64_w, i32_w]
    rfl
  refine last_ (i := 7) (N := some 36) #[true, true, true, true, true, true, true, true, false] rfl rfl (by kernel_rfl) (by decide) (fun K hK => ?_)
  obtain ⟨A7, c7, w7, hr7, ho7, hk7⟩ := app_u8 ho6 (H4.out.below hb6) (show (List.replicate k 0 ++ Z).length = k + N by rw [List.length_append, List.length_replicate, HN.out]) HM.out hb6.size (by omega)
  refine app_step (by rfl) (.tmp 34) (.tmp 35) rfl rfl rfl hr7 ?_
  refine hK.out _ _ ?_
  clear hK K
  refine norm_ (a' := ?_) ?_ ?_
  rotate_left
  · show Act.put _ (some 36) _ = _
    simp only [Act.put, List.setIfInBounds_toArray, List.set_cons_zero, List.set_cons_succ, i64_w, i32_w]
    rfl
  refine pure_ (i := 8) (N := some 8) (v := ?_) (a' := ?_) #[true, true, true, true, true, true, true, true, true] rfl rfl (by kernel_rfl) (fun _ _ _ h => h) (Or.inl ⟨by rfl, ?_⟩) ?_ ?_
  rotate_left
  · intro w'
    go_simp
    with_reducible rfl
  rotate_left
  · simp only [Act.put, List.setIfInBounds_toArray, List.set_cons_zero, List.set_cons_succ, i64_w, i32_w]
    rfl
  refine done_ (by kernel_rfl) ?_
  have HZ7 := Aside0.mk (hk7.blk (hk6.blk hz5 (fun h => ho5.ne hz5 (by decide) h)) (fun h => ho6.ne (hk6.blk hz5 (fun h => ho5.ne hz5 (by decide) h)) (by decide) h))
  have HB7 := Aside0.mk (Kp.from hb6 hk7 (fun b hb => ho6.ge hb))
  rw [List.append_assoc, HLL.out] at ho7
  have HO7 := Aside0.mk ho7
  have CD := Aside0.mk (obj_Decode_all _ LL (k : Int) w7 ho7.rd HLB.out (by rw [HLN.out]; omega) (by omega) (by omega))
  obtain ⟨X, hX⟩ : ∃ X, k + N + M = X := ⟨_, rfl⟩
  rw [hX] at HO7 CD ⊢
  have hsub : IntKind.i64.wrap ((X : Int) - (M : Int)) = (k : Int) + (N : Int) := by rw [IntKind.wrap_i64]; omega
  have hsub2 : wrap64 ((X : Int) - (M : Int)) = (k : Int) + (N : Int) := by simp only [wrap64]; omega
  obtain ⟨Y, hY⟩ : ∃ Y : Int, (k : Int) + (N : Int) = Y := ⟨_, rfl⟩
  rw [hY] at hsub hsub2 HDV
  have hyy : (Y == Y) = true := by simp
  clear hz5 hr5 ho5 hbF hr6 ho6 hk6 hb6 hr7 ho7 hk7 hX hY hm z0 z1 z2 z3 HZ HB hmk
  go_wp2_with fail
  refine (CD.out).mono ?_
  rintro e w8 ⟨⟨u1, u2, u3, rfl, hu⟩, hb⟩
  obtain ⟨q1, q2, q3, q4, q5, q6⟩ := HQ.out
  have hu2 := hu q1
  rw [q2, q3, q4, q5, q6] at hu2
  obtain ⟨hr1, hr2, hr3⟩ := hu2
  have R1 := Aside0.mk hr1
  have R2 := Aside0.mk hr2
  have R3 := Aside0.mk hr3
  obtain ⟨B1, d1, e1, _, _⟩ := hr1
  obtain ⟨B2, d2, e2, _, _⟩ := hr2
  obtain ⟨B3, d3, e3, _, _⟩ := hr3
  subst e1; subst e2; subst e3
  rw [HDV.out]
  have HZ8 := Aside0.mk (blk_alloc (blk_below HZ7.out hb) (.cells #[.int .i64 kd, .slice B1 ws.length d1, .slice B2 raw.length d2, .slice B3 it.length d3] 51))
  have HX8 := Aside0.mk (blk_new w8 (.cells #[.int .i64 kd, .slice B1 ws.length d1, .slice B2 raw.length d2, .slice B3 it.length d3] 51))
  have HB8 := Aside0.mk (below_alloc (below_step HB7.out hb) (.cells #[.int .i64 kd, .slice B1 ws.length d1, .slice B2 raw.length d2, .slice B3 it.length d3] 51))
  replace R1 := Aside0.mk (R1.out.below (below_alloc (Below.refl _ _) (.cells #[.int .i64 kd, .slice B1 ws.length d1, .slice B2 raw.length d2, .slice B3 it.length d3] 51)))
  replace R2 := Aside0.mk (R2.out.below (below_alloc (Below.refl _ _) (.cells #[.int .i64 kd, .slice B1 ws.length d1, .slice B2 raw.length d2, .slice B3 it.length d3] 51)))
  replace R3 := Aside0.mk (R3.out.below (below_alloc (Below.refl _ _) (.cells #[.int .i64 kd, .slice B1 ws.length d1, .slice B2 raw.length d2, .slice B3 it.length d3] 51)))
  obtain ⟨g, hg⟩ : ∃ g, w8.heap.size = g := ⟨_, rfl⟩
  clear hb hu q1 q2 q3 q4 q5 q6 HQ
  go_upto_region 6 with fail
  rw [hg] at HX8
  first | rw [hg] | skip
  obtain ⟨wx, hwx⟩ : ∃ wx, w8.alloc (.cells #[.int .i64 kd, .slice B1 ws.length d1, .slice B2 raw.length d2, .slice B3 it.length d3] 51) = wx := ⟨_, rfl⟩
  rw [hwx] at HZ8 HX8 HB8 R1 R2 R3 ⊢
  clear hg hwx
  have z0 : (wx).cell? ⟨w.heap.size, 0, none⟩ = some (.int .i64 kd) := blk_cell HZ8.out 0
  have z1 : (wx).cell? ⟨w.heap.size, 1, none⟩ = some (.slice A1 ws.length c1) := blk_cell HZ8.out 1
  have z2 : (wx).cell? ⟨w.heap.size, 2, none⟩ = some (.slice A2 raw.length c2) := blk_cell HZ8.out 2
  have z3 : (wx).cell? ⟨w.heap.size, 3, none⟩ = some (.slice A3 it.length c3) := blk_cell HZ8.out 3
  have x0 : (wx).cell? ⟨g, 0, none⟩ = some (.int .i64 kd) := blk_cell HX8.out 0
  have x1 : (wx).cell? ⟨g, 1, none⟩ = some (.slice B1 ws.length d1) := blk_cell HX8.out 1
  have x2 : (wx).cell? ⟨g, 2, none⟩ = some (.slice B2 raw.length d2) := blk_cell HX8.out 2
  have x3 : (wx).cell? ⟨g, 3, none⟩ = some (.slice B3 it.length d3) := blk_cell HX8.out 3

  refine start_ (n := 20) (S := fun w' => w'.cell? ⟨w.heap.size, 0, none⟩ = some (.int .i64 kd) ∧ w'.cell? ⟨w.heap.size, 1, none⟩ = some (.slice A1 ws.length c1) ∧ w'.cell? ⟨w.heap.size, 2, none⟩ = some (.slice A2 raw.length c2) ∧ w'.cell? ⟨w.heap.size, 3, none⟩ = some (.slice A3 it.length c3) ∧ w'.cell? ⟨g, 0, none⟩ = some (.int .i64 kd) ∧ w'.cell? ⟨g, 1, none⟩ = some (.slice B1 ws.length d1) ∧ w'.cell? ⟨g, 2, none⟩ = some (.slice B2 raw.length d2) ∧ w'.cell? ⟨g, 3, none⟩ = some (.slice B3 it.length d3)) (ds := []) #[false, false, false, false, false, false, false, false, false, false, false, false, false, false, false, false, false, false, false, false] (by kernel_rfl) rfl rfl ⟨z0, z1, z2, z3, x0, x1, x2, x3⟩ (fun hHeld => ?_)
  refine pure_ (i := 0) (N := some 44) (v := ?_) (a' := ?_) #[true, false, false, false, false, false, false, false, false, false, false, false, false, false, false, false, false, false, false, false] rfl rfl (by kernel_rfl) (fun _ _ _ h => h) (Or.inl ⟨by rfl, ?_⟩) ?_ ?_
  rotate_left
  · intro w'
    go_simp
    with_reducible rfl
  rotate_left
  · simp only [Act.put, List.setIfInBounds_toArray, List.set_cons_zero, List.set_cons_succ, i64_w, i32_w]
    rfl
  refine pure_ (i := 1) (N := some 45) (v := ?_) (a' := ?_) #[true, true, false, false, false, false, false, false, false, false, false, false, false, false, false, false, false, false, false, false] rfl rfl (by kernel_rfl) (fun _ _ _ h => h) (Or.inl ⟨by rfl, ?_⟩) ?_ ?_
  rotate_left
  · intro w'
    go_simp
    with_reducible rfl
  rotate_left
  · simp only [Act.put, List.setIfInBounds_toArray, List.set_cons_zero, List.set_cons_succ, i64_w, i32_w]
    rfl
  refine pure_ (i := 2) (N := some 46) (v := ?_) (a' := ?_) #[true, true, true, false, false, false, false, false, false, false, false, false, false, false, false, false, false, false, false, false] rfl rfl (by kernel_rfl) (fun _ _ _ h => h) (Or.inl ⟨by rfl, ?_⟩) ?_ ?_
  rotate_left
  · intro w'
    go_simp
    with_reducible rfl
  rotate_left
  · simp only [Act.put, List.setIfInBounds_toArray, List.set_cons_zero, List.set_cons_succ, i64_w, i32_w]
    rfl
  refine pure_ (i := 3) (N := some 47) (v := ?_) (a' := ?_) #[true, true, true, true, false, false, false, false, false, false, false, false, false, false, false, false, false, false, false, false] rfl rfl (by kernel_rfl) (fun _ _ _ h => h) (Or.inl ⟨by rfl, ?_⟩) ?_ ?_
  rotate_left
  · intro w'
    go_simp
    with_reducible rfl
  rotate_left
  · simp only [Act.put, List.setIfInBounds_toArray, List.set_cons_zero, List.set_cons_succ, i64_w, i32_w]
    rfl
  refine pure_ (i := 4) (N := some 48) (v := ?_) (a' := ?_) #[true, true, true, true, true, false, false, false, false, false, false, false, false, false, false, false, false, false, false, false] rfl rfl (by kernel_rfl) (fun _ _ _ h => h) (Or.inl ⟨by rfl, ?_⟩) ?_ ?_
  rotate_left
  · intro w'
    go_simp
    with_reducible rfl
  rotate_left
  · simp only [Act.put, List.setIfInBounds_toArray, List.set_cons_zero, List.set_cons_succ, i64_w, i32_w]
    rfl
  refine pure_ (i := 5) (N := some 49) (v := ?_) (a' := ?_) #[true, true, true, true, true, true, false, false, false, false, false, false, false, false, false, false, false, false, false, false] rfl rfl (by kernel_rfl) (fun _ _ _ h => h) (Or.inl ⟨by rfl, ?_⟩) ?_ ?_
  rotate_left
  · intro w'
    go_simp
    with_reducible rfl
  rotate_left
  · simp only [Act.put, List.setIfInBounds_toArray, List.set_cons_zero, List.set_cons_succ, i64_w, i32_w]
    rfl
  refine pure_ (i := 6) (N := some 50) (v := ?_) (a' := ?_) #[true, true, true, true, true, true, true, false, false, false, false, false, false, false, false, false, false, false, false, false] rfl rfl (by kernel_rfl) (fun _ _ _ h => h) (Or.inl ⟨by rfl, ?_⟩) ?_ ?_
  rotate_left
  · intro w'
    go_simp
    with_reducible rfl
  rotate_left
  · simp only [Act.put, List.setIfInBounds_toArray, List.set_cons_zero, List.set_cons_succ, i64_w, i32_w]
    rfl
  refine pure_ (i := 7) (N := some 51) (v := ?_) (a' := ?_) #[true, true, true, true, true, true, true, true, false, false, false, false, false, false, false, false, false, false, false, false] rfl rfl (by kernel_rfl) (fun _ _ _ h => h) (Or.inl ⟨by rfl, ?_⟩) ?_ ?_
  rotate_left
  · intro w'
    go_simp
    with_reducible rfl
  rotate_left
  · simp only [Act.put, List.setIfInBounds_toArray, List.set_cons_zero, List.set_cons_succ, i64_w, i32_w]
    rfl
  refine pure_ (i := 8) (N := some 52) (v := ?_) (a' := ?_) #[true, true, true, true, true, true, true, true, true, false, false, false, false, false, false, false, false, false, false, false] rfl rfl (by kernel_rfl) (fun _ _ _ h => h) (Or.inl ⟨by rfl, ?_⟩) ?_ ?_
  rotate_left
  · intro w'
    go_simp
    with_reducible rfl
  rotate_left
  · simp only [Act.put, List.setIfInBounds_toArray, List.set_cons_zero, List.set_cons_succ, i64_w, i32_w]
    rfl
  refine pure_ (i := 9) (N := some 53) (v := ?_) (a' := ?_) #[true, true, true, true, true, true, true, true, true, true, false, false, false, false, false, false, false, false, false, false] rfl rfl (by kernel_rfl) (fun _ _ _ h => h) (Or.inl ⟨by rfl, ?_⟩) ?_ ?_
  rotate_left
  · intro w'
    go_simp
    with_reducible rfl
  rotate_left
  · simp only [Act.put, List.setIfInBounds_toArray, List.set_cons_zero, List.set_cons_succ, i64_w, i32_w]
    rfl
  refine pure_ (i := 10) (N := some 54) (v := ?_) (a' := ?_) #[true, true, true, true, true, true, true, true, true, true, true, false, false, false, false, false, false, false, false, false] rfl rfl (by kernel_rfl) (fun _ _ _ h => h) (Or.inl ⟨by rfl, ?_⟩) ?_ ?_
  rotate_left
  · intro w'
    go_simp
    with_reducible rfl
  rotate_left
  · simp only [Act.put, List.setIfInBounds_toArray, List.set_cons_zero, List.set_cons_succ, i64_w, i32_w]
    rfl
  refine take_ (i := 11) (N := some 55) (v := ?_) (a' := ?_) #[true, true, true, true, true, true, true, true, true, true, true, true, false, false, false, false, false, false, false, false] rfl rfl (by kernel_rfl) (fun _ _ _ h => h) (Or.inl ⟨by rfl, ?_⟩) hHeld ?_ ?_
  rotate_left
  · rintro w' ⟨s0, s1, s2, s3, s4, s5, s6, s7⟩
    go_simp
    with_reducible rfl
  rotate_left
  · simp only [Act.put, List.setIfInBounds_toArray, List.set_cons_zero, List.set_cons_succ, i64_w, i32_w]
    rfl
  refine take_ (i := 12) (N := some 56) (v := ?_) (a' := ?_) #[true, true, true, true, true, true, true, true, true, true, true, true, true, false, false, false, false, false, false, false] rfl rfl (by kernel_rfl) (fun _ _ _ h => h) (Or.inl ⟨by rfl, ?_⟩) hHeld ?_ ?_
  rotate_left
  · rintro w' ⟨s0, s1, s2, s3, s4, s5, s6, s7⟩
    go_simp
    with_reducible rfl
  rotate_left
  · simp only [Act.put, List.setIfInBounds_toArray, List.set_cons_zero, List.set_cons_succ, i64_w, i32_w]
    rfl
  refine one_ (i := 13) (N := some 57) #[true, true, true, true, true, true, true, true, true, true, true, true, true, true, false, false, false, false, false, false] rfl rfl (by kernel_rfl) (by decide) (fun K hK => ?_)
  refine goes_ Try.func32 (by kernel_rfl) rfl #[.agg #[.int .i64 kd, .slice A1 ws.length c1, .slice A2 raw.length c2, .slice A3 it.length c3]] (by rfl) rfl rfl (by (try simp only [List.map_toArray, List.map_cons, List.map_nil]); first | done | rfl) ?_
  with_reducible refine (obj_to_calls kd A1 A2 A3 ws.length raw.length it.length c1 c2 c3 _).mono ?_
  rintro e w9 ⟨rfl, hb9⟩
  refine ⟨_, rfl, ?_⟩
  refine hK.out _ _ ⟨(pw_cell_below hb9 hHeld.1), (pw_cell_below hb9 hHeld.2.1), (pw_cell_below hb9 hHeld.2.2.1), (pw_cell_below hb9 hHeld.2.2.2.1), (pw_cell_below hb9 hHeld.2.2.2.2.1), (pw_cell_below hb9 hHeld.2.2.2.2.2.1), (pw_cell_below hb9 hHeld.2.2.2.2.2.2.1), (pw_cell_below hb9 hHeld.2.2.2.2.2.2.2)⟩ (fun hHeld => ?_)
  clear hK K
  refine norm_ (a' := ?_) ?_ ?_
  rotate_left
  · show Act.put _ (some 57) _ = _
    simp only [Act.put, List.setIfInBounds_toArray, List.set_cons_zero, List.set_cons_succ, i64_w, i32_w]
    rfl
  refine one_ (i := 14) (N := some 58) #[true, true, true, true, true, true, true, true, true, true, true, true, true, true, true, false, false, false, false, false] rfl rfl (by kernel_rfl) (by decide) (fun K hK => ?_)
  refine goes_ Try.func34 (by kernel_rfl) rfl #[.agg #[.int .i64 kd, .slice B1 ws.length d1, .slice B2 raw.length d2, .slice B3 it.length d3], .agg #[.int .i64 kd, .slice A1 ws.length c1, .slice A2 raw.length c2, .slice A3 it.length c3]] (by rfl) rfl rfl (by (try simp only [List.map_toArray, List.map_cons, List.map_nil]); first | done | rfl) ?_
  with_reducible refine (obj_Same_calls kd kd ws raw it ws raw it B1 B2 B3 A1 A2 A3 d1 d2 d3 c1 c2 c3 _ ((R1.out.below (below_drew (Below.refl _ _))).below hb9) ((R2.out.below (below_drew (Below.refl _ _))).below hb9) ((R3.out.below (below_drew (Below.refl _ _))).below hb9) (H1.out.below (below_step (below_drew HB8.out) hb9)) (H2.out.below (below_step (below_drew HB8.out) hb9)) (H3.out.below (below_step (below_drew HB8.out) hb9)) W2.out W2.out).mono ?_
  rintro e w10 ⟨rfl, hb10⟩
  refine ⟨_, rfl, ?_⟩
  rw [sameO_yes kd rfl rfl rfl]
  refine hK.out _ _ ⟨(pw_cell_below hb10 hHeld.1), (pw_cell_below hb10 hHeld.2.1), (pw_cell_below hb10 hHeld.2.2.1), (pw_cell_below hb10 hHeld.2.2.2.1), (pw_cell_below hb10 hHeld.2.2.2.2.1), (pw_cell_below hb10 hHeld.2.2.2.2.2.1), (pw_cell_below hb10 hHeld.2.2.2.2.2.2.1), (pw_cell_below hb10 hHeld.2.2.2.2.2.2.2)⟩ (fun hHeld => ?_)
  clear hK K
  refine norm_ (a' := ?_) ?_ ?_
  rotate_left
  · show Act.put _ (some 58) _ = _
    simp only [Act.put, List.setIfInBounds_toArray, List.set_cons_zero, List.set_cons_succ, i64_w, i32_w]
    rfl
  refine pure_ (i := 15) (N := some 59) (v := ?_) (a' := ?_) #[true, true, true, true, true, true, true, true, true, true, true, true, true, true, true, true, false, false, false, false] rfl rfl (by kernel_rfl) (fun _ _ _ h => h) (Or.inl ⟨by rfl, ?_⟩) ?_ ?_
  rotate_left
  · intro w'
    go_simp
    with_reducible rfl
  rotate_left
  · simp only [Act.put, List.setIfInBounds_toArray, List.set_cons_zero, List.set_cons_succ, i64_w, i32_w]
    rfl
  refine pure_ (i := 16) (N := some 60) (v := ?_) (a' := ?_) #[true, true, true, true, true, true, true, true, true, true, true, true, true, true, true, true, true, false, false, false] rfl rfl (by kernel_rfl) (fun _ _ _ h => h) (Or.inl ⟨by rfl, ?_⟩) ?_ ?_
  rotate_left
  · intro w'
    go_simp
    with_reducible rfl
  rotate_left
  · simp only [Act.put, List.setIfInBounds_toArray, List.set_cons_zero, List.set_cons_succ, i64_w, i32_w]
    rfl
  refine one_ (i := 17) (N := some 61) #[true, true, true, true, true, true, true, true, true, true, true, true, true, true, true, true, true, true, false, false] rfl rfl (by kernel_rfl) (by decide) (fun K hK => ?_)
  refine goes_ Try.func30 (by kernel_rfl) rfl #[] (by rfl) rfl rfl (by (try simp only [List.map_toArray, List.map_cons, List.map_nil]); first | done | rfl) ?_
  with_reducible refine (obj_awake_calls _).mono ?_
  rintro e w11 ⟨rfl, hb11⟩
  refine ⟨_, rfl, ?_⟩
  refine hK.out _ _ ⟨(pw_cell_below hb11 hHeld.1), (pw_cell_below hb11 hHeld.2.1), (pw_cell_below hb11 hHeld.2.2.1), (pw_cell_below hb11 hHeld.2.2.2.1), (pw_cell_below hb11 hHeld.2.2.2.2.1), (pw_cell_below hb11 hHeld.2.2.2.2.2.1), (pw_cell_below hb11 hHeld.2.2.2.2.2.2.1), (pw_cell_below hb11 hHeld.2.2.2.2.2.2.2)⟩ (fun hHeld => ?_)
  clear hK K
  refine norm_ (a' := ?_) ?_ ?_
  rotate_left
  · show Act.put _ (some 61) _ = _
    simp only [Act.put, List.setIfInBounds_toArray, List.set_cons_zero, List.set_cons_succ, i64_w, i32_w]
    rfl
  refine pure_ (i := 18) (N := some 62) (v := ?_) (a' := ?_) #[true, true, true, true, true, true, true, true, true, true, true, true, true, true, true, true, true, true, true, false] rfl rfl (by kernel_rfl) (fun _ _ _ h => h) (Or.inl ⟨by rfl, ?_⟩) ?_ ?_
  rotate_left
  · intro w'
    go_simp
    with_reducible rfl
  rotate_left
  · simp only [Act.put, List.setIfInBounds_toArray, List.set_cons_zero, List.set_cons_succ, i64_w, i32_w]
    rfl
  refine pure_ (i := 19) (N := some 6) (v := ?_) (a' := ?_) #[true, true, true, true, true, true, true, true, true, true, true, true, true, true, true, true, true, true, true, true] rfl rfl (by kernel_rfl) (fun _ _ _ h => h) (Or.inl ⟨by rfl, ?_⟩) ?_ ?_
  rotate_left
  · intro w'
    go_simp
    with_reducible rfl
  rotate_left
  · simp only [Act.put, List.setIfInBounds_toArray, List.set_cons_zero, List.set_cons_succ, i64_w, i32_w]
    rfl
  refine done_ (by kernel_rfl) ?_
  have HB11 := Aside0.mk (below_step (below_step (below_step (below_drew HB8.out) hb9) hb10) hb11)
  clear hb9 hb10 hb11
  go_wp2_with fail
  go_ret
  exact ⟨rfl, HB11.out⟩

set_option maxHeartbeats 8000000 in
set_option maxRecDepth 100000 in
theorem ObjBack_far (kd : Int) (nW nR nI : Nat) (A1 A2 A3 A4 : Option Addr) (c1 c2 c3 c4 M : Nat) (f : Int) (w : World) (hl : lightB nW nR nI = false) : Calls Try.prog 5 #[.agg #[.int .i64 kd, .slice A1 nW c1, .slice A2 nR c2, .slice A3 nI c3], .int .u8 f, .slice A4 M c4] w fun e w' => e = .returned (.bool true) ∧ Below w.heap.size w w' := by
  have HL := Aside0.mk hl
  clear hl
  go_enter Try.func5, Try.ntmps5
  go_wp2_with fail
  refine (light_calls kd A1 A2 A3 nW nR nI c1 c2 c3 _).mono ?_
  rintro e w1 ⟨rfl, hb⟩
  have HZ := Aside0.mk (blk_below (blk_new w (.cells #[.int .i64 kd, .slice A1 nW c1, .slice A2 nR c2, .slice A3 nI c3] 48)) hb)
  have HB := Aside0.mk (below_step (below_alloc (Below.refl w.heap.size w) (.cells #[.int .i64 kd, .slice A1 nW c1, .slice A2 nR c2, .slice A3 nI c3] 48)) hb)
  rw [HL.out]
  clear hb
  go_wp2_with fail
  refine (obj_awake_calls _).mono ?_
  rintro e w9 ⟨rfl, hb⟩
  replace HB := Aside0.mk (below_step HB.out hb)
  clear hb
  go_wp2_with fail
  go_ret
  exact ⟨rfl, HB.out⟩
set_option maxHeartbeats 8000000 in
set_option maxRecDepth 100000 in
theorem ObjBack_long (kd : Int) (nW nR nI : Nat) (A1 A2 A3 A4 : Option Addr) (c1 c2 c3 c4 M : Nat) (f : Int) (w : World) (hl : lightB nW nR nI = true) (hm : 200 < M) : Calls Try.prog 5 #[.agg #[.int .i64 kd, .slice A1 nW c1, .slice A2 nR c2, .slice A3 nI c3], .int .u8 f, .slice A4 M c4] w fun e w' => e = .returned (.bool true) ∧ Below w.heap.size w w' := by
  have HL := Aside0.mk hl
  clear hl
  go_enter Try.func5, Try.ntmps5
  go_wp2_with fail
  refine (light_calls kd A1 A2 A3 nW nR nI c1 c2 c3 _).mono ?_
  rintro e w1 ⟨rfl, hb⟩
  have HZ := Aside0.mk (blk_below (blk_new w (.cells #[.int .i64 kd, .slice A1 nW c1, .slice A2 nR c2, .slice A3 nI c3] 48)) hb)
  have HB := Aside0.mk (below_step (below_alloc (Below.refl w.heap.size w) (.cells #[.int .i64 kd, .slice A1 nW c1, .slice A2 nR c2, .slice A3 nI c3] 48)) hb)
  rw [HL.out]
  clear hb
  go_wp2_with fail
  refine (obj_awake_calls _).mono ?_
  rintro e w9 ⟨rfl, hb⟩
  replace HB := Aside0.mk (below_step HB.out hb)
  clear hb
  go_wp2_with fail
  go_ret
  exact ⟨rfl, HB.out⟩
set_option maxHeartbeats 8000000 in
set_option maxRecDepth 100000 in
theorem ObjBack_no (kd : Int) (nW nR nI : Nat) (A1 A2 A3 A4 : Option Addr) (c1 c2 c3 c4 M : Nat) (f : Int) (w : World) (hl : lightB nW nR nI = true) (hm : M ≤ 200) (hr : oR kd nW nR nI = false) : Calls Try.prog 5 #[.agg #[.int .i64 kd, .slice A1 nW c1, .slice A2 nR c2, .slice A3 nI c3], .int .u8 f, .slice A4 M c4] w fun e w' => e = .returned (.bool true) ∧ Below w.heap.size w w' := by
  have hls : nW ≤ 20 ∧ nR ≤ 1100 ∧ nI ≤ 1100 := by simpa [lightB, and_assoc] using hl
  obtain ⟨n1, n2, n3⟩ := hls
  have HL := Aside0.mk hl
  have HR := Aside0.mk hr
  clear hl hr
  go_enter Try.func5, Try.ntmps5
  go_wp2_with fail
  refine (light_calls kd A1 A2 A3 nW nR nI c1 c2 c3 _).mono ?_
  rintro e w1 ⟨rfl, hb⟩
  have HZ := Aside0.mk (blk_below (blk_new w (.cells #[.int .i64 kd, .slice A1 nW c1, .slice A2 nR c2, .slice A3 nI c3] 48)) hb)
  have HB := Aside0.mk (below_step (below_alloc (Below.refl w.heap.size w) (.cells #[.int .i64 kd, .slice A1 nW c1, .slice A2 nR c2, .slice A3 nI c3] 48)) hb)
  rw [HL.out]
  clear hb
  have z0 : (w1).cell? ⟨w.heap.size, 0, none⟩ = some (.int .i64 kd) := blk_cell HZ.out 0
  have z1 : (w1).cell? ⟨w.heap.size, 1, none⟩ = some (.slice A1 nW c1) := blk_cell HZ.out 1
  have z2 : (w1).cell? ⟨w.heap.size, 2, none⟩ = some (.slice A2 nR c2) := blk_cell HZ.out 2
  have z3 : (w1).cell? ⟨w.heap.size, 3, none⟩ = some (.slice A3 nI c3) := blk_cell HZ.out 3
  go_wp2_with fail
  refine (ref_oRight_calls kd A1 A2 A3 nW nR nI c1 c2 c3 _ (by omega) (by omega) (by omega)).mono ?_
  rintro e wr ⟨rfl, hb⟩
  replace HB := Aside0.mk (below_step HB.out hb)
  rw [HR.out]
  clear hb z0 z1 z2 z3
  go_wp2_with fail
  refine (obj_awake_calls _).mono ?_
  rintro e w9 ⟨rfl, hb⟩
  replace HB := Aside0.mk (below_step HB.out hb)
  clear hb
  go_wp2_with fail
  go_ret
  exact ⟨rfl, HB.out⟩

theorem ObjBack_walk (kd : Int) (A1 A2 A3 : Option Addr) (ws raw it : List Int) (c1 c2 c3 : Nat) (fr : Int) (a0 : Option Addr) (len0 cap0 : Nat) (z0 : List Int) (w : World) (r1 : Rd w .u64 (.slice A1 ws.length c1) ws) (r2 : Rd w .u8 (.slice A2 raw.length c2) raw) (r3 : Rd w .u64 (.slice A3 it.length c3) it)
    (w1 : ∀ n ∈ ws, (Lit.int .u64 n).wf = true) (w2 : ∀ n ∈ raw, (Lit.int .u8 n).wf = true) (w3 : ∀ n ∈ it, (Lit.int .u64 n).wf = true) (wf : (Lit.int .u8 fr).wf = true) (w0 : (a0 = none ∧ len0 = 0 ∧ cap0 = 0 ∧ z0 = []) ∨ ∃ x, a0 = some x ∧ len0 ≤ cap0 ∧ cap0 ≤ maxLen ∧ z0.length = cap0 ∧ (∀ i, i < z0.length → w.cell? (x.add i) = some (.int .u8 (z0.getD i 0))) ∧ ∀ n ∈ z0, (Lit.int .u8 n).wf = true) (y0 : len0 * 1 ≤ 140737488351232) :
    Calls Try.prog 5 #[.agg #[.int .i64 kd, .slice A1 ws.length c1, .slice A2 raw.length c2, .slice A3 it.length c3], .int .u8 fr, .slice a0 len0 cap0] w fun e w' => e = .returned (.bool true) ∧ Below w.heap.size w w' := by
  obtain ⟨l0, rfl, hr0, hm0, hw0, hc0⟩ := ReadsInt.ofRowC w0
  obtain ⟨f0, f1⟩ := bounds_u8 wf
  obtain ⟨f, rfl⟩ := Int.eq_ofNat_of_zero_le f0
  cases hl : lightB ws.length raw.length it.length
  · exact ObjBack_far kd _ _ _ A1 A2 A3 a0 c1 c2 c3 cap0 _ _ w hl
  · by_cases hm : l0.length ≤ 200
    · cases hr : oR kd ws.length raw.length it.length
      · exact ObjBack_no kd _ _ _ A1 A2 A3 a0 c1 c2 c3 cap0 _ _ w hl hm hr
      · exact ObjBack_yes kd ws raw it A1 A2 A3 a0 c1 c2 c3 cap0 f l0 w r1 r2 r3 ⟨_, _, rfl, hc0, hr0⟩ (wf_isW w1) (wf_isB8 w2) (wf_isW w3) (wf_isB hw0) (by omega) hl hm hr
    · exact ObjBack_long kd _ _ _ A1 A2 A3 a0 c1 c2 c3 cap0 _ _ w hl (by omega)
end Go.Proofs.Ytigdchfjcfljjaa
