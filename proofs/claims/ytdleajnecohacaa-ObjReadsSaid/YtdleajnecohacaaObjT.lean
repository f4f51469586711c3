/- ObjSames: the walk. -/
import Derived.Test.YtdleajnecohacaaObjS
namespace Go.Proofs.Ytdleajnecohacaa
open Go.RowKit Go.Proofs.YtdleajnecohacaaW.PrintWords Go.Proofs.YtdleajnecohacaaW.PrintLast Go.Proofs.YtdleajnecohacaaW.PrintMore
attribute [local go_sem] max2_int min2_int max_two min_two max_three min_three max_four min_four   -- for this text's walks alone
set_option linter.unusedVariables false
set_option linter.unusedSimpArgs false


set_option maxHeartbeats 8000000 in
set_option maxRecDepth 100000 in
theorem ObjSames_true (k k' : Int) (ws raw it ws' raw' it' : List Int) (A1 A2 A3 B1 B2 B3 : Option Addr) (c1 c2 c3 d1 d2 d3 : Nat) (w : World) (h1 : Rd w .u64 (.slice A1 ws.length c1) ws) (h2 : Rd w .u8 (.slice A2 raw.length c2) raw) (h3 : Rd w .u64 (.slice A3 it.length c3) it)
    (h4 : Rd w .u64 (.slice B1 ws'.length d1) ws') (h5 : Rd w .u8 (.slice B2 raw'.length d2) raw') (h6 : Rd w .u64 (.slice B3 it'.length d3) it') (w2 : isB raw) (w5 : isB raw') (l1 : lightB ws.length raw.length it.length = true) (l2 : lightB ws'.length raw'.length it'.length = true) (hs : sameO k k' ws raw it ws' raw' it' = true) :
    Calls Try.prog 7 #[.agg #[.int .i64 k, .slice A1 ws.length c1, .slice A2 raw.length c2, .slice A3 it.length c3], .agg #[.int .i64 k', .slice B1 ws'.length d1, .slice B2 raw'.length d2, .slice B3 it'.length d3]] w fun e w' => e = .returned (.bool true) ∧ Below w.heap.size w w' := by
  have HR1 := Aside0.mk h1
  have HR2 := Aside0.mk h2
  have HR3 := Aside0.mk h3
  have HR4 := Aside0.mk h4
  have HR5 := Aside0.mk h5
  have HR6 := Aside0.mk h6
  have W2 := Aside0.mk w2
  have W5 := Aside0.mk w5
  have HL1 := Aside0.mk l1
  have HL2 := Aside0.mk l2
  have HS := Aside0.mk hs
  have HX0 := Aside0.mk (blk_below (blk_new w (.cells #[.int .i64 k, .slice A1 ws.length c1, .slice A2 raw.length c2, .slice A3 it.length c3] 49)) (below_alloc (Below.refl _ _) (.cells #[.int .i64 k', .slice B1 ws'.length d1, .slice B2 raw'.length d2, .slice B3 it'.length d3] 49)))
  have HX1 := Aside0.mk (blk_new (w.alloc (.cells #[.int .i64 k, .slice A1 ws.length c1, .slice A2 raw.length c2, .slice A3 it.length c3] 49)) (.cells #[.int .i64 k', .slice B1 ws'.length d1, .slice B2 raw'.length d2, .slice B3 it'.length d3] 49))
  rw [show (w.alloc (.cells #[.int .i64 k, .slice A1 ws.length c1, .slice A2 raw.length c2, .slice A3 it.length c3] 49)).heap.size = w.heap.size + 1 from Array.size_push _] at HX1
  have HB0 := Aside0.mk (below_alloc (below_alloc (Below.refl w.heap.size w) (.cells #[.int .i64 k, .slice A1 ws.length c1, .slice A2 raw.length c2, .slice A3 it.length c3] 49)) (.cells #[.int .i64 k', .slice B1 ws'.length d1, .slice B2 raw'.length d2, .slice B3 it'.length d3] 49))
  clear h1 h2 h3 h4 h5 h6 w2 w5 l1 l2 hs
  have z0 : ((w.alloc (.cells #[.int .i64 k, .slice A1 ws.length c1, .slice A2 raw.length c2, .slice A3 it.length c3] 49)).alloc (.cells #[.int .i64 k', .slice B1 ws'.length d1, .slice B2 raw'.length d2, .slice B3 it'.length d3] 49)).cell? ⟨w.heap.size, 0, none⟩ = some (.int .i64 k) := blk_cell HX0.out 0
  have z1 : ((w.alloc (.cells #[.int .i64 k, .slice A1 ws.length c1, .slice A2 raw.length c2, .slice A3 it.length c3] 49)).alloc (.cells #[.int .i64 k', .slice B1 ws'.length d1, .slice B2 raw'.length d2, .slice B3 it'.length d3] 49)).cell? ⟨w.heap.size, 1, none⟩ = some (.slice A1 ws.length c1) := blk_cell HX0.out 1
  have z2 : ((w.alloc (.cells #[.int .i64 k, .slice A1 ws.length c1, .slice A2 raw.length c2, .slice A3 it.length c3] 49)).alloc (.cells #[.int .i64 k', .slice B1 ws'.length d1, .slice B2 raw'.length d2, .slice B3 it'.length d3] 49)).cell? ⟨w.heap.size, 2, none⟩ = some (.slice A2 raw.length c2) := blk_cell HX0.out 2
  have z3 : ((w.alloc (.cells #[.int .i64 k, .slice A1 ws.length c1, .slice A2 raw.length c2, .slice A3 it.length c3] 49)).alloc (.cells #[.int .i64 k', .slice B1 ws'.length d1, .slice B2 raw'.length d2, .slice B3 it'.length d3] 49)).cell? ⟨w.heap.size, 3, none⟩ = some (.slice A3 it.length c3) := blk_cell HX0.out 3
  have y0 : ((w.alloc (.cells #[.int .i64 k, .slice A1 ws.length c1, .slice A2 raw.length c2, .slice A3 it.length c3] 49)).alloc (.cells #[.int .i64 k', .slice B1 ws'.length d1, .slice B2 raw'.length d2, .slice B3 it'.length d3] 49)).cell? ⟨w.heap.size + 1, 0, none⟩ = some (.int .i64 k') := blk_cell HX1.out 0
  have y1 : ((w.alloc (.cells #[.int .i64 k, .slice A1 ws.length c1, .slice A2 raw.length c2, .slice A3 it.length c3] 49)).alloc (.cells #[.int .i64 k', .slice B1 ws'.length d1, .slice B2 raw'.length d2, .slice B3 it'.length d3] 49)).cell? ⟨w.heap.size + 1, 1, none⟩ = some (.slice B1 ws'.length d1) := blk_cell HX1.out 1
  have y2 : ((w.alloc (.cells #[.int .i64 k, .slice A1 ws.length c1, .slice A2 raw.length c2, .slice A3 it.length c3] 49)).alloc (.cells #[.int .i64 k', .slice B1 ws'.length d1, .slice B2 raw'.length d2, .slice B3 it'.length d3] 49)).cell? ⟨w.heap.size + 1, 2, none⟩ = some (.slice B2 raw'.length d2) := blk_cell HX1.out 2
  have y3 : ((w.alloc (.cells #[.int .i64 k, .slice A1 ws.length c1, .slice A2 raw.length c2, .slice A3 it.length c3] 49)).alloc (.cells #[.int .i64 k', .slice B1 ws'.length d1, .slice B2 raw'.length d2, .slice B3 it'.length d3] 49)).cell? ⟨w.heap.size + 1, 3, none⟩ = some (.slice B3 it'.length d3) := blk_cell HX1.out 3
  go_enter Try.func7, Try.ntmps7
  go_wp2_with fail
  refine (light_calls k A1 A2 A3 ws.length raw.length it.length c1 c2 c3 _).mono ?_
  rintro e w1 ⟨rfl, hb⟩
  have HB1 := Aside0.mk (below_step HB0.out hb)
  have HX01 := Aside0.mk (blk_below HX0.out hb)
  have HX11 := Aside0.mk (blk_below HX1.out hb)
  clear hb z0 z1 z2 z3 y0 y1 y2 y3
  rw [HL1.out]
  have z0 : (w1).cell? ⟨w.heap.size, 0, none⟩ = some (.int .i64 k) := blk_cell HX01.out 0
  have z1 : (w1).cell? ⟨w.heap.size, 1, none⟩ = some (.slice A1 ws.length c1) := blk_cell HX01.out 1
  have z2 : (w1).cell? ⟨w.heap.size, 2, none⟩ = some (.slice A2 raw.length c2) := blk_cell HX01.out 2
  have z3 : (w1).cell? ⟨w.heap.size, 3, none⟩ = some (.slice A3 it.length c3) := blk_cell HX01.out 3
  have y0 : (w1).cell? ⟨w.heap.size + 1, 0, none⟩ = some (.int .i64 k') := blk_cell HX11.out 0
  have y1 : (w1).cell? ⟨w.heap.size + 1, 1, none⟩ = some (.slice B1 ws'.length d1) := blk_cell HX11.out 1
  have y2 : (w1).cell? ⟨w.heap.size + 1, 2, none⟩ = some (.slice B2 raw'.length d2) := blk_cell HX11.out 2
  have y3 : (w1).cell? ⟨w.heap.size + 1, 3, none⟩ = some (.slice B3 it'.length d3) := blk_cell HX11.out 3
  go_wp2_with fail
  refine (light_calls k' B1 B2 B3 ws'.length raw'.length it'.length d1 d2 d3 _).mono ?_
  rintro e w2 ⟨rfl, hb⟩
  have HB2 := Aside0.mk (below_step HB1.out hb)
  have HX02 := Aside0.mk (blk_below HX01.out hb)
  have HX12 := Aside0.mk (blk_below HX11.out hb)
  clear hb z0 z1 z2 z3 y0 y1 y2 y3
  rw [HL2.out]
  have z0 : (w2).cell? ⟨w.heap.size, 0, none⟩ = some (.int .i64 k) := blk_cell HX02.out 0
  have z1 : (w2).cell? ⟨w.heap.size, 1, none⟩ = some (.slice A1 ws.length c1) := blk_cell HX02.out 1
  have z2 : (w2).cell? ⟨w.heap.size, 2, none⟩ = some (.slice A2 raw.length c2) := blk_cell HX02.out 2
  have z3 : (w2).cell? ⟨w.heap.size, 3, none⟩ = some (.slice A3 it.length c3) := blk_cell HX02.out 3
  have y0 : (w2).cell? ⟨w.heap.size + 1, 0, none⟩ = some (.int .i64 k') := blk_cell HX12.out 0
  have y1 : (w2).cell? ⟨w.heap.size + 1, 1, none⟩ = some (.slice B1 ws'.length d1) := blk_cell HX12.out 1
  have y2 : (w2).cell? ⟨w.heap.size + 1, 2, none⟩ = some (.slice B2 raw'.length d2) := blk_cell HX12.out 2
  have y3 : (w2).cell? ⟨w.heap.size + 1, 3, none⟩ = some (.slice B3 it'.length d3) := blk_cell HX12.out 3
  go_wp2_with fail
  refine start_ (n := 20) (S := fun w' => w'.cell? ⟨w.heap.size, 0, none⟩ = some (.int .i64 k) ∧ w'.cell? ⟨w.heap.size, 1, none⟩ = some (.slice A1 ws.length c1) ∧ w'.cell? ⟨w.heap.size, 2, none⟩ = some (.slice A2 raw.length c2) ∧ w'.cell? ⟨w.heap.size, 3, none⟩ = some (.slice A3 it.length c3) ∧ w'.cell? ⟨w.heap.size + 1, 0, none⟩ = some (.int .i64 k') ∧ w'.cell? ⟨w.heap.size + 1, 1, none⟩ = some (.slice B1 ws'.length d1) ∧ w'.cell? ⟨w.heap.size + 1, 2, none⟩ = some (.slice B2 raw'.length d2) ∧ w'.cell? ⟨w.heap.size + 1, 3, none⟩ = some (.slice B3 it'.length d3)) (ds := []) #[false, false, false, false, false, false, false, false, false, false, false, false, false, false, false, false, false, false, false, false] (by kernel_rfl) rfl rfl ⟨z0, z1, z2, z3, y0, y1, y2, y3⟩ (fun hHeld => ?_)
  refine take_ (i := 0) (N := some 14) (v := ?_) (a' := ?_) #[true, false, false, false, false, false, false, false, false, false, false, false, false, false, false, false, false, false, false, false] rfl rfl (by kernel_rfl) (fun _ _ _ h => h) (Or.inl ⟨by rfl, ?_⟩) hHeld ?_ ?_
  rotate_left
  · rintro w' ⟨s0, s1, s2, s3, s4, s5, s6, s7⟩
    go_simp
    with_reducible rfl
  rotate_left
  · simp only [Act.put, List.setIfInBounds_toArray, List.set_cons_zero, List.set_cons_succ, i64_w, i32_w]
    rfl
  refine take_ (i := 2) (N := some 16) (v := ?_) (a' := ?_) #[true, false, true, false, false, false, false, false, false, false, false, false, false, false, false, false, false, false, false, false] rfl rfl (by kernel_rfl) (fun _ _ _ h => h) (Or.inl ⟨by rfl, ?_⟩) hHeld ?_ ?_
  rotate_left
  · rintro w' ⟨s0, s1, s2, s3, s4, s5, s6, s7⟩
    go_simp
    with_reducible rfl
  rotate_left
  · simp only [Act.put, List.setIfInBounds_toArray, List.set_cons_zero, List.set_cons_succ, i64_w, i32_w]
    rfl
  refine take_ (i := 5) (N := some 19) (v := ?_) (a' := ?_) #[true, false, true, false, false, true, false, false, false, false, false, false, false, false, false, false, false, false, false, false] rfl rfl (by kernel_rfl) (fun _ _ _ h => h) (Or.inl ⟨by rfl, ?_⟩) hHeld ?_ ?_
  rotate_left
  · rintro w' ⟨s0, s1, s2, s3, s4, s5, s6, s7⟩
    go_simp
    with_reducible rfl
  rotate_left
  · simp only [Act.put, List.setIfInBounds_toArray, List.set_cons_zero, List.set_cons_succ, i64_w, i32_w]
    rfl
  refine take_ (i := 6) (N := some 20) (v := ?_) (a' := ?_) #[true, false, true, false, false, true, true, false, false, false, false, false, false, false, false, false, false, false, false, false] rfl rfl (by kernel_rfl) (fun _ _ _ h => h) (Or.inl ⟨by rfl, ?_⟩) hHeld ?_ ?_
  rotate_left
  · rintro w' ⟨s0, s1, s2, s3, s4, s5, s6, s7⟩
    go_simp
    with_reducible rfl
  rotate_left
  · simp only [Act.put, List.setIfInBounds_toArray, List.set_cons_zero, List.set_cons_succ, i64_w, i32_w]
    rfl
  refine one_ (i := 1) (N := some 15) #[true, true, true, false, false, true, true, false, false, false, false, false, false, false, false, false, false, false, false, false] rfl rfl (by kernel_rfl) (by decide) (fun K hK => ?_)
  refine goes_ Try.func34 (by kernel_rfl) rfl #[.agg #[.int .i64 k, .slice A1 ws.length c1, .slice A2 raw.length c2, .slice A3 it.length c3]] (by rfl) rfl rfl (by (try simp only [List.map_toArray, List.map_cons, List.map_nil]); first | done | rfl) ?_
  with_reducible refine (obj_to_calls k A1 A2 A3 ws.length raw.length it.length c1 c2 c3 _).mono ?_
  rintro e u3 ⟨rfl, hb3⟩
  refine ⟨_, rfl, ?_⟩
  refine hK.out _ _ ⟨(pw_cell_below hb3 hHeld.1), (pw_cell_below hb3 hHeld.2.1), (pw_cell_below hb3 hHeld.2.2.1), (pw_cell_below hb3 hHeld.2.2.2.1), (pw_cell_below hb3 hHeld.2.2.2.2.1), (pw_cell_below hb3 hHeld.2.2.2.2.2.1), (pw_cell_below hb3 hHeld.2.2.2.2.2.2.1), (pw_cell_below hb3 hHeld.2.2.2.2.2.2.2)⟩ (fun hHeld => ?_)
  clear hK K
  refine norm_ (a' := ?_) ?_ ?_
  rotate_left
  · show Act.put _ (some 15) _ = _
    simp only [Act.put, List.setIfInBounds_toArray, List.set_cons_zero, List.set_cons_succ, i64_w, i32_w]
    rfl
  refine one_ (i := 3) (N := some 17) #[true, true, true, true, false, true, true, false, false, false, false, false, false, false, false, false, false, false, false, false] rfl rfl (by kernel_rfl) (by decide) (fun K hK => ?_)
  refine goes_ Try.func34 (by kernel_rfl) rfl #[.agg #[.int .i64 k', .slice B1 ws'.length d1, .slice B2 raw'.length d2, .slice B3 it'.length d3]] (by rfl) rfl rfl (by (try simp only [List.map_toArray, List.map_cons, List.map_nil]); first | done | rfl) ?_
  with_reducible refine (obj_to_calls k' B1 B2 B3 ws'.length raw'.length it'.length d1 d2 d3 _).mono ?_
  rintro e u4 ⟨rfl, hb4⟩
  refine ⟨_, rfl, ?_⟩
  refine hK.out _ _ ⟨(pw_cell_below hb4 hHeld.1), (pw_cell_below hb4 hHeld.2.1), (pw_cell_below hb4 hHeld.2.2.1), (pw_cell_below hb4 hHeld.2.2.2.1), (pw_cell_below hb4 hHeld.2.2.2.2.1), (pw_cell_below hb4 hHeld.2.2.2.2.2.1), (pw_cell_below hb4 hHeld.2.2.2.2.2.2.1), (pw_cell_below hb4 hHeld.2.2.2.2.2.2.2)⟩ (fun hHeld => ?_)
  clear hK K
  refine norm_ (a' := ?_) ?_ ?_
  rotate_left
  · show Act.put _ (some 17) _ = _
    simp only [Act.put, List.setIfInBounds_toArray, List.set_cons_zero, List.set_cons_succ, i64_w, i32_w]
    rfl
  refine one_ (i := 4) (N := some 18) #[true, true, true, true, true, true, true, false, false, false, false, false, false, false, false, false, false, false, false, false] rfl rfl (by kernel_rfl) (by decide) (fun K hK => ?_)
  refine goes_ Try.func44 (by kernel_rfl) rfl #[.agg #[.int .i64 k, .slice A1 ws.length c1, .slice A2 raw.length c2, .slice A3 it.length c3], .agg #[.int .i64 k', .slice B1 ws'.length d1, .slice B2 raw'.length d2, .slice B3 it'.length d3]] (by rfl) rfl rfl (by (try simp only [List.map_toArray, List.map_cons, List.map_nil]); first | done | rfl) ?_
  with_reducible refine (obj_Same_calls k k' ws raw it ws' raw' it' A1 A2 A3 B1 B2 B3 c1 c2 c3 d1 d2 d3 _ (HR1.out.below (below_step (below_step (below_drew HB2.out) hb3) hb4)) (HR2.out.below (below_step (below_step (below_drew HB2.out) hb3) hb4)) (HR3.out.below (below_step (below_step (below_drew HB2.out) hb3) hb4)) (HR4.out.below (below_step (below_step (below_drew HB2.out) hb3) hb4)) (HR5.out.below (below_step (below_step (below_drew HB2.out) hb3) hb4)) (HR6.out.below (below_step (below_step (below_drew HB2.out) hb3) hb4)) W2.out W5.out).mono ?_
  rintro e u5 ⟨rfl, hb5⟩
  refine ⟨_, rfl, ?_⟩
  rw [HS.out]
  refine hK.out _ _ ⟨(pw_cell_below hb5 hHeld.1), (pw_cell_below hb5 hHeld.2.1), (pw_cell_below hb5 hHeld.2.2.1), (pw_cell_below hb5 hHeld.2.2.2.1), (pw_cell_below hb5 hHeld.2.2.2.2.1), (pw_cell_below hb5 hHeld.2.2.2.2.2.1), (pw_cell_below hb5 hHeld.2.2.2.2.2.2.1), (pw_cell_below hb5 hHeld.2.2.2.2.2.2.2)⟩ (fun hHeld => ?_)
  clear hK K
  refine norm_ (a' := ?_) ?_ ?_
  rotate_left
  · show Act.put _ (some 18) _ = _
    simp only [Act.put, List.setIfInBounds_toArray, List.set_cons_zero, List.set_cons_succ, i64_w, i32_w]
    rfl
  refine one_ (i := 7) (N := some 21) #[true, true, true, true, true, true, true, true, false, false, false, false, false, false, false, false, false, false, false, false] rfl rfl (by kernel_rfl) (by decide) (fun K hK => ?_)
  refine goes_ Try.func45 (by kernel_rfl) rfl #[.agg #[.int .i64 k, .slice A1 ws.length c1, .slice A2 raw.length c2, .slice A3 it.length c3], .agg #[.int .i64 k', .slice B1 ws'.length d1, .slice B2 raw'.length d2, .slice B3 it'.length d3]] (by rfl) rfl rfl (by (try simp only [List.map_toArray, List.map_cons, List.map_nil]); first | done | rfl) ?_
  with_reducible refine (ref_oSame_calls k k' ws raw it ws' raw' it' A1 A2 A3 B1 B2 B3 c1 c2 c3 d1 d2 d3 _ (HR1.out.below (below_step (below_step (below_step (below_drew HB2.out) hb3) hb4) hb5)) (HR2.out.below (below_step (below_step (below_step (below_drew HB2.out) hb3) hb4) hb5)) (HR3.out.below (below_step (below_step (below_step (below_drew HB2.out) hb3) hb4) hb5)) (HR4.out.below (below_step (below_step (below_step (below_drew HB2.out) hb3) hb4) hb5)) (HR5.out.below (below_step (below_step (below_step (below_drew HB2.out) hb3) hb4) hb5)) (HR6.out.below (below_step (below_step (below_step (below_drew HB2.out) hb3) hb4) hb5)) W2.out W5.out).mono ?_
  rintro e u6 ⟨rfl, hb6⟩
  refine ⟨_, rfl, ?_⟩
  rw [HS.out]
  refine hK.out _ _ ⟨(pw_cell_below hb6 hHeld.1), (pw_cell_below hb6 hHeld.2.1), (pw_cell_below hb6 hHeld.2.2.1), (pw_cell_below hb6 hHeld.2.2.2.1), (pw_cell_below hb6 hHeld.2.2.2.2.1), (pw_cell_below hb6 hHeld.2.2.2.2.2.1), (pw_cell_below hb6 hHeld.2.2.2.2.2.2.1), (pw_cell_below hb6 hHeld.2.2.2.2.2.2.2)⟩ (fun hHeld => ?_)
  clear hK K
  refine norm_ (a' := ?_) ?_ ?_
  rotate_left
  · show Act.put _ (some 21) _ = _
    simp only [Act.put, List.setIfInBounds_toArray, List.set_cons_zero, List.set_cons_succ, i64_w, i32_w]
    rfl
  refine pure_ (i := 8) (N := some 22) (v := ?_) (a' := ?_) #[true, true, true, true, true, true, true, true, true, false, false, false, false, false, false, false, false, false, false, false] rfl rfl (by kernel_rfl) (fun _ _ _ h => h) (Or.inl ⟨by rfl, ?_⟩) ?_ ?_
  rotate_left
  · intro w'
    go_simp
    with_reducible rfl
  rotate_left
  · simp only [Act.put, List.setIfInBounds_toArray, List.set_cons_zero, List.set_cons_succ, i64_w, i32_w]
    rfl
  refine pure_ (i := 9) (N := some 23) (v := ?_) (a' := ?_) #[true, true, true, true, true, true, true, true, true, true, false, false, false, false, false, false, false, false, false, false] rfl rfl (by kernel_rfl) (fun _ _ _ h => h) (Or.inl ⟨by rfl, ?_⟩) ?_ ?_
  rotate_left
  · intro w'
    go_simp
    with_reducible rfl
  rotate_left
  · simp only [Act.put, List.setIfInBounds_toArray, List.set_cons_zero, List.set_cons_succ, i64_w, i32_w]
    rfl
  refine take_ (i := 10) (N := some 24) (v := ?_) (a' := ?_) #[true, true, true, true, true, true, true, true, true, true, true, false, false, false, false, false, false, false, false, false] rfl rfl (by kernel_rfl) (fun _ _ _ h => h) (Or.inl ⟨by rfl, ?_⟩) hHeld ?_ ?_
  rotate_left
  · rintro w' ⟨s0, s1, s2, s3, s4, s5, s6, s7⟩
    go_simp
    with_reducible rfl
  rotate_left
  · simp only [Act.put, List.setIfInBounds_toArray, List.set_cons_zero, List.set_cons_succ, i64_w, i32_w]
    rfl
  refine take_ (i := 12) (N := some 26) (v := ?_) (a' := ?_) #[true, true, true, true, true, true, true, true, true, true, true, false, true, false, false, false, false, false, false, false] rfl rfl (by kernel_rfl) (fun _ _ _ h => h) (Or.inl ⟨by rfl, ?_⟩) hHeld ?_ ?_
  rotate_left
  · rintro w' ⟨s0, s1, s2, s3, s4, s5, s6, s7⟩
    go_simp
    with_reducible rfl
  rotate_left
  · simp only [Act.put, List.setIfInBounds_toArray, List.set_cons_zero, List.set_cons_succ, i64_w, i32_w]
    rfl
  refine one_ (i := 11) (N := some 25) #[true, true, true, true, true, true, true, true, true, true, true, true, true, false, false, false, false, false, false, false] rfl rfl (by kernel_rfl) (by decide) (fun K hK => ?_)
  refine goes_ Try.func34 (by kernel_rfl) rfl #[.agg #[.int .i64 k, .slice A1 ws.length c1, .slice A2 raw.length c2, .slice A3 it.length c3]] (by rfl) rfl rfl (by (try simp only [List.map_toArray, List.map_cons, List.map_nil]); first | done | rfl) ?_
  with_reducible refine (obj_to_calls k A1 A2 A3 ws.length raw.length it.length c1 c2 c3 _).mono ?_
  rintro e u7 ⟨rfl, hb7⟩
  refine ⟨_, rfl, ?_⟩
  refine hK.out _ _ ⟨(pw_cell_below hb7 hHeld.1), (pw_cell_below hb7 hHeld.2.1), (pw_cell_below hb7 hHeld.2.2.1), (pw_cell_below hb7 hHeld.2.2.2.1), (pw_cell_below hb7 hHeld.2.2.2.2.1), (pw_cell_below hb7 hHeld.2.2.2.2.2.1), (pw_cell_below hb7 hHeld.2.2.2.2.2.2.1), (pw_cell_below hb7 hHeld.2.2.2.2.2.2.2)⟩ (fun hHeld => ?_)
  clear hK K
  refine norm_ (a' := ?_) ?_ ?_
  rotate_left
  · show Act.put _ (some 25) _ = _
    simp only [Act.put, List.setIfInBounds_toArray, List.set_cons_zero, List.set_cons_succ, i64_w, i32_w]
    rfl
  refine one_ (i := 13) (N := some 27) #[true, true, true, true, true, true, true, true, true, true, true, true, true, true, false, false, false, false, false, false] rfl rfl (by kernel_rfl) (by decide) (fun K hK => ?_)
  refine goes_ Try.func34 (by kernel_rfl) rfl #[.agg #[.int .i64 k, .slice A1 ws.length c1, .slice A2 raw.length c2, .slice A3 it.length c3]] (by rfl) rfl rfl (by (try simp only [List.map_toArray, List.map_cons, List.map_nil]); first | done | rfl) ?_
  with_reducible refine (obj_to_calls k A1 A2 A3 ws.length raw.length it.length c1 c2 c3 _).mono ?_
  rintro e u8 ⟨rfl, hb8⟩
  refine ⟨_, rfl, ?_⟩
  refine hK.out _ _ ⟨(pw_cell_below hb8 hHeld.1), (pw_cell_below hb8 hHeld.2.1), (pw_cell_below hb8 hHeld.2.2.1), (pw_cell_below hb8 hHeld.2.2.2.1), (pw_cell_below hb8 hHeld.2.2.2.2.1), (pw_cell_below hb8 hHeld.2.2.2.2.2.1), (pw_cell_below hb8 hHeld.2.2.2.2.2.2.1), (pw_cell_below hb8 hHeld.2.2.2.2.2.2.2)⟩ (fun hHeld => ?_)
  clear hK K
  refine norm_ (a' := ?_) ?_ ?_
  rotate_left
  · show Act.put _ (some 27) _ = _
    simp only [Act.put, List.setIfInBounds_toArray, List.set_cons_zero, List.set_cons_succ, i64_w, i32_w]
    rfl
  refine one_ (i := 14) (N := some 28) #[true, true, true, true, true, true, true, true, true, true, true, true, true, true, true, false, false, false, false, false] rfl rfl (by kernel_rfl) (by decide) (fun K hK => ?_)
  refine goes_ Try.func44 (by kernel_rfl) rfl #[.agg #[.int .i64 k, .slice A1 ws.length c1, .slice A2 raw.length c2, .slice A3 it.length c3], .agg #[.int .i64 k, .slice A1 ws.length c1, .slice A2 raw.length c2, .slice A3 it.length c3]] (by rfl) rfl rfl (by (try simp only [List.map_toArray, List.map_cons, List.map_nil]); first | done | rfl) ?_
  with_reducible refine (obj_Same_calls k k ws raw it ws raw it A1 A2 A3 A1 A2 A3 c1 c2 c3 c1 c2 c3 _ (HR1.out.below (below_step (below_step (below_step (below_step (below_step (below_step (below_drew HB2.out) hb3) hb4) hb5) hb6) hb7) hb8)) (HR2.out.below (below_step (below_step (below_step (below_step (below_step (below_step (below_drew HB2.out) hb3) hb4) hb5) hb6) hb7) hb8)) (HR3.out.below (below_step (below_step (below_step (below_step (below_step (below_step (below_drew HB2.out) hb3) hb4) hb5) hb6) hb7) hb8)) (HR1.out.below (below_step (below_step (below_step (below_step (below_step (below_step (below_drew HB2.out) hb3) hb4) hb5) hb6) hb7) hb8)) (HR2.out.below (below_step (below_step (below_step (below_step (below_step (below_step (below_drew HB2.out) hb3) hb4) hb5) hb6) hb7) hb8)) (HR3.out.below (below_step (below_step (below_step (below_step (below_step (below_step (below_drew HB2.out) hb3) hb4) hb5) hb6) hb7) hb8)) W2.out W2.out).mono ?_
  rintro e u9 ⟨rfl, hb9⟩
  refine ⟨_, rfl, ?_⟩
  rw [sameO_yes k rfl rfl rfl]
  refine hK.out _ _ ⟨(pw_cell_below hb9 hHeld.1), (pw_cell_below hb9 hHeld.2.1), (pw_cell_below hb9 hHeld.2.2.1), (pw_cell_below hb9 hHeld.2.2.2.1), (pw_cell_below hb9 hHeld.2.2.2.2.1), (pw_cell_below hb9 hHeld.2.2.2.2.2.1), (pw_cell_below hb9 hHeld.2.2.2.2.2.2.1), (pw_cell_below hb9 hHeld.2.2.2.2.2.2.2)⟩ (fun hHeld => ?_)
  clear hK K
  refine norm_ (a' := ?_) ?_ ?_
  rotate_left
  · show Act.put _ (some 28) _ = _
    simp only [Act.put, List.setIfInBounds_toArray, List.set_cons_zero, List.set_cons_succ, i64_w, i32_w]
    rfl
  refine pure_ (i := 15) (N := some 29) (v := ?_) (a' := ?_) #[true, true, true, true, true, true, true, true, true, true, true, true, true, true, true, true, false, false, false, false] rfl rfl (by kernel_rfl) (fun _ _ _ h => h) (Or.inl ⟨by rfl, ?_⟩) ?_ ?_
  rotate_left
  · intro w'
    go_simp
    with_reducible rfl
  rotate_left
  · simp only [Act.put, List.setIfInBounds_toArray, List.set_cons_zero, List.set_cons_succ, i64_w, i32_w]
    rfl
  refine pure_ (i := 16) (N := some 30) (v := ?_) (a' := ?_) #[true, true, true, true, true, true, true, true, true, true, true, true, true, true, true, true, true, false, false, false] rfl rfl (by kernel_rfl) (fun _ _ _ h => h) (Or.inl ⟨by rfl, ?_⟩) ?_ ?_
  rotate_left
  · intro w'
    go_simp
    with_reducible rfl
  rotate_left
  · simp only [Act.put, List.setIfInBounds_toArray, List.set_cons_zero, List.set_cons_succ, i64_w, i32_w]
    rfl
  refine one_ (i := 17) (N := some 31) #[true, true, true, true, true, true, true, true, true, true, true, true, true, true, true, true, true, true, false, false] rfl rfl (by kernel_rfl) (by decide) (fun K hK => ?_)
  refine goes_ Try.func32 (by kernel_rfl) rfl #[] (by rfl) rfl rfl (by (try simp only [List.map_toArray, List.map_cons, List.map_nil]); first | done | rfl) ?_
  with_reducible refine (obj_awake_calls _).mono ?_
  rintro e u10 ⟨rfl, hb10⟩
  refine ⟨_, rfl, ?_⟩
  refine hK.out _ _ ⟨(pw_cell_below hb10 hHeld.1), (pw_cell_below hb10 hHeld.2.1), (pw_cell_below hb10 hHeld.2.2.1), (pw_cell_below hb10 hHeld.2.2.2.1), (pw_cell_below hb10 hHeld.2.2.2.2.1), (pw_cell_below hb10 hHeld.2.2.2.2.2.1), (pw_cell_below hb10 hHeld.2.2.2.2.2.2.1), (pw_cell_below hb10 hHeld.2.2.2.2.2.2.2)⟩ (fun hHeld => ?_)
  clear hK K
  refine norm_ (a' := ?_) ?_ ?_
  rotate_left
  · show Act.put _ (some 31) _ = _
    simp only [Act.put, List.setIfInBounds_toArray, List.set_cons_zero, List.set_cons_succ, i64_w, i32_w]
    rfl
  refine pure_ (i := 18) (N := some 32) (v := ?_) (a' := ?_) #[true, true, true, true, true, true, true, true, true, true, true, true, true, true, true, true, true, true, true, false] rfl rfl (by kernel_rfl) (fun _ _ _ h => h) (Or.inl ⟨by rfl, ?_⟩) ?_ ?_
  rotate_left
  · intro w'
    go_simp
    with_reducible rfl
  rotate_left
  · simp only [Act.put, List.setIfInBounds_toArray, List.set_cons_zero, List.set_cons_succ, i64_w, i32_w]
    rfl
  refine pure_ (i := 19) (N := some 4) (v := ?_) (a' := ?_) #[true, true, true, true, true, true, true, true, true, true, true, true, true, true, true, true, true, true, true, true] rfl rfl (by kernel_rfl) (fun _ _ _ h => h) (Or.inl ⟨by rfl, ?_⟩) ?_ ?_
  rotate_left
  · intro w'
    go_simp
    with_reducible rfl
  rotate_left
  · simp only [Act.put, List.setIfInBounds_toArray, List.set_cons_zero, List.set_cons_succ, i64_w, i32_w]
    rfl
  refine done_ (by kernel_rfl) ?_
  have HBE := Aside0.mk (below_step (below_step (below_step (below_step (below_step (below_step (below_step (below_step (below_drew HB2.out) hb3) hb4) hb5) hb6) hb7) hb8) hb9) hb10)
  clear hb3 hb4 hb5 hb6 hb7 hb8 hb9 hb10 z0 z1 z2 z3 y0 y1 y2 y3
  go_wp2_with fail
  go_ret
  exact ⟨rfl, HBE.out⟩
set_option maxHeartbeats 8000000 in
set_option maxRecDepth 100000 in
theorem ObjSames_false (k k' : Int) (ws raw it ws' raw' it' : List Int) (A1 A2 A3 B1 B2 B3 : Option Addr) (c1 c2 c3 d1 d2 d3 : Nat) (w : World) (h1 : Rd w .u64 (.slice A1 ws.length c1) ws) (h2 : Rd w .u8 (.slice A2 raw.length c2) raw) (h3 : Rd w .u64 (.slice A3 it.length c3) it)
    (h4 : Rd w .u64 (.slice B1 ws'.length d1) ws') (h5 : Rd w .u8 (.slice B2 raw'.length d2) raw') (h6 : Rd w .u64 (.slice B3 it'.length d3) it') (w2 : isB raw) (w5 : isB raw') (l1 : lightB ws.length raw.length it.length = true) (l2 : lightB ws'.length raw'.length it'.length = true) (hs : sameO k k' ws raw it ws' raw' it' = false) :
    Calls Try.prog 7 #[.agg #[.int .i64 k, .slice A1 ws.length c1, .slice A2 raw.length c2, .slice A3 it.length c3], .agg #[.int .i64 k', .slice B1 ws'.length d1, .slice B2 raw'.length d2, .slice B3 it'.length d3]] w fun e w' => e = .returned (.bool true) ∧ Below w.heap.size w w' := by
  have HR1 := Aside0.mk h1
  have HR2 := Aside0.mk h2
  have HR3 := Aside0.mk h3
  have HR4 := Aside0.mk h4
  have HR5 := Aside0.mk h5
  have HR6 := Aside0.mk h6
  have W2 := Aside0.mk w2
  have W5 := Aside0.mk w5
  have HL1 := Aside0.mk l1
  have HL2 := Aside0.mk l2
  have HS := Aside0.mk hs
  have HX0 := Aside0.mk (blk_below (blk_new w (.cells #[.int .i64 k, .slice A1 ws.length c1, .slice A2 raw.length c2, .slice A3 it.length c3] 49)) (below_alloc (Below.refl _ _) (.cells #[.int .i64 k', .slice B1 ws'.length d1, .slice B2 raw'.length d2, .slice B3 it'.length d3] 49)))
  have HX1 := Aside0.mk (blk_new (w.alloc (.cells #[.int .i64 k, .slice A1 ws.length c1, .slice A2 raw.length c2, .slice A3 it.length c3] 49)) (.cells #[.int .i64 k', .slice B1 ws'.length d1, .slice B2 raw'.length d2, .slice B3 it'.length d3] 49))
  rw [show (w.alloc (.cells #[.int .i64 k, .slice A1 ws.length c1, .slice A2 raw.length c2, .slice A3 it.length c3] 49)).heap.size = w.heap.size + 1 from Array.size_push _] at HX1
  have HB0 := Aside0.mk (below_alloc (below_alloc (Below.refl w.heap.size w) (.cells #[.int .i64 k, .slice A1 ws.length c1, .slice A2 raw.length c2, .slice A3 it.length c3] 49)) (.cells #[.int .i64 k', .slice B1 ws'.length d1, .slice B2 raw'.length d2, .slice B3 it'.length d3] 49))
  clear h1 h2 h3 h4 h5 h6 w2 w5 l1 l2 hs
  have z0 : ((w.alloc (.cells #[.int .i64 k, .slice A1 ws.length c1, .slice A2 raw.length c2, .slice A3 it.length c3] 49)).alloc (.cells #[.int .i64 k', .slice B1 ws'.length d1, .slice B2 raw'.length d2, .slice B3 it'.length d3] 49)).cell? ⟨w.heap.size, 0, none⟩ = some (.int .i64 k) := blk_cell HX0.out 0
  have z1 : ((w.alloc (.cells #[.int .i64 k, .slice A1 ws.length c1, .slice A2 raw.length c2, .slice A3 it.length c3] 49)).alloc (.cells #[.int .i64 k', .slice B1 ws'.length d1, .slice B2 raw'.length d2, .slice B3 it'.length d3] 49)).cell? ⟨w.heap.size, 1, none⟩ = some (.slice A1 ws.length c1) := blk_cell HX0.out 1
  have z2 : ((w.alloc (.cells #[.int .i64 k, .slice A1 ws.length c1, .slice A2 raw.length c2, .slice A3 it.length c3] 49)).alloc (.cells #[.int .i64 k', .slice B1 ws'.length d1, .slice B2 raw'.length d2, .slice B3 it'.length d3] 49)).cell? ⟨w.heap.size, 2, none⟩ = some (.slice A2 raw.length c2) := blk_cell HX0.out 2
  have z3 : ((w.alloc (.cells #[.int .i64 k, .slice A1 ws.length c1, .slice A2 raw.length c2, .slice A3 it.length c3] 49)).alloc (.cells #[.int .i64 k', .slice B1 ws'.length d1, .slice B2 raw'.length d2, .slice B3 it'.length d3] 49)).cell? ⟨w.heap.size, 3, none⟩ = some (.slice A3 it.length c3) := blk_cell HX0.out 3
  have y0 : ((w.alloc (.cells #[.int .i64 k, .slice A1 ws.length c1, .slice A2 raw.length c2, .slice A3 it.length c3] 49)).alloc (.cells #[.int .i64 k', .slice B1 ws'.length d1, .slice B2 raw'.length d2, .slice B3 it'.length d3] 49)).cell? ⟨w.heap.size + 1, 0, none⟩ = some (.int .i64 k') := blk_cell HX1.out 0
  have y1 : ((w.alloc (.cells #[.int .i64 k, .slice A1 ws.length c1, .slice A2 raw.length c2, .slice A3 it.length c3] 49)).alloc (.cells #[.int .i64 k', .slice B1 ws'.length d1, .slice B2 raw'.length d2, .slice B3 it'.length d3] 49)).cell? ⟨w.heap.size + 1, 1, none⟩ = some (.slice B1 ws'.length d1) := blk_cell HX1.out 1
  have y2 : ((w.alloc (.cells #[.int .i64 k, .slice A1 ws.length c1, .slice A2 raw.length c2, .slice A3 it.length c3] 49)).alloc (.cells #[.int .i64 k', .slice B1 ws'.length d1, .slice B2 raw'.length d2, .slice B3 it'.length d3] 49)).cell? ⟨w.heap.size + 1, 2, none⟩ = some (.slice B2 raw'.length d2) := blk_cell HX1.out 2
  have y3 : ((w.alloc (.cells #[.int .i64 k, .slice A1 ws.length c1, .slice A2 raw.length c2, .slice A3 it.length c3] 49)).alloc (.cells #[.int .i64 k', .slice B1 ws'.length d1, .slice B2 raw'.length d2, .slice B3 it'.length d3] 49)).cell? ⟨w.heap.size + 1, 3, none⟩ = some (.slice B3 it'.length d3) := blk_cell HX1.out 3
  go_enter Try.func7, Try.ntmps7
  go_wp2_with fail
  refine (light_calls k A1 A2 A3 ws.length raw.length it.length c1 c2 c3 _).mono ?_
  rintro e w1 ⟨rfl, hb⟩
  have HB1 := Aside0.mk (below_step HB0.out hb)
  have HX01 := Aside0.mk (blk_below HX0.out hb)
  have HX11 := Aside0.mk (blk_below HX1.out hb)
  clear hb z0 z1 z2 z3 y0 y1 y2 y3
  rw [HL1.out]
  have z0 : (w1).cell? ⟨w.heap.size, 0, none⟩ = some (.int .i64 k) := blk_cell HX01.out 0
  have z1 : (w1).cell? ⟨w.heap.size, 1, none⟩ = some (.slice A1 ws.length c1) := blk_cell HX01.out 1
  have z2 : (w1).cell? ⟨w.heap.size, 2, none⟩ = some (.slice A2 raw.length c2) := blk_cell HX01.out 2
  have z3 : (w1).cell? ⟨w.heap.size, 3, none⟩ = some (.slice A3 it.length c3) := blk_cell HX01.out 3
  have y0 : (w1).cell? ⟨w.heap.size + 1, 0, none⟩ = some (.int .i64 k') := blk_cell HX11.out 0
  have y1 : (w1).cell? ⟨w.heap.size + 1, 1, none⟩ = some (.slice B1 ws'.length d1) := blk_cell HX11.out 1
  have y2 : (w1).cell? ⟨w.heap.size + 1, 2, none⟩ = some (.slice B2 raw'.length d2) := blk_cell HX11.out 2
  have y3 : (w1).cell? ⟨w.heap.size + 1, 3, none⟩ = some (.slice B3 it'.length d3) := blk_cell HX11.out 3
  go_wp2_with fail
  refine (light_calls k' B1 B2 B3 ws'.length raw'.length it'.length d1 d2 d3 _).mono ?_
  rintro e w2 ⟨rfl, hb⟩
  have HB2 := Aside0.mk (below_step HB1.out hb)
  have HX02 := Aside0.mk (blk_below HX01.out hb)
  have HX12 := Aside0.mk (blk_below HX11.out hb)
  clear hb z0 z1 z2 z3 y0 y1 y2 y3
  rw [HL2.out]
  have z0 : (w2).cell? ⟨w.heap.size, 0, none⟩ = some (.int .i64 k) := blk_cell HX02.out 0
  have z1 : (w2).cell? ⟨w.heap.size, 1, none⟩ = some (.slice A1 ws.length c1) := blk_cell HX02.out 1
  have z2 : (w2).cell? ⟨w.heap.size, 2, none⟩ = some (.slice A2 raw.length c2) := blk_cell HX02.out 2
  have z3 : (w2).cell? ⟨w.heap.size, 3, none⟩ = some (.slice A3 it.length c3) := blk_cell HX02.out 3
  have y0 : (w2).cell? ⟨w.heap.size + 1, 0, none⟩ = some (.int .i64 k') := blk_cell HX12.out 0
  have y1 : (w2).cell? ⟨w.heap.size + 1, 1, none⟩ = some (.slice B1 ws'.length d1) := blk_cell HX12.out 1
  have y2 : (w2).cell? ⟨w.heap.size + 1, 2, none⟩ = some (.slice B2 raw'.length d2) := blk_cell HX12.out 2
  have y3 : (w2).cell? ⟨w.heap.size + 1, 3, none⟩ = some (.slice B3 it'.length d3) := blk_cell HX12.out 3
  go_wp2_with fail
  refine start_ (n := 20) (S := fun w' => w'.cell? ⟨w.heap.size, 0, none⟩ = some (.int .i64 k) ∧ w'.cell? ⟨w.heap.size, 1, none⟩ = some (.slice A1 ws.length c1) ∧ w'.cell? ⟨w.heap.size, 2, none⟩ = some (.slice A2 raw.length c2) ∧ w'.cell? ⟨w.heap.size, 3, none⟩ = some (.slice A3 it.length c3) ∧ w'.cell? ⟨w.heap.size + 1, 0, none⟩ = some (.int .i64 k') ∧ w'.cell? ⟨w.heap.size + 1, 1, none⟩ = some (.slice B1 ws'.length d1) ∧ w'.cell? ⟨w.heap.size + 1, 2, none⟩ = some (.slice B2 raw'.length d2) ∧ w'.cell? ⟨w.heap.size + 1, 3, none⟩ = some (.slice B3 it'.length d3)) (ds := []) #[false, false, false, false, false, false, false, false, false, false, false, false, false, false, false, false, false, false, false, false] (by kernel_rfl) rfl rfl ⟨z0, z1, z2, z3, y0, y1, y2, y3⟩ (fun hHeld => ?_)
  refine take_ (i := 0) (N := some 14) (v := ?_) (a' := ?_) #[true, false, false, false, false, false, false, false, false, false, false, false, false, false, false, false, false, false, false, false] rfl rfl (by kernel_rfl) (fun _ _ _ h => h) (Or.inl ⟨by rfl, ?_⟩) hHeld ?_ ?_
  rotate_left
  · rintro w' ⟨s0, s1, s2, s3, s4, s5, s6, s7⟩
    go_simp
    with_reducible rfl
  rotate_left
  · simp only [Act.put, List.setIfInBounds_toArray, List.set_cons_zero, List.set_cons_succ, i64_w, i32_w]
    rfl
  refine take_ (i := 2) (N := some 16) (v := ?_) (a' := ?_) #[true, false, true, false, false, false, false, false, false, false, false, false, false, false, false, false, false, false, false, false] rfl rfl (by kernel_rfl) (fun _ _ _ h => h) (Or.inl ⟨by rfl, ?_⟩) hHeld ?_ ?_
  rotate_left
  · rintro w' ⟨s0, s1, s2, s3, s4, s5, s6, s7⟩
    go_simp
    with_reducible rfl
  rotate_left
  · simp only [Act.put, List.setIfInBounds_toArray, List.set_cons_zero, List.set_cons_succ, i64_w, i32_w]
    rfl
  refine take_ (i := 5) (N := some 19) (v := ?_) (a' := ?_) #[true, false, true, false, false, true, false, false, false, false, false, false, false, false, false, false, false, false, false, false] rfl rfl (by kernel_rfl) (fun _ _ _ h => h) (Or.inl ⟨by rfl, ?_⟩) hHeld ?_ ?_
  rotate_left
  · rintro w' ⟨s0, s1, s2, s3, s4, s5, s6, s7⟩
    go_simp
    with_reducible rfl
  rotate_left
  · simp only [Act.put, List.setIfInBounds_toArray, List.set_cons_zero, List.set_cons_succ, i64_w, i32_w]
    rfl
  refine take_ (i := 6) (N := some 20) (v := ?_) (a' := ?_) #[true, false, true, false, false, true, true, false, false, false, false, false, false, false, false, false, false, false, false, false] rfl rfl (by kernel_rfl) (fun _ _ _ h => h) (Or.inl ⟨by rfl, ?_⟩) hHeld ?_ ?_
  rotate_left
  · rintro w' ⟨s0, s1, s2, s3, s4, s5, s6, s7⟩
    go_simp
    with_reducible rfl
  rotate_left
  · simp only [Act.put, List.setIfInBounds_toArray, List.set_cons_zero, List.set_cons_succ, i64_w, i32_w]
    rfl
  refine one_ (i := 1) (N := some 15) #[true, true, true, false, false, true, true, false, false, false, false, false, false, false, false, false, false, false, false, false] rfl rfl (by kernel_rfl) (by decide) (fun K hK => ?_)
  refine goes_ Try.func34 (by kernel_rfl) rfl #[.agg #[.int .i64 k, .slice A1 ws.length c1, .slice A2 raw.length c2, .slice A3 it.length c3]] (by rfl) rfl rfl (by (try simp only [List.map_toArray, List.map_cons, List.map_nil]); first | done | rfl) ?_
  with_reducible refine (obj_to_calls k A1 A2 A3 ws.length raw.length it.length c1 c2 c3 _).mono ?_
  rintro e u3 ⟨rfl, hb3⟩
  refine ⟨_, rfl, ?_⟩
  refine hK.out _ _ ⟨(pw_cell_below hb3 hHeld.1), (pw_cell_below hb3 hHeld.2.1), (pw_cell_below hb3 hHeld.2.2.1), (pw_cell_below hb3 hHeld.2.2.2.1), (pw_cell_below hb3 hHeld.2.2.2.2.1), (pw_cell_below hb3 hHeld.2.2.2.2.2.1), (pw_cell_below hb3 hHeld.2.2.2.2.2.2.1), (pw_cell_below hb3 hHeld.2.2.2.2.2.2.2)⟩ (fun hHeld => ?_)
  clear hK K
  refine norm_ (a' := ?_) ?_ ?_
  rotate_left
  · show Act.put _ (some 15) _ = _
    simp only [Act.put, List.setIfInBounds_toArray, List.set_cons_zero, List.set_cons_succ, i64_w, i32_w]
    rfl
  refine one_ (i := 3) (N := some 17) #[true, true, true, true, false, true, true, false, false, false, false, false, false, false, false, false, false, false, false, false] rfl rfl (by kernel_rfl) (by decide) (fun K hK => ?_)
  refine goes_ Try.func34 (by kernel_rfl) rfl #[.agg #[.int .i64 k', .slice B1 ws'.length d1, .slice B2 raw'.length d2, .slice B3 it'.length d3]] (by rfl) rfl rfl (by (try simp only [List.map_toArray, List.map_cons, List.map_nil]); first | done | rfl) ?_
  with_reducible refine (obj_to_calls k' B1 B2 B3 ws'.length raw'.length it'.length d1 d2 d3 _).mono ?_
  rintro e u4 ⟨rfl, hb4⟩
  refine ⟨_, rfl, ?_⟩
  refine hK.out _ _ ⟨(pw_cell_below hb4 hHeld.1), (pw_cell_below hb4 hHeld.2.1), (pw_cell_below hb4 hHeld.2.2.1), (pw_cell_below hb4 hHeld.2.2.2.1), (pw_cell_below hb4 hHeld.2.2.2.2.1), (pw_cell_below hb4 hHeld.2.2.2.2.2.1), (pw_cell_below hb4 hHeld.2.2.2.2.2.2.1), (pw_cell_below hb4 hHeld.2.2.2.2.2.2.2)⟩ (fun hHeld => ?_)
  clear hK K
  refine norm_ (a' := ?_) ?_ ?_
  rotate_left
  · show Act.put _ (some 17) _ = _
    simp only [Act.put, List.setIfInBounds_toArray, List.set_cons_zero, List.set_cons_succ, i64_w, i32_w]
    rfl
  refine one_ (i := 4) (N := some 18) #[true, true, true, true, true, true, true, false, false, false, false, false, false, false, false, false, false, false, false, false] rfl rfl (by kernel_rfl) (by decide) (fun K hK => ?_)
  refine goes_ Try.func44 (by kernel_rfl) rfl #[.agg #[.int .i64 k, .slice A1 ws.length c1, .slice A2 raw.length c2, .slice A3 it.length c3], .agg #[.int .i64 k', .slice B1 ws'.length d1, .slice B2 raw'.length d2, .slice B3 it'.length d3]] (by rfl) rfl rfl (by (try simp only [List.map_toArray, List.map_cons, List.map_nil]); first | done | rfl) ?_
  with_reducible refine (obj_Same_calls k k' ws raw it ws' raw' it' A1 A2 A3 B1 B2 B3 c1 c2 c3 d1 d2 d3 _ (HR1.out.below (below_step (below_step (below_drew HB2.out) hb3) hb4)) (HR2.out.below (below_step (below_step (below_drew HB2.out) hb3) hb4)) (HR3.out.below (below_step (below_step (below_drew HB2.out) hb3) hb4)) (HR4.out.below (below_step (below_step (below_drew HB2.out) hb3) hb4)) (HR5.out.below (below_step (below_step (below_drew HB2.out) hb3) hb4)) (HR6.out.below (below_step (below_step (below_drew HB2.out) hb3) hb4)) W2.out W5.out).mono ?_
  rintro e u5 ⟨rfl, hb5⟩
  refine ⟨_, rfl, ?_⟩
  rw [HS.out]
  refine hK.out _ _ ⟨(pw_cell_below hb5 hHeld.1), (pw_cell_below hb5 hHeld.2.1), (pw_cell_below hb5 hHeld.2.2.1), (pw_cell_below hb5 hHeld.2.2.2.1), (pw_cell_below hb5 hHeld.2.2.2.2.1), (pw_cell_below hb5 hHeld.2.2.2.2.2.1), (pw_cell_below hb5 hHeld.2.2.2.2.2.2.1), (pw_cell_below hb5 hHeld.2.2.2.2.2.2.2)⟩ (fun hHeld => ?_)
  clear hK K
  refine norm_ (a' := ?_) ?_ ?_
  rotate_left
  · show Act.put _ (some 18) _ = _
    simp only [Act.put, List.setIfInBounds_toArray, List.set_cons_zero, List.set_cons_succ, i64_w, i32_w]
    rfl
  refine one_ (i := 7) (N := some 21) #[true, true, true, true, true, true, true, true, false, false, false, false, false, false, false, false, false, false, false, false] rfl rfl (by kernel_rfl) (by decide) (fun K hK => ?_)
  refine goes_ Try.func45 (by kernel_rfl) rfl #[.agg #[.int .i64 k, .slice A1 ws.length c1, .slice A2 raw.length c2, .slice A3 it.length c3], .agg #[.int .i64 k', .slice B1 ws'.length d1, .slice B2 raw'.length d2, .slice B3 it'.length d3]] (by rfl) rfl rfl (by (try simp only [List.map_toArray, List.map_cons, List.map_nil]); first | done | rfl) ?_
  with_reducible refine (ref_oSame_calls k k' ws raw it ws' raw' it' A1 A2 A3 B1 B2 B3 c1 c2 c3 d1 d2 d3 _ (HR1.out.below (below_step (below_step (below_step (below_drew HB2.out) hb3) hb4) hb5)) (HR2.out.below (below_step (below_step (below_step (below_drew HB2.out) hb3) hb4) hb5)) (HR3.out.below (below_step (below_step (below_step (below_drew HB2.out) hb3) hb4) hb5)) (HR4.out.below (below_step (below_step (below_step (below_drew HB2.out) hb3) hb4) hb5)) (HR5.out.below (below_step (below_step (below_step (below_drew HB2.out) hb3) hb4) hb5)) (HR6.out.below (below_step (below_step (below_step (below_drew HB2.out) hb3) hb4) hb5)) W2.out W5.out).mono ?_
  rintro e u6 ⟨rfl, hb6⟩
  refine ⟨_, rfl, ?_⟩
  rw [HS.out]
  refine hK.out _ _ ⟨(pw_cell_below hb6 hHeld.1), (pw_cell_below hb6 hHeld.2.1), (pw_cell_below hb6 hHeld.2.2.1), (pw_cell_below hb6 hHeld.2.2.2.1), (pw_cell_below hb6 hHeld.2.2.2.2.1), (pw_cell_below hb6 hHeld.2.2.2.2.2.1), (pw_cell_below hb6 hHeld.2.2.2.2.2.2.1), (pw_cell_below hb6 hHeld.2.2.2.2.2.2.2)⟩ (fun hHeld => ?_)
  clear hK K
  refine norm_ (a' := ?_) ?_ ?_
  rotate_left
  · show Act.put _ (some 21) _ = _
    simp only [Act.put, List.setIfInBounds_toArray, List.set_cons_zero, List.set_cons_succ, i64_w, i32_w]
    rfl
  refine pure_ (i := 8) (N := some 22) (v := ?_) (a' := ?_) #[true, true, true, true, true, true, true, true, true, false, false, false, false, false, false, false, false, false, false, false] rfl rfl (by kernel_rfl) (fun _ _ _ h => h) (Or.inl ⟨by rfl, ?_⟩) ?_ ?_
  rotate_left
  · intro w'
    go_simp
    with_reducible rfl
  rotate_left
  · simp only [Act.put, List.setIfInBounds_toArray, List.set_cons_zero, List.set_cons_succ, i64_w, i32_w]
    rfl
  refine pure_ (i := 9) (N := some 23) (v := ?_) (a' := ?_) #[true, true, true, true, true, true, true, true, true, true, false, false, false, false, false, false, false, false, false, false] rfl rfl (by kernel_rfl) (fun _ _ _ h => h) (Or.inl ⟨by rfl, ?_⟩) ?_ ?_
  rotate_left
  · intro w'
    go_simp
    with_reducible rfl
  rotate_left
  · simp only [Act.put, List.setIfInBounds_toArray, List.set_cons_zero, List.set_cons_succ, i64_w, i32_w]
    rfl
  refine take_ (i := 10) (N := some 24) (v := ?_) (a' := ?_) #[true, true, true, true, true, true, true, true, true, true, true, false, false, false, false, false, false, false, false, false] rfl rfl (by kernel_rfl) (fun _ _ _ h => h) (Or.inl ⟨by rfl, ?_⟩) hHeld ?_ ?_
  rotate_left
  · rintro w' ⟨s0, s1, s2, s3, s4, s5, s6, s7⟩
    go_simp
    with_reducible rfl
  rotate_left
  · simp only [Act.put, List.setIfInBounds_toArray, List.set_cons_zero, List.set_cons_succ, i64_w, i32_w]
    rfl
  refine take_ (i := 12) (N := some 26) (v := ?_) (a' := ?_) #[true, true, true, true, true, true, true, true, true, true, true, false, true, false, false, false, false, false, false, false] rfl rfl (by kernel_rfl) (fun _ _ _ h => h) (Or.inl ⟨by rfl, ?_⟩) hHeld ?_ ?_
  rotate_left
  · rintro w' ⟨s0, s1, s2, s3, s4, s5, s6, s7⟩
    go_simp
    with_reducible rfl
  rotate_left
  · simp only [Act.put, List.setIfInBounds_toArray, List.set_cons_zero, List.set_cons_succ, i64_w, i32_w]
    rfl
  refine one_ (i := 11) (N := some 25) #[true, true, true, true, true, true, true, true, true, true, true, true, true, false, false, false, false, false, false, false] rfl rfl (by kernel_rfl) (by decide) (fun K hK => ?_)
  refine goes_ Try.func34 (by kernel_rfl) rfl #[.agg #[.int .i64 k, .slice A1 ws.length c1, .slice A2 raw.length c2, .slice A3 it.length c3]] (by rfl) rfl rfl (by (try simp only [List.map_toArray, List.map_cons, List.map_nil]); first | done | rfl) ?_
  with_reducible refine (obj_to_calls k A1 A2 A3 ws.length raw.length it.length c1 c2 c3 _).mono ?_
  rintro e u7 ⟨rfl, hb7⟩
  refine ⟨_, rfl, ?_⟩
  refine hK.out _ _ ⟨(pw_cell_below hb7 hHeld.1), (pw_cell_below hb7 hHeld.2.1), (pw_cell_below hb7 hHeld.2.2.1), (pw_cell_below hb7 hHeld.2.2.2.1), (pw_cell_below hb7 hHeld.2.2.2.2.1), (pw_cell_below hb7 hHeld.2.2.2.2.2.1), (pw_cell_below hb7 hHeld.2.2.2.2.2.2.1), (pw_cell_below hb7 hHeld.2.2.2.2.2.2.2)⟩ (fun hHeld => ?_)
  clear hK K
  refine norm_ (a' := ?_) ?_ ?_
  rotate_left
  · show Act.put _ (some 25) _ = _
    simp only [Act.put, List.setIfInBounds_toArray, List.set_cons_zero, List.set_cons_succ, i64_w, i32_w]
    rfl
  refine one_ (i := 13) (N := some 27) #[true, true, true, true, true, true, true, true, true, true, true, true, true, true, false, false, false, false, false, false] rfl rfl (by kernel_rfl) (by decide) (fun K hK => ?_)
  refine goes_ Try.func34 (by kernel_rfl) rfl #[.agg #[.int .i64 k, .slice A1 ws.length c1, .slice A2 raw.length c2, .slice A3 it.length c3]] (by rfl) rfl rfl (by (try simp only [List.map_toArray, List.map_cons, List.map_nil]); first | done | rfl) ?_
  with_reducible refine (obj_to_calls k A1 A2 A3 ws.length raw.length it.length c1 c2 c3 _).mono ?_
  rintro e u8 ⟨rfl, hb8⟩
  refine ⟨_, rfl, ?_⟩
  refine hK.out _ _ ⟨(pw_cell_below hb8 hHeld.1), (pw_cell_below hb8 hHeld.2.1), (pw_cell_below hb8 hHeld.2.2.1), (pw_cell_below hb8 hHeld.2.2.2.1), (pw_cell_below hb8 hHeld.2.2.2.2.1), (pw_cell_below hb8 hHeld.2.2.2.2.2.1), (pw_cell_below hb8 hHeld.2.2.2.2.2.2.1), (pw_cell_below hb8 hHeld.2.2.2.2.2.2.2)⟩ (fun hHeld => ?_)
  clear hK K
  refine norm_ (a' := ?_) ?_ ?_
  rotate_left
  · show Act.put _ (some 27) _ = _
    simp only [Act.put, List.setIfInBounds_toArray, List.set_cons_zero, List.set_cons_succ, i64_w, i32_w]
    rfl
  refine one_ (i := 14) (N := some 28) #[true, true, true, true, true, true, true, true, true, true, true, true, true, true, true, false, false, false, false, false] rfl rfl (by kernel_rfl) (by decide) (fun K hK => ?_)
  refine goes_ Try.func44 (by kernel_rfl) rfl #[.agg #[.int .i64 k, .slice A1 ws.length c1, .slice A2 raw.length c2, .slice A3 it.length c3], .agg #[.int .i64 k, .slice A1 ws.length c1, .slice A2 raw.length c2, .slice A3 it.length c3]] (by rfl) rfl rfl (by (try simp only [List.map_toArray, List.map_cons, List.map_nil]); first | done | rfl) ?_
  with_reducible refine (obj_Same_calls k k ws raw it ws raw it A1 A2 A3 A1 A2 A3 c1 c2 c3 c1 c2 c3 _ (HR1.out.below (below_step (below_step (below_step (below_step (below_step (below_step (below_drew HB2.out) hb3) hb4) hb5) hb6) hb7) hb8)) (HR2.out.below (below_step (below_step (below_step (below_step (below_step (below_step (below_drew HB2.out) hb3) hb4) hb5) hb6) hb7) hb8)) (HR3.out.below (below_step (below_step (below_step (below_step (below_step (below_step (below_drew HB2.out) hb3) hb4) hb5) hb6) hb7) hb8)) (HR1.out.below (below_step (below_step (below_step (below_step (below_step (below_step (below_drew HB2.out) hb3) hb4) hb5) hb6) hb7) hb8)) (HR2.out.below (below_step (below_step (below_step (below_step (below_step (below_step (below_drew HB2.out) hb3) hb4) hb5) hb6) hb7) hb8)) (HR3.out.below (below_step (below_step (below_step (below_step (below_step (below_step (below_drew HB2.out) hb3) hb4) hb5) hb6) hb7) hb8)) W2.out W2.out).mono ?_
  rintro e u9 ⟨rfl, hb9⟩
  refine ⟨_, rfl, ?_⟩
  rw [sameO_yes k rfl rfl rfl]
  refine hK.out _ _ ⟨(pw_cell_below hb9 hHeld.1), (pw_cell_below hb9 hHeld.2.1), (pw_cell_below hb9 hHeld.2.2.1), (pw_cell_below hb9 hHeld.2.2.2.1), (pw_cell_below hb9 hHeld.2.2.2.2.1), (pw_cell_below hb9 hHeld.2.2.2.2.2.1), (pw_cell_below hb9 hHeld.2.2.2.2.2.2.1), (pw_cell_below hb9 hHeld.2.2.2.2.2.2.2)⟩ (fun hHeld => ?_)
  clear hK K
  refine norm_ (a' := ?_) ?_ ?_
  rotate_left
  · show Act.put _ (some 28) _ = _
    simp only [Act.put, List.setIfInBounds_toArray, List.set_cons_zero, List.set_cons_succ, i64_w, i32_w]
    rfl
  refine pure_ (i := 15) (N := some 29) (v := ?_) (a' := ?_) #[true, true, true, true, true, true, true, true, true, true, true, true, true, true, true, true, false, false, false, false] rfl rfl (by kernel_rfl) (fun _ _ _ h => h) (Or.inl ⟨by rfl, ?_⟩) ?_ ?_
  rotate_left
  · intro w'
    go_simp
    with_reducible rfl
  rotate_left
  · simp only [Act.put, List.setIfInBounds_toArray, List.set_cons_zero, List.set_cons_succ, i64_w, i32_w]
    rfl
  refine pure_ (i := 16) (N := some 30) (v := ?_) (a' := ?_) #[true, true, true, true, true, true, true, true, true, true, true, true, true, true, true, true, true, false, false, false] rfl rfl (by kernel_rfl) (fun _ _ _ h => h) (Or.inl ⟨by rfl, ?_⟩) ?_ ?_
  rotate_left
  · intro w'
    go_simp
    with_reducible rfl
  rotate_left
  · simp only [Act.put, List.setIfInBounds_toArray, List.set_cons_zero, List.set_cons_succ, i64_w, i32_w]
    rfl
  refine one_ (i := 17) (N := some 31) #[true, true, true, true, true, true, true, true, true, true, true, true, true, true, true, true, true, true, false, false] rfl rfl (by kernel_rfl) (by decide) (fun K hK => ?_)
  refine goes_ Try.func32 (by kernel_rfl) rfl #[] (by rfl) rfl rfl (by (try simp only [List.map_toArray, List.map_cons, List.map_nil]); first | done | rfl) ?_
  with_reducible refine (obj_awake_calls _).mono ?_
  rintro e u10 ⟨rfl, hb10⟩
  refine ⟨_, rfl, ?_⟩
  refine hK.out _ _ ⟨(pw_cell_below hb10 hHeld.1), (pw_cell_below hb10 hHeld.2.1), (pw_cell_below hb10 hHeld.2.2.1), (pw_cell_below hb10 hHeld.2.2.2.1), (pw_cell_below hb10 hHeld.2.2.2.2.1), (pw_cell_below hb10 hHeld.2.2.2.2.2.1), (pw_cell_below hb10 hHeld.2.2.2.2.2.2.1), (pw_cell_below hb10 hHeld.2.2.2.2.2.2.2)⟩ (fun hHeld => ?_)
  clear hK K
  refine norm_ (a' := ?_) ?_ ?_
  rotate_left
  · show Act.put _ (some 31) _ = _
    simp only [Act.put, List.setIfInBounds_toArray, List.set_cons_zero, List.set_cons_succ, i64_w, i32_w]
    rfl
  refine pure_ (i := 18) (N := some 32) (v := ?_) (a' := ?_) #[true, true, true, true, true, true, true, true, true, true, true, true, true, true, true, true, true, true, true, false] rfl rfl (by kernel_rfl) (fun _ _ _ h => h) (Or.inl ⟨by rfl, ?_⟩) ?_ ?_
  rotate_left
  · intro w'
    go_simp
    with_reducible rfl
  rotate_left
  · simp only [Act.put, List.setIfInBounds_toArray, List.set_cons_zero, List.set_cons_succ, i64_w, i32_w]
    rfl
  refine pure_ (i := 19) (N := some 4) (v := ?_) (a' := ?_) #[true, true, true, true, true, true, true, true, true, true, true, true, true, true, true, true, true, true, true, true] rfl rfl (by kernel_rfl) (fun _ _ _ h => h) (Or.inl ⟨by rfl, ?_⟩) ?_ ?_
  rotate_left
  · intro w'
    go_simp
    with_reducible rfl
  rotate_left
  · simp only [Act.put, List.setIfInBounds_toArray, List.set_cons_zero, List.set_cons_succ, i64_w, i32_w]
    rfl
  refine done_ (by kernel_rfl) ?_
  have HBE := Aside0.mk (below_step (below_step (below_step (below_step (below_step (below_step (below_step (below_step (below_drew HB2.out) hb3) hb4) hb5) hb6) hb7) hb8) hb9) hb10)
  clear hb3 hb4 hb5 hb6 hb7 hb8 hb9 hb10 z0 z1 z2 z3 y0 y1 y2 y3
  go_wp2_with fail
  go_ret
  exact ⟨rfl, HBE.out⟩
set_option maxHeartbeats 8000000 in
set_option maxRecDepth 100000 in
theorem ObjSames_far1 (k k' : Int) (ws raw it ws' raw' it' : List Int) (A1 A2 A3 B1 B2 B3 : Option Addr) (c1 c2 c3 d1 d2 d3 : Nat) (w : World) (h1 : Rd w .u64 (.slice A1 ws.length c1) ws) (h2 : Rd w .u8 (.slice A2 raw.length c2) raw) (h3 : Rd w .u64 (.slice A3 it.length c3) it)
    (h4 : Rd w .u64 (.slice B1 ws'.length d1) ws') (h5 : Rd w .u8 (.slice B2 raw'.length d2) raw') (h6 : Rd w .u64 (.slice B3 it'.length d3) it') (w2 : isB raw) (w5 : isB raw') (l1 : lightB ws.length raw.length it.length = false) :
    Calls Try.prog 7 #[.agg #[.int .i64 k, .slice A1 ws.length c1, .slice A2 raw.length c2, .slice A3 it.length c3], .agg #[.int .i64 k', .slice B1 ws'.length d1, .slice B2 raw'.length d2, .slice B3 it'.length d3]] w fun e w' => e = .returned (.bool true) ∧ Below w.heap.size w w' := by
  have HL1 := Aside0.mk l1
  have HX0 := Aside0.mk (blk_below (blk_new w (.cells #[.int .i64 k, .slice A1 ws.length c1, .slice A2 raw.length c2, .slice A3 it.length c3] 49)) (below_alloc (Below.refl _ _) (.cells #[.int .i64 k', .slice B1 ws'.length d1, .slice B2 raw'.length d2, .slice B3 it'.length d3] 49)))
  have HX1 := Aside0.mk (blk_new (w.alloc (.cells #[.int .i64 k, .slice A1 ws.length c1, .slice A2 raw.length c2, .slice A3 it.length c3] 49)) (.cells #[.int .i64 k', .slice B1 ws'.length d1, .slice B2 raw'.length d2, .slice B3 it'.length d3] 49))
  rw [show (w.alloc (.cells #[.int .i64 k, .slice A1 ws.length c1, .slice A2 raw.length c2, .slice A3 it.length c3] 49)).heap.size = w.heap.size + 1 from Array.size_push _] at HX1
  have HB0 := Aside0.mk (below_alloc (below_alloc (Below.refl w.heap.size w) (.cells #[.int .i64 k, .slice A1 ws.length c1, .slice A2 raw.length c2, .slice A3 it.length c3] 49)) (.cells #[.int .i64 k', .slice B1 ws'.length d1, .slice B2 raw'.length d2, .slice B3 it'.length d3] 49))
  clear h1 h2 h3 h4 h5 h6 w2 w5 l1
  have z0 : ((w.alloc (.cells #[.int .i64 k, .slice A1 ws.length c1, .slice A2 raw.length c2, .slice A3 it.length c3] 49)).alloc (.cells #[.int .i64 k', .slice B1 ws'.length d1, .slice B2 raw'.length d2, .slice B3 it'.length d3] 49)).cell? ⟨w.heap.size, 0, none⟩ = some (.int .i64 k) := blk_cell HX0.out 0
  have z1 : ((w.alloc (.cells #[.int .i64 k, .slice A1 ws.length c1, .slice A2 raw.length c2, .slice A3 it.length c3] 49)).alloc (.cells #[.int .i64 k', .slice B1 ws'.length d1, .slice B2 raw'.length d2, .slice B3 it'.length d3] 49)).cell? ⟨w.heap.size, 1, none⟩ = some (.slice A1 ws.length c1) := blk_cell HX0.out 1
  have z2 : ((w.alloc (.cells #[.int .i64 k, .slice A1 ws.length c1, .slice A2 raw.length c2, .slice A3 it.length c3] 49)).alloc (.cells #[.int .i64 k', .slice B1 ws'.length d1, .slice B2 raw'.length d2, .slice B3 it'.length d3] 49)).cell? ⟨w.heap.size, 2, none⟩ = some (.slice A2 raw.length c2) := blk_cell HX0.out 2
  have z3 : ((w.alloc (.cells #[.int .i64 k, .slice A1 ws.length c1, .slice A2 raw.length c2, .slice A3 it.length c3] 49)).alloc (.cells #[.int .i64 k', .slice B1 ws'.length d1, .slice B2 raw'.length d2, .slice B3 it'.length d3] 49)).cell? ⟨w.heap.size, 3, none⟩ = some (.slice A3 it.length c3) := blk_cell HX0.out 3
  have y0 : ((w.alloc (.cells #[.int .i64 k, .slice A1 ws.length c1, .slice A2 raw.length c2, .slice A3 it.length c3] 49)).alloc (.cells #[.int .i64 k', .slice B1 ws'.length d1, .slice B2 raw'.length d2, .slice B3 it'.length d3] 49)).cell? ⟨w.heap.size + 1, 0, none⟩ = some (.int .i64 k') := blk_cell HX1.out 0
  have y1 : ((w.alloc (.cells #[.int .i64 k, .slice A1 ws.length c1, .slice A2 raw.length c2, .slice A3 it.length c3] 49)).alloc (.cells #[.int .i64 k', .slice B1 ws'.length d1, .slice B2 raw'.length d2, .slice B3 it'.length d3] 49)).cell? ⟨w.heap.size + 1, 1, none⟩ = some (.slice B1 ws'.length d1) := blk_cell HX1.out 1
  have y2 : ((w.alloc (.cells #[.int .i64 k, .slice A1 ws.length c1, .slice A2 raw.length c2, .slice A3 it.length c3] 49)).alloc (.cells #[.int .i64 k', .slice B1 ws'.length d1, .slice B2 raw'.length d2, .slice B3 it'.length d3] 49)).cell? ⟨w.heap.size + 1, 2, none⟩ = some (.slice B2 raw'.length d2) := blk_cell HX1.out 2
  have y3 : ((w.alloc (.cells #[.int .i64 k, .slice A1 ws.length c1, .slice A2 raw.length c2, .slice A3 it.length c3] 49)).alloc (.cells #[.int .i64 k', .slice B1 ws'.length d1, .slice B2 raw'.length d2, .slice B3 it'.length d3] 49)).cell? ⟨w.heap.size + 1, 3, none⟩ = some (.slice B3 it'.length d3) := blk_cell HX1.out 3
  go_enter Try.func7, Try.ntmps7
  go_wp2_with fail
  refine (light_calls k A1 A2 A3 ws.length raw.length it.length c1 c2 c3 _).mono ?_
  rintro e w1 ⟨rfl, hb⟩
  have HB1 := Aside0.mk (below_step HB0.out hb)
  have HX01 := Aside0.mk (blk_below HX0.out hb)
  have HX11 := Aside0.mk (blk_below HX1.out hb)
  clear hb z0 z1 z2 z3 y0 y1 y2 y3
  rw [HL1.out]
  have z0 : (w1).cell? ⟨w.heap.size, 0, none⟩ = some (.int .i64 k) := blk_cell HX01.out 0
  have z1 : (w1).cell? ⟨w.heap.size, 1, none⟩ = some (.slice A1 ws.length c1) := blk_cell HX01.out 1
  have z2 : (w1).cell? ⟨w.heap.size, 2, none⟩ = some (.slice A2 raw.length c2) := blk_cell HX01.out 2
  have z3 : (w1).cell? ⟨w.heap.size, 3, none⟩ = some (.slice A3 it.length c3) := blk_cell HX01.out 3
  have y0 : (w1).cell? ⟨w.heap.size + 1, 0, none⟩ = some (.int .i64 k') := blk_cell HX11.out 0
  have y1 : (w1).cell? ⟨w.heap.size + 1, 1, none⟩ = some (.slice B1 ws'.length d1) := blk_cell HX11.out 1
  have y2 : (w1).cell? ⟨w.heap.size + 1, 2, none⟩ = some (.slice B2 raw'.length d2) := blk_cell HX11.out 2
  have y3 : (w1).cell? ⟨w.heap.size + 1, 3, none⟩ = some (.slice B3 it'.length d3) := blk_cell HX11.out 3
  go_wp2_with fail
  refine (obj_awake_calls _).mono ?_
  rintro e w2 ⟨rfl, hb⟩
  have HB2 := Aside0.mk (below_step HB1.out hb)
  have HX02 := Aside0.mk (blk_below HX01.out hb)
  have HX12 := Aside0.mk (blk_below HX11.out hb)
  clear hb z0 z1 z2 z3 y0 y1 y2 y3
  have z0 : (w2).cell? ⟨w.heap.size, 0, none⟩ = some (.int .i64 k) := blk_cell HX02.out 0
  have z1 : (w2).cell? ⟨w.heap.size, 1, none⟩ = some (.slice A1 ws.length c1) := blk_cell HX02.out 1
  have z2 : (w2).cell? ⟨w.heap.size, 2, none⟩ = some (.slice A2 raw.length c2) := blk_cell HX02.out 2
  have z3 : (w2).cell? ⟨w.heap.size, 3, none⟩ = some (.slice A3 it.length c3) := blk_cell HX02.out 3
  have y0 : (w2).cell? ⟨w.heap.size + 1, 0, none⟩ = some (.int .i64 k') := blk_cell HX12.out 0
  have y1 : (w2).cell? ⟨w.heap.size + 1, 1, none⟩ = some (.slice B1 ws'.length d1) := blk_cell HX12.out 1
  have y2 : (w2).cell? ⟨w.heap.size + 1, 2, none⟩ = some (.slice B2 raw'.length d2) := blk_cell HX12.out 2
  have y3 : (w2).cell? ⟨w.heap.size + 1, 3, none⟩ = some (.slice B3 it'.length d3) := blk_cell HX12.out 3
  go_wp2_with fail
  go_ret
  exact ⟨rfl, HB2.out⟩
set_option maxHeartbeats 8000000 in
set_option maxRecDepth 100000 in
theorem ObjSames_far2 (k k' : Int) (ws raw it ws' raw' it' : List Int) (A1 A2 A3 B1 B2 B3 : Option Addr) (c1 c2 c3 d1 d2 d3 : Nat) (w : World) (h1 : Rd w .u64 (.slice A1 ws.length c1) ws) (h2 : Rd w .u8 (.slice A2 raw.length c2) raw) (h3 : Rd w .u64 (.slice A3 it.length c3) it)
    (h4 : Rd w .u64 (.slice B1 ws'.length d1) ws') (h5 : Rd w .u8 (.slice B2 raw'.length d2) raw') (h6 : Rd w .u64 (.slice B3 it'.length d3) it') (w2 : isB raw) (w5 : isB raw') (l1 : lightB ws.length raw.length it.length = true) (l2 : lightB ws'.length raw'.length it'.length = false) :
    Calls Try.prog 7 #[.agg #[.int .i64 k, .slice A1 ws.length c1, .slice A2 raw.length c2, .slice A3 it.length c3], .agg #[.int .i64 k', .slice B1 ws'.length d1, .slice B2 raw'.length d2, .slice B3 it'.length d3]] w fun e w' => e = .returned (.bool true) ∧ Below w.heap.size w w' := by
  have HL1 := Aside0.mk l1
  have HL2 := Aside0.mk l2
  have HX0 := Aside0.mk (blk_below (blk_new w (.cells #[.int .i64 k, .slice A1 ws.length c1, .slice A2 raw.length c2, .slice A3 it.length c3] 49)) (below_alloc (Below.refl _ _) (.cells #[.int .i64 k', .slice B1 ws'.length d1, .slice B2 raw'.length d2, .slice B3 it'.length d3] 49)))
  have HX1 := Aside0.mk (blk_new (w.alloc (.cells #[.int .i64 k, .slice A1 ws.length c1, .slice A2 raw.length c2, .slice A3 it.length c3] 49)) (.cells #[.int .i64 k', .slice B1 ws'.length d1, .slice B2 raw'.length d2, .slice B3 it'.length d3] 49))
  rw [show (w.alloc (.cells #[.int .i64 k, .slice A1 ws.length c1, .slice A2 raw.length c2, .slice A3 it.length c3] 49)).heap.size = w.heap.size + 1 from Array.size_push _] at HX1
  have HB0 := Aside0.mk (below_alloc (below_alloc (Below.refl w.heap.size w) (.cells #[.int .i64 k, .slice A1 ws.length c1, .slice A2 raw.length c2, .slice A3 it.length c3] 49)) (.cells #[.int .i64 k', .slice B1 ws'.length d1, .slice B2 raw'.length d2, .slice B3 it'.length d3] 49))
  clear h1 h2 h3 h4 h5 h6 w2 w5 l1 l2
  have z0 : ((w.alloc (.cells #[.int .i64 k, .slice A1 ws.length c1, .slice A2 raw.length c2, .slice A3 it.length c3] 49)).alloc (.cells #[.int .i64 k', .slice B1 ws'.length d1, .slice B2 raw'.length d2, .slice B3 it'.length d3] 49)).cell? ⟨w.heap.size, 0, none⟩ = some (.int .i64 k) := blk_cell HX0.out 0
  have z1 : ((w.alloc (.cells #[.int .i64 k, .slice A1 ws.length c1, .slice A2 raw.length c2, .slice A3 it.length c3] 49)).alloc (.cells #[.int .i64 k', .slice B1 ws'.length d1, .slice B2 raw'.length d2, .slice B3 it'.length d3] 49)).cell? ⟨w.heap.size, 1, none⟩ = some (.slice A1 ws.length c1) := blk_cell HX0.out 1
  have z2 : ((w.alloc (.cells #[.int .i64 k, .slice A1 ws.length c1, .slice A2 raw.length c2, .slice A3 it.length c3] 49)).alloc (.cells #[.int .i64 k', .slice B1 ws'.length d1, .slice B2 raw'.length d2, .slice B3 it'.length d3] 49)).cell? ⟨w.heap.size, 2, none⟩ = some (.slice A2 raw.length c2) := blk_cell HX0.out 2
  have z3 : ((w.alloc (.cells #[.int .i64 k, .slice A1 ws.length c1, .slice A2 raw.length c2, .slice A3 it.length c3] 49)).alloc (.cells #[.int .i64 k', .slice B1 ws'.length d1, .slice B2 raw'.length d2, .slice B3 it'.length d3] 49)).cell? ⟨w.heap.size, 3, none⟩ = some (.slice A3 it.length c3) := blk_cell HX0.out 3
  have y0 : ((w.alloc (.cells #[.int .i64 k, .slice A1 ws.length c1, .slice A2 raw.length c2, .slice A3 it.length c3] 49)).alloc (.cells #[.int .i64 k', .slice B1 ws'.length d1, .slice B2 raw'.length d2, .slice B3 it'.length d3] 49)).cell? ⟨w.heap.size + 1, 0, none⟩ = some (.int .i64 k') := blk_cell HX1.out 0
  have y1 : ((w.alloc (.cells #[.int .i64 k, .slice A1 ws.length c1, .slice A2 raw.length c2, .slice A3 it.length c3] 49)).alloc (.cells #[.int .i64 k', .slice B1 ws'.length d1, .slice B2 raw'.length d2, .slice B3 it'.length d3] 49)).cell? ⟨w.heap.size + 1, 1, none⟩ = some (.slice B1 ws'.length d1) := blk_cell HX1.out 1
  have y2 : ((w.alloc (.cells #[.int .i64 k, .slice A1 ws.length c1, .slice A2 raw.length c2, .slice A3 it.length c3] 49)).alloc (.cells #[.int .i64 k', .slice B1 ws'.length d1, .slice B2 raw'.length d2, .slice B3 it'.length d3] 49)).cell? ⟨w.heap.size + 1, 2, none⟩ = some (.slice B2 raw'.length d2) := blk_cell HX1.out 2
  have y3 : ((w.alloc (.cells #[.int .i64 k, .slice A1 ws.length c1, .slice A2 raw.length c2, .slice A3 it.length c3] 49)).alloc (.cells #[.int .i64 k', .slice B1 ws'.length d1, .slice B2 raw'.length d2, .slice B3 it'.length d3] 49)).cell? ⟨w.heap.size + 1, 3, none⟩ = some (.slice B3 it'.length d3) := blk_cell HX1.out 3
  go_enter Try.func7, Try.ntmps7
  go_wp2_with fail
  refine (light_calls k A1 A2 A3 ws.length raw.length it.length c1 c2 c3 _).mono ?_
  rintro e w1 ⟨rfl, hb⟩
  have HB1 := Aside0.mk (below_step HB0.out hb)
  have HX01 := Aside0.mk (blk_below HX0.out hb)
  have HX11 := Aside0.mk (blk_below HX1.out hb)
  clear hb z0 z1 z2 z3 y0 y1 y2 y3
  rw [HL1.out]
  have z0 : (w1).cell? ⟨w.heap.size, 0, none⟩ = some (.int .i64 k) := blk_cell HX01.out 0
  have z1 : (w1).cell? ⟨w.heap.size, 1, none⟩ = some (.slice A1 ws.length c1) := blk_cell HX01.out 1
  have z2 : (w1).cell? ⟨w.heap.size, 2, none⟩ = some (.slice A2 raw.length c2) := blk_cell HX01.out 2
  have z3 : (w1).cell? ⟨w.heap.size, 3, none⟩ = some (.slice A3 it.length c3) := blk_cell HX01.out 3
  have y0 : (w1).cell? ⟨w.heap.size + 1, 0, none⟩ = some (.int .i64 k') := blk_cell HX11.out 0
  have y1 : (w1).cell? ⟨w.heap.size + 1, 1, none⟩ = some (.slice B1 ws'.length d1) := blk_cell HX11.out 1
  have y2 : (w1).cell? ⟨w.heap.size + 1, 2, none⟩ = some (.slice B2 raw'.length d2) := blk_cell HX11.out 2
  have y3 : (w1).cell? ⟨w.heap.size + 1, 3, none⟩ = some (.slice B3 it'.length d3) := blk_cell HX11.out 3
  go_wp2_with fail
  refine (light_calls k' B1 B2 B3 ws'.length raw'.length it'.length d1 d2 d3 _).mono ?_
  rintro e w2 ⟨rfl, hb⟩
  have HB2 := Aside0.mk (below_step HB1.out hb)
  have HX02 := Aside0.mk (blk_below HX01.out hb)
  have HX12 := Aside0.mk (blk_below HX11.out hb)
  clear hb z0 z1 z2 z3 y0 y1 y2 y3
  rw [HL2.out]
  have z0 : (w2).cell? ⟨w.heap.size, 0, none⟩ = some (.int .i64 k) := blk_cell HX02.out 0
  have z1 : (w2).cell? ⟨w.heap.size, 1, none⟩ = some (.slice A1 ws.length c1) := blk_cell HX02.out 1
  have z2 : (w2).cell? ⟨w.heap.size, 2, none⟩ = some (.slice A2 raw.length c2) := blk_cell HX02.out 2
  have z3 : (w2).cell? ⟨w.heap.size, 3, none⟩ = some (.slice A3 it.length c3) := blk_cell HX02.out 3
  have y0 : (w2).cell? ⟨w.heap.size + 1, 0, none⟩ = some (.int .i64 k') := blk_cell HX12.out 0
  have y1 : (w2).cell? ⟨w.heap.size + 1, 1, none⟩ = some (.slice B1 ws'.length d1) := blk_cell HX12.out 1
  have y2 : (w2).cell? ⟨w.heap.size + 1, 2, none⟩ = some (.slice B2 raw'.length d2) := blk_cell HX12.out 2
  have y3 : (w2).cell? ⟨w.heap.size + 1, 3, none⟩ = some (.slice B3 it'.length d3) := blk_cell HX12.out 3
  go_wp2_with fail
  refine (obj_awake_calls _).mono ?_
  rintro e w3 ⟨rfl, hb⟩
  have HB3 := Aside0.mk (below_step HB2.out hb)
  have HX03 := Aside0.mk (blk_below HX02.out hb)
  have HX13 := Aside0.mk (blk_below HX12.out hb)
  clear hb z0 z1 z2 z3 y0 y1 y2 y3
  have z0 : (w3).cell? ⟨w.heap.size, 0, none⟩ = some (.int .i64 k) := blk_cell HX03.out 0
  have z1 : (w3).cell? ⟨w.heap.size, 1, none⟩ = some (.slice A1 ws.length c1) := blk_cell HX03.out 1
  have z2 : (w3).cell? ⟨w.heap.size, 2, none⟩ = some (.slice A2 raw.length c2) := blk_cell HX03.out 2
  have z3 : (w3).cell? ⟨w.heap.size, 3, none⟩ = some (.slice A3 it.length c3) := blk_cell HX03.out 3
  have y0 : (w3).cell? ⟨w.heap.size + 1, 0, none⟩ = some (.int .i64 k') := blk_cell HX13.out 0
  have y1 : (w3).cell? ⟨w.heap.size + 1, 1, none⟩ = some (.slice B1 ws'.length d1) := blk_cell HX13.out 1
  have y2 : (w3).cell? ⟨w.heap.size + 1, 2, none⟩ = some (.slice B2 raw'.length d2) := blk_cell HX13.out 2
  have y3 : (w3).cell? ⟨w.heap.size + 1, 3, none⟩ = some (.slice B3 it'.length d3) := blk_cell HX13.out 3
  go_wp2_with fail
  go_ret
  exact ⟨rfl, HB3.out⟩

theorem ObjSames_walk (k : Int) (A1 A2 A3 : Option Addr) (ws raw it : List Int) (c1 c2 c3 : Nat) (k' : Int) (B1 B2 B3 : Option Addr) (ws' raw' it' : List Int) (d1 d2 d3 : Nat) (w : World) (h1 : Rd w .u64 (.slice A1 ws.length c1) ws) (h2 : Rd w .u8 (.slice A2 raw.length c2) raw) (h3 : Rd w .u64 (.slice A3 it.length c3) it) (w1 : ∀ n ∈ ws, (Lit.int .u64 n).wf = true) (w2 : ∀ n ∈ raw, (Lit.int .u8 n).wf = true) (w3 : ∀ n ∈ it, (Lit.int .u64 n).wf = true)
    (h4 : Rd w .u64 (.slice B1 ws'.length d1) ws') (h5 : Rd w .u8 (.slice B2 raw'.length d2) raw') (h6 : Rd w .u64 (.slice B3 it'.length d3) it') (w4 : ∀ n ∈ ws', (Lit.int .u64 n).wf = true) (w5 : ∀ n ∈ raw', (Lit.int .u8 n).wf = true) (w6 : ∀ n ∈ it', (Lit.int .u64 n).wf = true) :
    Calls Try.prog 7 #[.agg #[.int .i64 k, .slice A1 ws.length c1, .slice A2 raw.length c2, .slice A3 it.length c3], .agg #[.int .i64 k', .slice B1 ws'.length d1, .slice B2 raw'.length d2, .slice B3 it'.length d3]] w fun e w' => e = .returned (.bool true) ∧ Below w.heap.size w w' := by
  have W2 := wf_isB8 w2
  have W5 := wf_isB8 w5
  cases l1 : lightB ws.length raw.length it.length
  · exact ObjSames_far1 k k' ws raw it ws' raw' it' A1 A2 A3 B1 B2 B3 c1 c2 c3 d1 d2 d3 w h1 h2 h3 h4 h5 h6 W2 W5 l1
  · cases l2 : lightB ws'.length raw'.length it'.length
    · exact ObjSames_far2 k k' ws raw it ws' raw' it' A1 A2 A3 B1 B2 B3 c1 c2 c3 d1 d2 d3 w h1 h2 h3 h4 h5 h6 W2 W5 l1 l2
    · cases hs : sameO k k' ws raw it ws' raw' it'
      · exact ObjSames_false k k' ws raw it ws' raw' it' A1 A2 A3 B1 B2 B3 c1 c2 c3 d1 d2 d3 w h1 h2 h3 h4 h5 h6 W2 W5 l1 l2 hs
      · exact ObjSames_true k k' ws raw it ws' raw' it' A1 A2 A3 B1 B2 B3 c1 c2 c3 d1 d2 d3 w h1 h2 h3 h4 h5 h6 W2 W5 l1 l2 hs
end Go.Proofs.Ytdleajnecohacaa
