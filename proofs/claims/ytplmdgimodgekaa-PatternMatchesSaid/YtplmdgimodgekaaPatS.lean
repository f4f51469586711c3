/- Patterns: the document's sets. -/
import Derived.Test.YtplmdgimodgekaaPatR
import Derived.Test.YtplmdgimodgekaaMid
import Derived.Test.YtplmdgimodgekaaFill
namespace Go.Proofs.Ytplmdgimodgekaa
open Go.RowKit Go.Proofs.YtplmdgimodgekaaW.PrintWords Go.Proofs.YtplmdgimodgekaaW.PrintLast Go.Proofs.YtplmdgimodgekaaW.PrintMore
attribute [local go_sem] max2_int min2_int max_two min_two max_three min_three max_four min_four   -- for this text's walks alone
set_option linter.unusedVariables false
set_option linter.unusedSimpArgs false

theorem infoB : (Try.prog.info? 4).map (fun i => (i.zero, i.size, i.bytes)) = some (some (.bool false), 1, 1) := by kernel_rfl
theorem mk_bools (n : Nat) (h : n ≤ 1000000) (W : World) : (Instr.makeSlice 107 (.int .i64 (n : Int)) (.int .i64 (n : Int))).run Try.prog W = .ok (.slice (some ⟨W.heap.size, 0, none⟩) n n) (W.alloc (.cells (encs Value.bool (List.replicate n false)).toArray 4)) := by
  have hi := infoB
  cases e : Try.prog.info? 4 with
  | none => rw [e] at hi; cases hi
  | some i =>
    rw [e] at hi
    simp only [Option.map_some, Option.some.injEq, Prod.mk.injEq] at hi
    obtain ⟨h1, h2, h3⟩ := hi
    have hm : madeCells #[Value.bool false] n = (encs Value.bool (List.replicate n false)).toArray := by
      apply Array.toList_inj.1
      rw [toList_madeCells_one]
      simp [encs]
    have := run_makeSlice (P := Try.prog) (w := W) 107 4 i (.bool false) Try.underlying107 e h1 .i64 .i64 (n : Int) (n : Int) (by omega) (Int.le_refl _) (by rw [h2]; simp; omega) (by rw [h3]; omega) (by omega)
    rw [Int.toNat_natCast, h2, Nat.mul_one] at this
    rw [this, ← hm]
    rfl
/-- A row of Bools that is a block. -/
def RowB (W : World) (b : Nat) (ys : List Bool) : Prop := W.heap[b]? = some (.cells (encs Value.bool ys).toArray 4 (0, 0))
theorem RowB.cell {W : World} {b : Nat} {ys : List Bool} (h : RowB W b ys) (j : Nat) (hj : j < ys.length) : W.cell? ⟨b, j, none⟩ = some (.bool (ys.getD j false)) := by
  rw [blk_cell h j]
  simp [encs, List.getD_eq_getElem?_getD, List.getElem?_eq_getElem hj]
theorem RowB.set {W : World} {b : Nat} {ys : List Bool} (h : RowB W b ys) (j : Nat) (y : Bool) : RowB (W.setCell ⟨b, j, none⟩ (.bool y)) b (ys.set j y) := by
  rw [RowB, blk_set h j]
  congr 2
  simp [encs, List.map_set]
/-- The table of a set. -/
def tabI (L : List (Int × Int)) : List Bool := (List.range 256).map fun (x : Nat) => memI L (x : Int)
theorem tabI_len (L : List (Int × Int)) : (tabI L).length = 256 := by simp [tabI]
theorem tabI_get (L : List (Int × Int)) (i : Nat) (h : i < (tabI L).length) : (tabI L)[i] = memI L (i : Int) := by simp [tabI]
theorem tabI_at (L : List (Int × Int)) (x : Nat) (h : x < 256) : (tabI L).getD x false = memI L (x : Int) := by
  rw [List.getD_eq_getElem?_getD, tabI, List.getElem?_map, List.getElem?_range h]; rfl
theorem memR (L : List (Int × Int)) (a b c : Int) : memI (L ++ [(a, b)]) c = (memI L c || (decide (a ≤ c) && decide (c ≤ b))) := by rw [memI, List.any_append]; simp [memI]
theorem tabI_nil : tabI [] = List.replicate 256 false := by
  apply List.ext_getElem
  · rw [tabI_len, List.length_replicate]
  · intro i h1 h2
    rw [tabI_get, List.getElem_replicate]
    rfl
theorem tabI_start (L : List (Int × Int)) (a : Int) : tabI (L ++ [(a, a - 1)]) = tabI L := by
  unfold tabI
  refine List.map_congr_left fun x _ => ?_
  rw [memR]
  by_cases e : a ≤ (x : Int)
  · rw [decide_eq_true e, decide_eq_false (by omega)]; simp
  · rw [decide_eq_false e]; simp
theorem tabI_step (L : List (Int × Int)) (a : Int) (x : Nat) (ha : a ≤ (x : Int)) : (tabI (L ++ [(a, (x : Int) - 1)])).set x true = tabI (L ++ [(a, (x : Int))]) := by
  apply List.ext_getElem
  · rw [List.length_set, tabI_len, tabI_len]
  · intro i h1 h2
    rw [tabI_len] at h2
    rw [List.getElem_set, tabI_get, tabI_get, memR, memR]
    by_cases e : x = i
    · subst e
      rw [if_pos rfl, decide_eq_true ha, decide_eq_true (Int.le_refl _)]; simp
    · rw [if_neg e]
      congr 2
      rw [Bool.eq_iff_iff, decide_eq_true_iff, decide_eq_true_iff]
      omega
/-- What the walk holds: the reader, the part, the result's cells, the table. -/
structure RSt (w W : World) (g gr : Nat) (L : List Int) (n : Int) (b : Nat) (neg : Bool) (ys : List Bool) (bad : Bool) : Prop where
  r : RfV W g L (b : Nat) n bad
  p : W.heap[gr + 2]? = some (.cells #[.int .i64 3, .int .u8 0, .slice (some ⟨gr + 1, 0, none⟩) 256 256, .bool neg] 109 (0, 0))
  z : W.heap[gr]? = some (.cells #[.int .i64 0, .int .u8 0, .slice none 0 0, .bool false] 109 (0, 0))
  o : RowB W (gr + 1) ys
  k : Kp (fun k => k = g) w W
section
variable {w W W1 : World} {g gr : Nat} {L : List Int} {n : Int} {b b' : Nat} {neg : Bool} {ys : List Bool} {bad bad' : Bool}
theorem RSt.next (h : RSt w W g gr L n b neg ys bad) (hr : RfV W1 g L (b' : Nat) n bad') (hk : Kp (fun k => k = g) W W1) (hg : g < gr) : RSt w W1 g gr L n b' neg ys bad' :=
  ⟨hr, hk.blk h.p (fun h => by omega), hk.blk h.z (fun h => by omega), hk.blk h.o (fun h => by omega), h.k.trans hk (fun k hk => .inl hk)⟩
theorem RSt.below (h : RSt w W g gr L n b neg ys bad) (hb : Below W.heap.size W W1) : RSt w W1 g gr L n b neg ys bad :=
  ⟨h.r.below hb, blk_below h.p hb, blk_below h.z hb, blk_below h.o hb, h.k.below hb⟩
theorem RSt.set (h : RSt w W g gr L n b neg ys bad) (hg : g < gr) (hw : w.heap.size = gr) (j : Nat) (y : Bool) : RSt w (W.setCell ⟨gr + 1, j, none⟩ (.bool y)) g gr L n b neg (ys.set j y) bad := by
  have hk := Kp.set W ⟨gr + 1, j, none⟩ (.bool y)
  exact ⟨hk.blk h.r (fun h => by have : g = gr + 1 := h; omega), hk.blk h.p (fun h => by have : gr + 2 = gr + 1 := h; omega), hk.blk h.z (fun h => by have : gr = gr + 1 := h; omega), h.o.set j y, h.k.trans hk (fun k hk => .inr (by have : k = gr + 1 := hk; omega))⟩
theorem RSt.not (h : RSt w W g gr L n b neg ys bad) (hg : g < gr) (hw : w.heap.size = gr) (y : Bool) : RSt w (W.setCell ⟨gr + 2, 3, none⟩ (.bool y)) g gr L n b y ys bad := by
  have hk := Kp.set W ⟨gr + 2, 3, none⟩ (.bool y)
  exact ⟨hk.blk h.r (fun h => by have : g = gr + 2 := h; omega), by have := blk_set h.p 3 (.bool y); exact this, hk.blk h.z (fun h => by have : gr = gr + 2 := h; omega), hk.blk h.o (fun h => by have : gr + 1 = gr + 2 := h; omega), h.k.trans hk (fun k hk => .inr (by have : k = gr + 2 := hk; omega))⟩
end
def resQ (neg : Bool) (R : Option (List (Int × Int) × List Int)) : Option (Pt × List Int) := match R with | none => none | some (acc, r) => some (⟨3, 0, acc, neg⟩, r)
theorem setR_res (neg : Bool) (l : List Int) : setR neg l = resQ neg (setP (l.length + 1) l true []) := rfl
def RSetD (w w' : World) (g : Nat) (L : List Int) (a : Nat) (n : Int) (e : Ending) : Prop := ∃ (neg : Bool) (ins : List (Int × Int)) (ys : List Bool) (ok : Bool) (b bk : Nat), e = .returned (.agg #[.int .i64 3, .int .u8 0, .slice (some ⟨bk, 0, none⟩) 256 256, .bool neg]) ∧ w.heap.size ≤ bk ∧ ys.length = 256 ∧ RowB w' bk ys ∧ a ≤ b ∧ b ≤ L.length ∧ setQ (L.drop a) = (if ok = true then some (⟨3, 0, ins, neg⟩, L.drop b) else none) ∧ (ok = true → ys = tabI ins) ∧ RfV w' g L (b : Nat) n (!ok) ∧ Kp (fun k => k = g) w w'
theorem z4_ones (s : Option Addr) (n c : Nat) (k cc : Int) (b : Bool) : (#[.int .i64 k, .int .u8 cc, .slice s n c, .bool b] : Array Value).all (·.oneCell') = true := by simp [Value.oneCell']
theorem info4 : (Try.prog.info? 109).map (·.size) = some 4 := by kernel_rfl
/-- The end: the part is copied into the result. -/
theorem RSt.done {w W : World} {g gr : Nat} {L : List Int} {n : Int} {b : Nat} {neg : Bool} {ys : List Bool} {bad ok : Bool} {ins : List (Int × Int)} {a : Nat} {e : Ending} (h : RSt w W g gr L n b neg ys bad) (hg : g < gr) (hw : w.heap.size = gr) (hbad : bad = !ok) (he : e = .returned (.agg #[.int .i64 3, .int .u8 0, .slice (some ⟨gr + 1, 0, none⟩) 256 256, .bool neg])) (hl : ys.length = 256) (h1 : a ≤ b) (h2 : b ≤ L.length) (h3 : setQ (L.drop a) = (if ok = true then some (⟨3, 0, ins, neg⟩, L.drop b) else none)) (h4 : ok = true → ys = tabI ins) :
    RSetD w (W.setCells gr 0 (#[.int .i64 3, .int .u8 0, .slice (some ⟨gr + 1, 0, none⟩) 256 256, .bool neg] : Array Value).toList) g L a n e := by
  have hk := kp_cells (b := gr) (#[.int .i64 3, .int .u8 0, .slice (some ⟨gr + 1, 0, none⟩) 256 256, .bool neg] : Array Value).toList 0 W
  subst hbad
  exact ⟨neg, ins, ys, ok, b, gr + 1, he, by omega, hl, hk.blk h.o (fun h => by omega), h1, h2, h3, h4, hk.blk h.r (fun h => by omega), h.k.trans hk (fun k hk => .inr (by omega))⟩
set_option maxHeartbeats 8000000 in
set_option maxRecDepth 100000 in
theorem rSet_calls (w : World) (g : Nat) (L : List Int) (a : Nat) (n : Int) (H : RfV w g L a n false) (hib : isB L) (hL : L.length ≤ 100000) (ha : a ≤ L.length) :
    Calls Try.prog 57 #[.pointer (some ⟨g, 0, none⟩)] w fun e w' => RSetD w w' g L a n e := by
  have HIB := Aside0.mk hib
  have HL := Aside0.mk hL
  obtain ⟨N, hN⟩ : ∃ N, L.length = N := ⟨_, rfl⟩
  have HN := Aside0.mk hN
  rw [hN] at hL ha
  have HA := Aside0.mk ha
  have HGL := Aside0.mk (show g < w.heap.size from blk_lt H)
  obtain ⟨wb, hwb⟩ : ∃ x, w.alloc (.cells #[.int .i64 0, .int .u8 0, .slice none 0 0, .bool false] 109) = x := ⟨_, rfl⟩
  have s1 : wb.heap.size = w.heap.size + 1 := by rw [← hwb]; exact Array.size_push _
  obtain ⟨gr, hgr⟩ : ∃ x, w.heap.size = x := ⟨_, rfl⟩
  rw [hgr] at s1 HGL
  have HGR := Aside0.mk hgr
  have hmk := mk_bools 256 (by decide) wb
  rw [s1] at hmk
  obtain ⟨wc0, hwc0⟩ : ∃ x, wb.alloc (.cells (encs Value.bool (List.replicate 256 false)).toArray 4) = x := ⟨_, rfl⟩
  have s2 : wc0.heap.size = gr + 2 := by rw [← hwc0]; show (wb.heap.push _).size = _; rw [Array.size_push, s1]
  rw [hwc0] at hmk
  have hmk' : (Instr.makeSlice 107 (.int .i64 256) (.int .i64 256)).run Try.prog wb = .ok (.slice (some ⟨gr + 1, 0, none⟩) 256 256) wc0 := hmk
  have HST := Aside0.mk (show RSt w (wc0.alloc (.cells #[.int .i64 3, .int .u8 0, .slice (some ⟨gr + 1, 0, none⟩) 256 256, .bool false] 109)) g gr L n a false (tabI []) false from by
    have b1 := below_alloc (Below.refl w.heap.size w) (.cells #[.int .i64 0, .int .u8 0, .slice none 0 0, .bool false] 109)
    rw [hwb] at b1
    have b2 := below_alloc (Below.refl wb.heap.size wb) (.cells (encs Value.bool (List.replicate 256 false)).toArray 4)
    rw [hwc0] at b2
    have b3 := below_alloc (Below.refl wc0.heap.size wc0) (.cells #[.int .i64 3, .int .u8 0, .slice (some ⟨gr + 1, 0, none⟩) 256 256, .bool false] 109)
    have z0 := blk_new w (.cells #[.int .i64 0, .int .u8 0, .slice none 0 0, .bool false] 109)
    rw [hwb, hgr] at z0
    have o0 := blk_new wb (.cells (encs Value.bool (List.replicate 256 false)).toArray 4)
    rw [hwc0, s1] at o0
    have p0 := blk_new wc0 (.cells #[.int .i64 3, .int .u8 0, .slice (some ⟨gr + 1, 0, none⟩) 256 256, .bool false] 109)
    rw [s2] at p0
    exact ⟨((H.below b1).below b2).below b3, p0, blk_below (blk_below z0 b2) b3, by rw [tabI_nil]; exact blk_below o0 b3, Kp.of_below (below_step (below_step b1 b2) b3) _⟩)
  clear H hib hN hmk ha
  go_enter Try.func57, Try.ntmps57
  go_upto_region 2 with fail
  obtain ⟨wx, hwx⟩ : ∃ x, wc0.alloc (.cells #[.int .i64 3, .int .u8 0, .slice (some ⟨gr + 1, 0, none⟩) 256 256, .bool false] 109) = x := ⟨_, rfl⟩
  rw [hwx] at HST ⊢
  clear hwx hmk' hwb hwc0 s1 s2 hgr
  go_wp2_with fail
  with_reducible refine (rIs_calls _ g L a n false 0 0 33 rfl HST.out.r HIB.out HL.out (by rw [HN.out]; exact HA.out) (by decide)).mono ?_
  rintro e w1 ⟨rfl, hb⟩
  replace HST := Aside0.mk (HST.out.below hb)
  rw [HN.out, Nat.add_zero]
  clear hb
  obtain ⟨bb, hbb⟩ : ∃ bb, (decide (a < N) && L.getD a 0 == 33) = bb := ⟨_, rfl⟩
  have HBB := Aside0.mk hbb
  rw [hbb]
  clear hbb
  go_upto_if 11 with fail
  go_cut [] (fun wx => ∃ (q : Nat) (neg : Bool), a ≤ q ∧ q ≤ N ∧ Aside0 (setQ (L.drop a) = setR neg (L.drop q)) ∧ Aside0 (RSt w wx g gr L n q neg (tabI []) false))
  case first =>
    cases bb with
    | false =>
      go_wp2_with fail
      go_meet
      refine ⟨a, false, Nat.le_refl _, HA.out, Aside0.mk ?_, HST⟩
      have hb := HBB.out
      rw [setQ, if_neg]
      intro e
      by_cases c1 : a < N
      · rw [decide_eq_true c1, Bool.true_and, beq_eq_false_iff_ne] at hb
        rw [List.getD_eq_getElem?_getD, List.getElem?_drop, Nat.add_zero, ← List.getD_eq_getElem?_getD] at e
        exact hb e
      · rw [List.drop_eq_nil_of_le (by rw [HN.out]; omega)] at e
        exact absurd e (by decide)
    | true =>
      have hc1 : a < N ∧ L.getD a 0 = 33 := by have := HBB.out; simpa using this
      have HC1 := Aside0.mk hc1
      have hlt := hc1.1
      have x3 : w1.cell? ⟨gr + 2, 3, none⟩ = some (.bool false) := blk_cell HST.out.p 3
      have f3 : w1.frozen? ⟨gr + 2, 3, none⟩ = false := blk_frozen HST.out.p 3
      clear hc1
      go_upto_region 4 with fail
      have HS2 := Aside0.mk (HST.out.not HGL.out HGR.out true)
      obtain ⟨w2, hw2⟩ : ∃ x, w1.setCell ⟨gr + 2, 3, none⟩ (.bool true) = x := ⟨_, rfl⟩
      rw [hw2] at HS2 ⊢
      clear hw2 x3 f3
      have x1 := HS2.out.r.c1
      have f1 := HS2.out.r.fz 1
      have v1 : IntKind.i64.wrap ((a : Int) + 1) = (a : Int) + 1 := by rw [IntKind.wrap_i64]; omega
      go_wp2_with fail
      go_meet
      refine ⟨a + 1, true, by omega, by omega, Aside0.mk ?_, Aside0.mk (HS2.out.next (b' := a + 1) (by have := HS2.out.r.s1 ((a : Int) + 1); exact this) (Kp.set w2 ⟨g, 1, none⟩ (.int .i64 ((a : Int) + 1))) HGL.out)⟩
      rw [setQ, if_pos (by rw [List.getD_eq_getElem?_getD, List.getElem?_drop, Nat.add_zero, ← List.getD_eq_getElem?_getD]; exact HC1.out.2), List.drop_drop]
  case rest =>
  obtain ⟨q, neg, hq0, hq1, HQ, HS2⟩ := hcut
  clear HST HBB
  obtain ⟨RES, hRES⟩ : ∃ R, setP ((L.drop q).length + 1) (L.drop q) true [] = R := ⟨_, rfl⟩
  have HRES := Aside0.mk hRES
  have HQR := Aside0.mk (show setQ (L.drop a) = resQ neg RES by rw [HQ.out, setR_res, hRES])
  clear hRES
  go_upto_block 0 with (fail)
  go_cut [] (fun wx => ∃ (b : Nat) (ys : List Bool), a ≤ b ∧ b ≤ N ∧ ys.length = 256 ∧ Aside0 (RES = none) ∧ Aside0 (RSt w wx g gr L n b neg ys true))
  case first =>
    go_wp2_with fail
    go_loopg [4] (N + 3) (fun kq v4 w' => ∃ (i q1 : Nat) (ys : List Bool) (bad : Bool), v4 = .int .i64 (i : Int) ∧ a ≤ q1 ∧ q1 ≤ N ∧ ys.length = 256 ∧ i ≤ N + 1 ∧ Aside0 (RSt w w' g gr L n q1 neg ys bad) ∧ ((bad = true ∧ Aside0 (RES = none)) ∨ (bad = false ∧ i ≤ q1 ∧ N + 3 ≤ q1 + kq ∧ ∃ (f : Nat) (acc : List (Int × Int)), N < q1 + f ∧ Aside0 (ys = tabI acc) ∧ Aside0 (setP f (L.drop q1) (decide (i = 0)) acc = RES))))
    case atStart => exact ⟨0, q, tabI [], false, rfl, hq0, hq1, tabI_len _, Nat.zero_le _, HS2, .inr ⟨rfl, Nat.zero_le _, by omega, (L.drop q).length + 1, [], by rw [List.length_drop, HN.out]; omega, Aside0.mk rfl, HRES⟩⟩
    case round =>
      clear HS2
      obtain ⟨gko, hgko⟩ : ∃ x, x = gk := ⟨_, rfl⟩
      subst hgko
      obtain ⟨i, q1, ys, bad, rfl, hqa, hqN, hyl, hiN, HS, hcase⟩ := hrel
      have x0 := HS.out.r.c0
      have x3 := HS.out.r.c3
      have hsz : (strOfNums L).size = N := by rw [strOf_size]; exact HN.out
      rcases hcase with ⟨rfl, HRN⟩ | ⟨rfl, hiq, hqk, f, acc, hqf, HY, HSP⟩
      · by_cases c1 : i ≤ N
        · have g1 : decide ((i : Int) ≤ (N : Int)) = true := decide_eq_true (by omega)
          have g1' : decide (i ≤ N) = true := decide_eq_true c1
          go_wp2_with fail
          go_meet
          exact ⟨q1, ys, hqa, hqN, hyl, HRN, HS⟩
        · have g1 : decide ((i : Int) ≤ (N : Int)) = false := decide_eq_false (by omega)
          have g1' : decide (i ≤ N) = false := decide_eq_false c1
          go_wp2_with fail
          go_meet
          exact ⟨q1, ys, hqa, hqN, hyl, HRN, HS⟩
      · have g1 : decide ((i : Int) ≤ (N : Int)) = true := decide_eq_true (by omega)
        have g1' : decide (i ≤ N) = true := decide_eq_true (by omega)
        obtain ⟨f', rfl⟩ : ∃ f', f = f' + 1 := ⟨f - 1, by omega⟩
        obtain ⟨bb, hbb⟩ : ∃ bb, (decide (0 < i) && (decide (q1 < N) && L.getD q1 0 == 93)) = bb := ⟨_, rfl⟩
        have HBB := Aside0.mk hbb
        clear hbb
        go_upto_region 8 with fail
        clear x0 x3 g1 g1'
        go_cut [41] (fun v41 wx => v41 = .bool bb ∧ Aside0 (RSt w wx g gr L n q1 neg ys false))
        case first =>
          by_cases c2 : 0 < i
          · have g2 : decide (0 < (i : Int)) = true := decide_eq_true (by omega)
            have g2' : decide (0 < i) = true := decide_eq_true c2
            go_wp2_with fail
            with_reducible refine (rIs_calls _ g L q1 n false 0 0 93 rfl HS.out.r HIB.out HL.out (by rw [HN.out]; exact hqN) (by decide)).mono ?_
            rintro e w3 ⟨rfl, hb⟩
            have HS3 := Aside0.mk (HS.out.below hb)
            rw [HN.out, Nat.add_zero, show (decide (q1 < N) && L.getD q1 0 == 93) = bb by rw [← HBB.out, g2', Bool.true_and]]
            clear hb
            go_wp2_with fail
            go_meet
            exact ⟨rfl, HS3⟩
          · have g2 : decide (0 < (i : Int)) = false := decide_eq_false (by omega)
            have g2' : decide (0 < i) = false := decide_eq_false c2
            have HG := Aside0.mk (show bb = false by rw [← HBB.out, g2']; rfl)
            go_wp2_with fail
            go_meet
            exact ⟨by rw [HG.out], HS⟩
        case rest =>
        obtain ⟨rfl, HS⟩ := hcut
        cases bb with
        | true =>
          have hb := HBB.out
          simp only [Bool.and_eq_true, decide_eq_true_eq, beq_iff_eq] at hb
          obtain ⟨hi0, hqN2, h93⟩ := hb
          have hne : L.drop q1 ≠ [] := fun e => by have := congrArg List.length e; rw [List.length_drop, HN.out] at this; simp at this; omega
          have hsp := HSP.out
          rw [decide_eq_false (show ¬ i = 0 by omega), setP_close f' _ acc hne (by rw [List.getD_eq_getElem?_getD, List.getElem?_drop, Nat.add_zero, ← List.getD_eq_getElem?_getD]; exact h93), List.drop_drop] at hsp
          have HFQ := Aside0.mk (show setQ (L.drop a) = some (⟨3, 0, acc, neg⟩, L.drop (q1 + 1)) by rw [HQR.out, ← hsp]; rfl)
          have x1 := HS.out.r.c1
          have f1 := HS.out.r.fz 1
          have v1 : IntKind.i64.wrap ((q1 : Int) + 1) = (q1 : Int) + 1 := by rw [IntKind.wrap_i64]; omega
          clear hsp hne HSP
          go_upto_region 10 with fail
          have HS4 := Aside0.mk (HS.out.next (b' := q1 + 1) (by have := HS.out.r.s1 ((q1 : Int) + 1); exact this) (Kp.set wc ⟨g, 1, none⟩ (.int .i64 ((q1 : Int) + 1))) HGL.out)
          obtain ⟨w4, hw4⟩ : ∃ x, wc.setCell ⟨g, 1, none⟩ (.int .i64 ((q1 : Int) + 1)) = x := ⟨_, rfl⟩
          rw [hw4] at HS4 ⊢
          clear hw4 x1 f1 v1
          have HT := Aside0.mk (show w4.there gr 0 (#[.int .i64 3, .int .u8 0, .slice (some ⟨gr + 1, 0, none⟩) 256 256, .bool neg] : Array Value).size by have := there_blk HS4.out.z; exact this)
          have q0 : w4.cell? ⟨gr + 2, 0, none⟩ = some (.int .i64 3) := blk_cell HS4.out.p 0
          have q1 : w4.cell? ⟨gr + 2, 1, none⟩ = some (.int .u8 0) := blk_cell HS4.out.p 1
          have q2 : w4.cell? ⟨gr + 2, 2, none⟩ = some (.slice (some ⟨gr + 1, 0, none⟩) 256 256) := blk_cell HS4.out.p 2
          have q3 : w4.cell? ⟨gr + 2, 3, none⟩ = some (.bool neg) := blk_cell HS4.out.p 3
          go_wp2_with (first | (refine wpList_store_mid rfl 109 (.tmp 2) (.tmp 49) rfl gr 0 #[.int .i64 3, .int .u8 0, .slice (some ⟨gr + 1, 0, none⟩) 256 256, .bool neg] rfl rfl HT.out info4 (z4_ones _ _ _ _ _ _) ?_) | fail)
          exact bodyPost_ret (results_cell (i := 2) rfl rfl (run_loadVar_mid _ gr 0 109 (#[.int .i64 3, .int .u8 0, .slice (some ⟨gr + 1, 0, none⟩) 256 256, .bool neg] : Array Value).toList _ (World.rangeAt_setCells_same _ _ _ _ HT.out) Try.underlying109 rfl info4)) rfl (HS4.out.done (ok := true) (ins := acc) HGL.out HGR.out rfl rfl hyl (by omega) (by rw [HN.out]; omega) (by rw [HFQ.out]; rfl) (fun _ => HY.out))
        | false =>
          have HNC := Aside0.mk (show ¬ (decide (i = 0) = false ∧ (L.drop q1).getD 0 0 = 93) by
            rintro ⟨h1, h2⟩
            rw [decide_eq_false_iff_not] at h1
            by_cases c1 : q1 < N
            · have := HBB.out
              rw [decide_eq_true (show 0 < i by omega), decide_eq_true c1, Bool.true_and, Bool.true_and, beq_eq_false_iff_ne] at this
              rw [List.getD_eq_getElem?_getD, List.getElem?_drop, Nat.add_zero, ← List.getD_eq_getElem?_getD] at h2
              exact this h2
            · rw [List.drop_eq_nil_of_le (by rw [HN.out]; omega)] at h2
              exact absurd h2 (by decide))
          go_wp2_with fail
          with_reducible refine (rByte_calls _ g L q1 n false HS.out.r HIB.out HL.out (by rw [HN.out]; exact hqN)).mono ?_
          rintro e w3 ⟨d, ok1, b, rfl, hab, hbN, hbe, hblt, hlt, hd0, hd1, hr, hk⟩
          rw [Bool.false_or] at hr
          have HS3 := Aside0.mk (HS.out.next hr hk HGL.out)
          have HLT := Aside0.mk hlt
          have HBE := Aside0.mk hbe
          have HBL := Aside0.mk hblt
          rw [HN.out] at hbN
          clear hr hk hlt hbe hblt HS
          obtain ⟨bd, hbd⟩ : ∃ bd, dashB (L.drop b) = bd := ⟨_, rfl⟩
          have HBD := Aside0.mk hbd
          clear hbd
          go_upto_region 13 with fail
          go_cut [72] (fun v72 wx => v72 = .bool bd ∧ Aside0 (RSt w wx g gr L n b neg ys (!ok1)))
          case first => --ok
            have x0 := HS3.out.r.c0
            have x1 := HS3.out.r.c1
            have wr1 : IntKind.i64.wrap ((b : Int) + 1) = (b : Int) + 1 := by rw [IntKind.wrap_i64]; omega
            have HBN' := Aside0.mk (show b ≤ L.length by rw [HN.out]; exact hbN)
            have HI0 := Aside0.mk (fun (W : World) (hW : Below w3.heap.size w3 W) => rIs_calls W g L b n (!ok1) 0 0 45 rfl (HS3.out.r.below hW) HIB.out HL.out HBN'.out (by decide))
            have HI1 := Aside0.mk (fun (W : World) (hW : Below w3.heap.size w3 W) => rIs_calls W g L b n (!ok1) 1 1 93 rfl (HS3.out.r.below hW) HIB.out HL.out HBN'.out (by decide))
            rw [HN.out] at HI0 HI1
            have hd2 : bd = (decide (b + 1 < N) && (L.getD b 0 == 45 && L.getD (b + 1) 0 != 93)) := by
              rw [← HBD.out, dashB, List.length_drop, HN.out]
              simp only [List.getD_eq_getElem?_getD, List.getElem?_drop, Nat.add_zero]
              congr 1
              rw [Bool.eq_iff_iff, decide_eq_true_iff, decide_eq_true_iff]
              omega
            obtain ⟨b0, hb0⟩ : ∃ x, (decide (b + 0 < N) && L.getD (b + 0) 0 == 45) = x := ⟨_, rfl⟩
            obtain ⟨b1, hb1⟩ : ∃ x, (decide (b + 1 < N) && L.getD (b + 1) 0 == 93) = x := ⟨_, rfl⟩
            rw [hb0] at HI0
            rw [hb1] at HI1
            have HB0 := Aside0.mk hb0
            have HB1 := Aside0.mk hb1
            have HD2 := Aside0.mk hd2
            clear hb0 hb1 hd2
            cases b0 with
            | false =>
              have HG := Aside0.mk (show bd = false by
                rw [HD2.out]
                have h0 := HB0.out
                rw [Nat.add_zero] at h0
                by_cases c1 : b + 1 < N
                · rw [decide_eq_true (show b < N by omega), Bool.true_and] at h0
                  rw [h0, Bool.false_and, Bool.and_false]
                · rw [decide_eq_false c1, Bool.false_and])
              refine start_ (n := 20) (S := fun w' => w'.cell? ⟨g, 0, none⟩ = some (.string (strOfNums L)) ∧ w'.cell? ⟨g, 1, none⟩ = some (.int .i64 (b : Int))) (ds := []) #[false, false, false, false, false, false, false, false, false, false, false, false, false, false, false, false, false, false, false, false] (by kernel_rfl) rfl rfl ⟨x0, x1⟩ (fun hHeld => ?_)
              refine pure_ (i := 0) (N := some 53) (v := ?_) (a' := ?_) #[true, false, false, false, false, false, false, false, false, false, false, false, false, false, false, false, false, false, false, false] rfl rfl (by kernel_rfl) (fun _ _ _ h => h) (Or.inl ⟨by rfl, ?_⟩) ?_ ?_
              rotate_left
              · intro w'
                go_simp
                with_reducible rfl
              rotate_left
              · simp only [Act.put, List.setIfInBounds_toArray, List.set_cons_zero, List.set_cons_succ, i64_w, i32_w]
                rfl
              refine one_ (i := 1) (N := some 54) #[true, true, false, false, false, false, false, false, false, false, false, false, false, false, false, false, false, false, false, false] rfl rfl (by kernel_rfl) (by decide) (fun K hK => ?_)
              refine goes_ Try.func99 (by kernel_rfl) rfl #[.pointer (some ⟨g, 0, none⟩), .int .i64 0, .int .u8 45] (by rfl) rfl rfl (by (try simp only [List.map_toArray, List.map_cons, List.map_nil]); first | done | rfl) ?_
              with_reducible refine (HI0.out _ (below_drew (Below.refl w3.heap.size w3))).mono ?_
              rintro e w4 ⟨rfl, hb4⟩
              refine ⟨_, rfl, ?_⟩
              refine hK.out _ _ ⟨(pw_cell_below hb4 hHeld.1), (pw_cell_below hb4 hHeld.2)⟩ (fun hHeld => ?_)
              clear hK K
              refine norm_ (a' := ?_) ?_ ?_
              rotate_left
              · show Act.put _ (some 54) _ = _
                simp only [Act.put, List.setIfInBounds_toArray, List.set_cons_zero, List.set_cons_succ, i64_w, i32_w]
                rfl
              refine pure_ (i := 2) (N := some 55) (v := ?_) (a' := ?_) #[true, true, true, false, false, false, false, false, false, false, false, false, false, false, false, false, false, false, false, false] rfl rfl (by kernel_rfl) (fun _ _ _ h => h) (Or.inl ⟨by rfl, ?_⟩) ?_ ?_
              rotate_left
              · intro w'
                go_simp
                with_reducible rfl
              rotate_left
              · simp only [Act.put, List.setIfInBounds_toArray, List.set_cons_zero, List.set_cons_succ, i64_w, i32_w]
                rfl
              refine pure_ (i := 3) (N := some 56) (v := undef) (a' := ?_) #[true, true, true, true, false, false, false, false, false, false, false, false, false, false, false, false, false, false, false, false] rfl rfl (by kernel_rfl) (fun _ _ _ h => h) (Or.inr ⟨by rfl, rfl⟩) ?_ ?_
              rotate_left
              · simp only [Act.put, List.setIfInBounds_toArray, List.set_cons_zero, List.set_cons_succ, i64_w, i32_w]
                rfl
              refine pure_ (i := 4) (N := some 57) (v := undef) (a' := ?_) #[true, true, true, true, true, false, false, false, false, false, false, false, false, false, false, false, false, false, false, false] rfl rfl (by kernel_rfl) (fun _ _ _ h => h) (Or.inr ⟨by rfl, rfl⟩) ?_ ?_
              rotate_left
              · simp only [Act.put, List.setIfInBounds_toArray, List.set_cons_zero, List.set_cons_succ, i64_w, i32_w]
                rfl
              refine pure_ (i := 5) (N := some 58) (v := undef) (a' := ?_) #[true, true, true, true, true, true, false, false, false, false, false, false, false, false, false, false, false, false, false, false] rfl rfl (by kernel_rfl) (fun _ _ _ h => h) (Or.inr ⟨by rfl, rfl⟩) ?_ ?_
              rotate_left
              · simp only [Act.put, List.setIfInBounds_toArray, List.set_cons_zero, List.set_cons_succ, i64_w, i32_w]
                rfl
              refine pure_ (i := 6) (N := some 59) (v := undef) (a' := ?_) #[true, true, true, true, true, true, true, false, false, false, false, false, false, false, false, false, false, false, false, false] rfl rfl (by kernel_rfl) (fun _ _ _ h => h) (Or.inr ⟨by rfl, rfl⟩) ?_ ?_
              rotate_left
              · simp only [Act.put, List.setIfInBounds_toArray, List.set_cons_zero, List.set_cons_succ, i64_w, i32_w]
                rfl
              refine pure_ (i := 7) (N := some 60) (v := undef) (a' := ?_) #[true, true, true, true, true, true, true, true, false, false, false, false, false, false, false, false, false, false, false, false] rfl rfl (by kernel_rfl) (fun _ _ _ h => h) (Or.inr ⟨by rfl, rfl⟩) ?_ ?_
              rotate_left
              · simp only [Act.put, List.setIfInBounds_toArray, List.set_cons_zero, List.set_cons_succ, i64_w, i32_w]
                rfl
              refine pure_ (i := 8) (N := some 61) (v := undef) (a' := ?_) #[true, true, true, true, true, true, true, true, true, false, false, false, false, false, false, false, false, false, false, false] rfl rfl (by kernel_rfl) (fun _ _ _ h => h) (Or.inr ⟨by rfl, rfl⟩) ?_ ?_
              rotate_left
              · simp only [Act.put, List.setIfInBounds_toArray, List.set_cons_zero, List.set_cons_succ, i64_w, i32_w]
                rfl
              refine pure_ (i := 9) (N := some 62) (v := undef) (a' := ?_) #[true, true, true, true, true, true, true, true, true, true, false, false, false, false, false, false, false, false, false, false] rfl rfl (by kernel_rfl) (fun _ _ _ h => h) (Or.inr ⟨by rfl, rfl⟩) ?_ ?_
              rotate_left
              · simp only [Act.put, List.setIfInBounds_toArray, List.set_cons_zero, List.set_cons_succ, i64_w, i32_w]
                rfl
              refine pure_ (i := 10) (N := some 63) (v := undef) (a' := ?_) #[true, true, true, true, true, true, true, true, true, true, true, false, false, false, false, false, false, false, false, false] rfl rfl (by kernel_rfl) (fun _ _ _ h => h) (Or.inr ⟨by rfl, rfl⟩) ?_ ?_
              rotate_left
              · simp only [Act.put, List.setIfInBounds_toArray, List.set_cons_zero, List.set_cons_succ, i64_w, i32_w]
                rfl
              refine pure_ (i := 11) (N := some 64) (v := undef) (a' := ?_) #[true, true, true, true, true, true, true, true, true, true, true, true, false, false, false, false, false, false, false, false] rfl rfl (by kernel_rfl) (fun _ _ _ h => h) (Or.inr ⟨by rfl, rfl⟩) ?_ ?_
              rotate_left
              · simp only [Act.put, List.setIfInBounds_toArray, List.set_cons_zero, List.set_cons_succ, i64_w, i32_w]
                rfl
              refine pure_ (i := 12) (N := some 65) (v := undef) (a' := ?_) #[true, true, true, true, true, true, true, true, true, true, true, true, true, false, false, false, false, false, false, false] rfl rfl (by kernel_rfl) (fun _ _ _ h => h) (Or.inr ⟨by rfl, rfl⟩) ?_ ?_
              rotate_left
              · simp only [Act.put, List.setIfInBounds_toArray, List.set_cons_zero, List.set_cons_succ, i64_w, i32_w]
                rfl
              refine pure_ (i := 13) (N := some 66) (v := undef) (a' := ?_) #[true, true, true, true, true, true, true, true, true, true, true, true, true, true, false, false, false, false, false, false] rfl rfl (by kernel_rfl) (fun _ _ _ h => h) (Or.inr ⟨by rfl, rfl⟩) ?_ ?_
              rotate_left
              · simp only [Act.put, List.setIfInBounds_toArray, List.set_cons_zero, List.set_cons_succ, i64_w, i32_w]
                rfl
              refine pure_ (i := 14) (N := some 67) (v := ?_) (a' := ?_) #[true, true, true, true, true, true, true, true, true, true, true, true, true, true, true, false, false, false, false, false] rfl rfl (by kernel_rfl) (fun _ _ _ h => h) (Or.inl ⟨by rfl, ?_⟩) ?_ ?_
              rotate_left
              · intro w'
                go_simp
                with_reducible rfl
              rotate_left
              · simp only [Act.put, List.setIfInBounds_toArray, List.set_cons_zero, List.set_cons_succ, i64_w, i32_w]
                rfl
              refine pure_ (i := 15) (N := some 68) (v := ?_) (a' := ?_) #[true, true, true, true, true, true, true, true, true, true, true, true, true, true, true, true, false, false, false, false] rfl rfl (by kernel_rfl) (fun _ _ _ h => h) (Or.inl ⟨by rfl, ?_⟩) ?_ ?_
              rotate_left
              · intro w'
                go_simp
                with_reducible rfl
              rotate_left
              · simp only [Act.put, List.setIfInBounds_toArray, List.set_cons_zero, List.set_cons_succ, i64_w, i32_w]
                rfl
              refine pure_ (i := 16) (N := some 69) (v := undef) (a' := ?_) #[true, true, true, true, true, true, true, true, true, true, true, true, true, true, true, true, true, false, false, false] rfl rfl (by kernel_rfl) (fun _ _ _ h => h) (Or.inr ⟨by rfl, rfl⟩) ?_ ?_
              rotate_left
              · simp only [Act.put, List.setIfInBounds_toArray, List.set_cons_zero, List.set_cons_succ, i64_w, i32_w]
                rfl
              refine pure_ (i := 17) (N := some 70) (v := undef) (a' := ?_) #[true, true, true, true, true, true, true, true, true, true, true, true, true, true, true, true, true, true, false, false] rfl rfl (by kernel_rfl) (fun _ _ _ h => h) (Or.inr ⟨by rfl, rfl⟩) ?_ ?_
              rotate_left
              · simp only [Act.put, List.setIfInBounds_toArray, List.set_cons_zero, List.set_cons_succ, i64_w, i32_w]
                rfl
              refine pure_ (i := 18) (N := some 71) (v := undef) (a' := ?_) #[true, true, true, true, true, true, true, true, true, true, true, true, true, true, true, true, true, true, true, false] rfl rfl (by kernel_rfl) (fun _ _ _ h => h) (Or.inr ⟨by rfl, rfl⟩) ?_ ?_
              rotate_left
              · simp only [Act.put, List.setIfInBounds_toArray, List.set_cons_zero, List.set_cons_succ, i64_w, i32_w]
                rfl
              refine pure_ (i := 19) (N := some 72) (v := ?_) (a' := ?_) #[true, true, true, true, true, true, true, true, true, true, true, true, true, true, true, true, true, true, true, true] rfl rfl (by kernel_rfl) (fun _ _ _ h => h) (Or.inl ⟨by rfl, ?_⟩) ?_ ?_
              rotate_left
              · intro w'
                go_simp
                with_reducible rfl
              rotate_left
              · simp only [Act.put, List.setIfInBounds_toArray, List.set_cons_zero, List.set_cons_succ, i64_w, i32_w]
                rfl
              refine done_ (by kernel_rfl) ?_
              have HSZ := Aside0.mk (HS3.out.below (below_step (below_drew (Below.refl w3.heap.size w3)) hb4))
              go_wp2_with fail
              go_meet
              exact ⟨by rw [HG.out], HSZ⟩
            | true =>
              have h45 : L.getD b 0 = 45 := by have := HB0.out; rw [Nat.add_zero] at this; simp only [Bool.and_eq_true, beq_iff_eq] at this; exact this.2
              have H45 := Aside0.mk h45
              clear h45
              by_cases c1 : b + 1 < N
              · have g1 : decide ((b : Int) + 1 < (N : Int)) = true := decide_eq_true (by omega)
                have g1' : decide (b + 1 < N) = true := decide_eq_true c1
                cases b1 with
                | false =>
                  have HG := Aside0.mk (show bd = true by
                    have h1 := HB1.out
                    rw [g1', Bool.true_and, beq_eq_false_iff_ne] at h1
                    rw [HD2.out, g1', H45.out]
                    simpa using h1)
                  refine start_ (n := 20) (S := fun w' => w'.cell? ⟨g, 0, none⟩ = some (.string (strOfNums L)) ∧ w'.cell? ⟨g, 1, none⟩ = some (.int .i64 (b : Int))) (ds := []) #[false, false, false, false, false, false, false, false, false, false, false, false, false, false, false, false, false, false, false, false] (by kernel_rfl) rfl rfl ⟨x0, x1⟩ (fun hHeld => ?_)
                  refine pure_ (i := 0) (N := some 53) (v := ?_) (a' := ?_) #[true, false, false, false, false, false, false, false, false, false, false, false, false, false, false, false, false, false, false, false] rfl rfl (by kernel_rfl) (fun _ _ _ h => h) (Or.inl ⟨by rfl, ?_⟩) ?_ ?_
                  rotate_left
                  · intro w'
                    go_simp
                    with_reducible rfl
                  rotate_left
                  · simp only [Act.put, List.setIfInBounds_toArray, List.set_cons_zero, List.set_cons_succ, i64_w, i32_w]
                    rfl
                  refine one_ (i := 1) (N := some 54) #[true, true, false, false, false, false, false, false, false, false, false, false, false, false, false, false, false, false, false, false] rfl rfl (by kernel_rfl) (by decide) (fun K hK => ?_)
                  refine goes_ Try.func99 (by kernel_rfl) rfl #[.pointer (some ⟨g, 0, none⟩), .int .i64 0, .int .u8 45] (by rfl) rfl rfl (by (try simp only [List.map_toArray, List.map_cons, List.map_nil]); first | done | rfl) ?_
                  with_reducible refine (HI0.out _ (below_drew (Below.refl w3.heap.size w3))).mono ?_
                  rintro e w4 ⟨rfl, hb4⟩
                  refine ⟨_, rfl, ?_⟩
                  refine hK.out _ _ ⟨(pw_cell_below hb4 hHeld.1), (pw_cell_below hb4 hHeld.2)⟩ (fun hHeld => ?_)
                  clear hK K
                  refine norm_ (a' := ?_) ?_ ?_
                  rotate_left
                  · show Act.put _ (some 54) _ = _
                    simp only [Act.put, List.setIfInBounds_toArray, List.set_cons_zero, List.set_cons_succ, i64_w, i32_w]
                    rfl
                  refine pure_ (i := 2) (N := some 55) (v := ?_) (a' := ?_) #[true, true, true, false, false, false, false, false, false, false, false, false, false, false, false, false, false, false, false, false] rfl rfl (by kernel_rfl) (fun _ _ _ h => h) (Or.inl ⟨by rfl, ?_⟩) ?_ ?_
                  rotate_left
                  · intro w'
                    go_simp
                    with_reducible rfl
                  rotate_left
                  · simp only [Act.put, List.setIfInBounds_toArray, List.set_cons_zero, List.set_cons_succ, i64_w, i32_w]
                    rfl
                  refine pure_ (i := 3) (N := some 56) (v := ?_) (a' := ?_) #[true, true, true, true, false, false, false, false, false, false, false, false, false, false, false, false, false, false, false, false] rfl rfl (by kernel_rfl) (fun _ _ _ h => h) (Or.inl ⟨by rfl, ?_⟩) ?_ ?_
                  rotate_left
                  · intro w'
                    go_simp
                    with_reducible rfl
                  rotate_left
                  · simp only [Act.put, List.setIfInBounds_toArray, List.set_cons_zero, List.set_cons_succ, i64_w, i32_w]
                    rfl
                  refine pure_ (i := 4) (N := some 57) (v := ?_) (a' := ?_) #[true, true, true, true, true, false, false, false, false, false, false, false, false, false, false, false, false, false, false, false] rfl rfl (by kernel_rfl) (fun _ _ _ h => h) (Or.inl ⟨by rfl, ?_⟩) ?_ ?_
                  rotate_left
                  · intro w'
                    go_simp
                    with_reducible rfl
                  rotate_left
                  · simp only [Act.put, List.setIfInBounds_toArray, List.set_cons_zero, List.set_cons_succ, i64_w, i32_w]
                    rfl
                  refine pure_ (i := 5) (N := some 58) (v := ?_) (a' := ?_) #[true, true, true, true, true, true, false, false, false, false, false, false, false, false, false, false, false, false, false, false] rfl rfl (by kernel_rfl) (fun _ _ _ h => h) (Or.inl ⟨by rfl, ?_⟩) ?_ ?_
                  rotate_left
                  · intro w'
                    go_simp
                    with_reducible rfl
                  rotate_left
                  · simp only [Act.put, List.setIfInBounds_toArray, List.set_cons_zero, List.set_cons_succ, i64_w, i32_w]
                    rfl
                  refine pure_ (i := 8) (N := some 61) (v := ?_) (a' := ?_) #[true, true, true, true, true, true, false, false, true, false, false, false, false, false, false, false, false, false, false, false] rfl rfl (by kernel_rfl) (fun _ _ _ h => h) (Or.inl ⟨by rfl, ?_⟩) ?_ ?_
                  rotate_left
                  · intro w'
                    go_simp
                    with_reducible rfl
                  rotate_left
                  · simp only [Act.put, List.setIfInBounds_toArray, List.set_cons_zero, List.set_cons_succ, i64_w, i32_w]
                    rfl
                  refine pure_ (i := 9) (N := some 62) (v := ?_) (a' := ?_) #[true, true, true, true, true, true, false, false, true, true, false, false, false, false, false, false, false, false, false, false] rfl rfl (by kernel_rfl) (fun _ _ _ h => h) (Or.inl ⟨by rfl, ?_⟩) ?_ ?_
                  rotate_left
                  · intro w'
                    go_simp
                    with_reducible rfl
                  rotate_left
                  · simp only [Act.put, List.setIfInBounds_toArray, List.set_cons_zero, List.set_cons_succ, i64_w, i32_w]
                    rfl
                  refine pure_ (i := 10) (N := some 63) (v := ?_) (a' := ?_) #[true, true, true, true, true, true, false, false, true, true, true, false, false, false, false, false, false, false, false, false] rfl rfl (by kernel_rfl) (fun _ _ _ h => h) (Or.inl ⟨by rfl, ?_⟩) ?_ ?_
                  rotate_left
                  · intro w'
                    go_simp
                    with_reducible rfl
                  rotate_left
                  · simp only [Act.put, List.setIfInBounds_toArray, List.set_cons_zero, List.set_cons_succ, i64_w, i32_w]
                    rfl
                  refine take_ (i := 6) (N := some 59) (v := ?_) (a' := ?_) #[true, true, true, true, true, true, true, false, true, true, true, false, false, false, false, false, false, false, false, false] rfl rfl (by kernel_rfl) (fun _ _ _ h => h) (Or.inl ⟨by rfl, ?_⟩) hHeld ?_ ?_
                  rotate_left
                  · rintro w' ⟨s0, s1⟩
                    go_simp
                    with_reducible rfl
                  rotate_left
                  · simp only [Act.put, List.setIfInBounds_toArray, List.set_cons_zero, List.set_cons_succ, i64_w, i32_w]
                    rfl
                  refine pure_ (i := 7) (N := some 60) (v := ?_) (a' := ?_) #[true, true, true, true, true, true, true, true, true, true, true, false, false, false, false, false, false, false, false, false] rfl rfl (by kernel_rfl) (fun _ _ _ h => h) (Or.inl ⟨by rfl, ?_⟩) ?_ ?_
                  rotate_left
                  · intro w'
                    go_simp
                    with_reducible rfl
                  rotate_left
                  · simp only [Act.put, List.setIfInBounds_toArray, List.set_cons_zero, List.set_cons_succ, i64_w, i32_w]
                    rfl
                  refine take_ (i := 11) (N := some 64) (v := ?_) (a' := ?_) #[true, true, true, true, true, true, true, true, true, true, true, true, false, false, false, false, false, false, false, false] rfl rfl (by kernel_rfl) (fun _ _ _ h => h) (Or.inl ⟨by rfl, ?_⟩) hHeld ?_ ?_
                  rotate_left
                  · rintro w' ⟨s0, s1⟩
                    go_simp
                    with_reducible rfl
                  rotate_left
                  · simp only [Act.put, List.setIfInBounds_toArray, List.set_cons_zero, List.set_cons_succ, i64_w, i32_w]
                    rfl
                  refine pure_ (i := 12) (N := some 65) (v := ?_) (a' := ?_) #[true, true, true, true, true, true, true, true, true, true, true, true, true, false, false, false, false, false, false, false] rfl rfl (by kernel_rfl) (fun _ _ _ h => h) (Or.inl ⟨by rfl, ?_⟩) ?_ ?_
                  rotate_left
                  · intro w'
                    go_simp
                    with_reducible rfl
                  rotate_left
                  · simp only [Act.put, List.setIfInBounds_toArray, List.set_cons_zero, List.set_cons_succ, i64_w, i32_w]
                    rfl
                  refine pure_ (i := 13) (N := some 66) (v := ?_) (a' := ?_) #[true, true, true, true, true, true, true, true, true, true, true, true, true, true, false, false, false, false, false, false] rfl rfl (by kernel_rfl) (fun _ _ _ h => h) (Or.inl ⟨by rfl, ?_⟩) ?_ ?_
                  rotate_left
                  · intro w'
                    go_simp
                    with_reducible rfl
                  rotate_left
                  · simp only [Act.put, List.setIfInBounds_toArray, List.set_cons_zero, List.set_cons_succ, i64_w, i32_w]
                    rfl
                  refine pure_ (i := 14) (N := some 67) (v := ?_) (a' := ?_) #[true, true, true, true, true, true, true, true, true, true, true, true, true, true, true, false, false, false, false, false] rfl rfl (by kernel_rfl) (fun _ _ _ h => h) (Or.inl ⟨by rfl, ?_⟩) ?_ ?_
                  rotate_left
                  · intro w'
                    go_simp
                    with_reducible rfl
                  rotate_left
                  · simp only [Act.put, List.setIfInBounds_toArray, List.set_cons_zero, List.set_cons_succ, i64_w, i32_w]
                    rfl
                  refine pure_ (i := 15) (N := some 68) (v := ?_) (a' := ?_) #[true, true, true, true, true, true, true, true, true, true, true, true, true, true, true, true, false, false, false, false] rfl rfl (by kernel_rfl) (fun _ _ _ h => h) (Or.inl ⟨by rfl, ?_⟩) ?_ ?_
                  rotate_left
                  · intro w'
                    go_simp
                    with_reducible rfl
                  rotate_left
                  · simp only [Act.put, List.setIfInBounds_toArray, List.set_cons_zero, List.set_cons_succ, i64_w, i32_w]
                    rfl
                  refine pure_ (i := 16) (N := some 69) (v := ?_) (a' := ?_) #[true, true, true, true, true, true, true, true, true, true, true, true, true, true, true, true, true, false, false, false] rfl rfl (by kernel_rfl) (fun _ _ _ h => h) (Or.inl ⟨by rfl, ?_⟩) ?_ ?_
                  rotate_left
                  · intro w'
                    go_simp
                    with_reducible rfl
                  rotate_left
                  · simp only [Act.put, List.setIfInBounds_toArray, List.set_cons_zero, List.set_cons_succ, i64_w, i32_w]
                    rfl
                  refine one_ (i := 17) (N := some 70) #[true, true, true, true, true, true, true, true, true, true, true, true, true, true, true, true, true, true, false, false] rfl rfl (by kernel_rfl) (by decide) (fun K hK => ?_)
                  refine goes_ Try.func99 (by kernel_rfl) rfl #[.pointer (some ⟨g, 0, none⟩), .int .i64 1, .int .u8 93] (by rfl) rfl rfl (by (try simp only [List.map_toArray, List.map_cons, List.map_nil]); first | done | rfl) ?_
                  with_reducible refine (HI1.out _ (below_step (below_drew (Below.refl w3.heap.size w3)) hb4)).mono ?_
                  rintro e w5 ⟨rfl, hb5⟩
                  refine ⟨_, rfl, ?_⟩
                  refine hK.out _ _ ⟨(pw_cell_below hb5 hHeld.1), (pw_cell_below hb5 hHeld.2)⟩ (fun hHeld => ?_)
                  clear hK K
                  refine norm_ (a' := ?_) ?_ ?_
                  rotate_left
                  · show Act.put _ (some 70) _ = _
                    simp only [Act.put, List.setIfInBounds_toArray, List.set_cons_zero, List.set_cons_succ, i64_w, i32_w]
                    rfl
                  refine pure_ (i := 18) (N := some 71) (v := ?_) (a' := ?_) #[true, true, true, true, true, true, true, true, true, true, true, true, true, true, true, true, true, true, true, false] rfl rfl (by kernel_rfl) (fun _ _ _ h => h) (Or.inl ⟨by rfl, ?_⟩) ?_ ?_
                  rotate_left
                  · intro w'
                    go_simp
                    with_reducible rfl
                  rotate_left
                  · simp only [Act.put, List.setIfInBounds_toArray, List.set_cons_zero, List.set_cons_succ, i64_w, i32_w]
                    rfl
                  refine pure_ (i := 19) (N := some 72) (v := ?_) (a' := ?_) #[true, true, true, true, true, true, true, true, true, true, true, true, true, true, true, true, true, true, true, true] rfl rfl (by kernel_rfl) (fun _ _ _ h => h) (Or.inl ⟨by rfl, ?_⟩) ?_ ?_
                  rotate_left
                  · intro w'
                    go_simp
                    with_reducible rfl
                  rotate_left
                  · simp only [Act.put, List.setIfInBounds_toArray, List.set_cons_zero, List.set_cons_succ, i64_w, i32_w]
                    rfl
                  refine done_ (by kernel_rfl) ?_
                  have HSZ := Aside0.mk (HS3.out.below (below_step (below_step (below_drew (Below.refl w3.heap.size w3)) hb4) hb5))
                  go_wp2_with fail
                  go_meet
                  exact ⟨by rw [HG.out], HSZ⟩
                | true =>
                  have HG := Aside0.mk (show bd = false by
                    have h1 := HB1.out
                    rw [g1', Bool.true_and, beq_iff_eq] at h1
                    rw [HD2.out, h1]
                    simp)
                  refine start_ (n := 20) (S := fun w' => w'.cell? ⟨g, 0, none⟩ = some (.string (strOfNums L)) ∧ w'.cell? ⟨g, 1, none⟩ = some (.int .i64 (b : Int))) (ds := []) #[false, false, false, false, false, false, false, false, false, false, false, false, false, false, false, false, false, false, false, false] (by kernel_rfl) rfl rfl ⟨x0, x1⟩ (fun hHeld => ?_)
                  refine pure_ (i := 0) (N := some 53) (v := ?_) (a' := ?_) #[true, false, false, false, false, false, false, false, false, false, false, false, false, false, false, false, false, false, false, false] rfl rfl (by kernel_rfl) (fun _ _ _ h => h) (Or.inl ⟨by rfl, ?_⟩) ?_ ?_
                  rotate_left
                  · intro w'
                    go_simp
                    with_reducible rfl
                  rotate_left
                  · simp only [Act.put, List.setIfInBounds_toArray, List.set_cons_zero, List.set_cons_succ, i64_w, i32_w]
                    rfl
                  refine one_ (i := 1) (N := some 54) #[true, true, false, false, false, false, false, false, false, false, false, false, false, false, false, false, false, false, false, false] rfl rfl (by kernel_rfl) (by decide) (fun K hK => ?_)
                  refine goes_ Try.func99 (by kernel_rfl) rfl #[.pointer (some ⟨g, 0, none⟩), .int .i64 0, .int .u8 45] (by rfl) rfl rfl (by (try simp only [List.map_toArray, List.map_cons, List.map_nil]); first | done | rfl) ?_
                  with_reducible refine (HI0.out _ (below_drew (Below.refl w3.heap.size w3))).mono ?_
                  rintro e w4 ⟨rfl, hb4⟩
                  refine ⟨_, rfl, ?_⟩
                  refine hK.out _ _ ⟨(pw_cell_below hb4 hHeld.1), (pw_cell_below hb4 hHeld.2)⟩ (fun hHeld => ?_)
                  clear hK K
                  refine norm_ (a' := ?_) ?_ ?_
                  rotate_left
                  · show Act.put _ (some 54) _ = _
                    simp only [Act.put, List.setIfInBounds_toArray, List.set_cons_zero, List.set_cons_succ, i64_w, i32_w]
                    rfl
                  refine pure_ (i := 2) (N := some 55) (v := ?_) (a' := ?_) #[true, true, true, false, false, false, false, false, false, false, false, false, false, false, false, false, false, false, false, false] rfl rfl (by kernel_rfl) (fun _ _ _ h => h) (Or.inl ⟨by rfl, ?_⟩) ?_ ?_
                  rotate_left
                  · intro w'
                    go_simp
                    with_reducible rfl
                  rotate_left
                  · simp only [Act.put, List.setIfInBounds_toArray, List.set_cons_zero, List.set_cons_succ, i64_w, i32_w]
                    rfl
                  refine pure_ (i := 3) (N := some 56) (v := ?_) (a' := ?_) #[true, true, true, true, false, false, false, false, false, false, false, false, false, false, false, false, false, false, false, false] rfl rfl (by kernel_rfl) (fun _ _ _ h => h) (Or.inl ⟨by rfl, ?_⟩) ?_ ?_
                  rotate_left
                  · intro w'
                    go_simp
                    with_reducible rfl
                  rotate_left
                  · simp only [Act.put, List.setIfInBounds_toArray, List.set_cons_zero, List.set_cons_succ, i64_w, i32_w]
                    rfl
                  refine pure_ (i := 4) (N := some 57) (v := ?_) (a' := ?_) #[true, true, true, true, true, false, false, false, false, false, false, false, false, false, false, false, false, false, false, false] rfl rfl (by kernel_rfl) (fun _ _ _ h => h) (Or.inl ⟨by rfl, ?_⟩) ?_ ?_
                  rotate_left
                  · intro w'
                    go_simp
                    with_reducible rfl
                  rotate_left
                  · simp only [Act.put, List.setIfInBounds_toArray, List.set_cons_zero, List.set_cons_succ, i64_w, i32_w]
                    rfl
                  refine pure_ (i := 5) (N := some 58) (v := ?_) (a' := ?_) #[true, true, true, true, true, true, false, false, false, false, false, false, false, false, false, false, false, false, false, false] rfl rfl (by kernel_rfl) (fun _ _ _ h => h) (Or.inl ⟨by rfl, ?_⟩) ?_ ?_
                  rotate_left
                  · intro w'
                    go_simp
                    with_reducible rfl
                  rotate_left
                  · simp only [Act.put, List.setIfInBounds_toArray, List.set_cons_zero, List.set_cons_succ, i64_w, i32_w]
                    rfl
                  refine pure_ (i := 8) (N := some 61) (v := ?_) (a' := ?_) #[true, true, true, true, true, true, false, false, true, false, false, false, false, false, false, false, false, false, false, false] rfl rfl (by kernel_rfl) (fun _ _ _ h => h) (Or.inl ⟨by rfl, ?_⟩) ?_ ?_
                  rotate_left
                  · intro w'
                    go_simp
                    with_reducible rfl
                  rotate_left
                  · simp only [Act.put, List.setIfInBounds_toArray, List.set_cons_zero, List.set_cons_succ, i64_w, i32_w]
                    rfl
                  refine pure_ (i := 9) (N := some 62) (v := ?_) (a' := ?_) #[true, true, true, true, true, true, false, false, true, true, false, false, false, false, false, false, false, false, false, false] rfl rfl (by kernel_rfl) (fun _ _ _ h => h) (Or.inl ⟨by rfl, ?_⟩) ?_ ?_
                  rotate_left
                  · intro w'
                    go_simp
                    with_reducible rfl
                  rotate_left
                  · simp only [Act.put, List.setIfInBounds_toArray, List.set_cons_zero, List.set_cons_succ, i64_w, i32_w]
                    rfl
                  refine pure_ (i := 10) (N := some 63) (v := ?_) (a' := ?_) #[true, true, true, true, true, true, false, false, true, true, true, false, false, false, false, false, false, false, false, false] rfl rfl (by kernel_rfl) (fun _ _ _ h => h) (Or.inl ⟨by rfl, ?_⟩) ?_ ?_
                  rotate_left
                  · intro w'
                    go_simp
                    with_reducible rfl
                  rotate_left
                  · simp only [Act.put, List.setIfInBounds_toArray, List.set_cons_zero, List.set_cons_succ, i64_w, i32_w]
                    rfl
                  refine take_ (i := 6) (N := some 59) (v := ?_) (a' := ?_) #[true, true, true, true, true, true, true, false, true, true, true, false, false, false, false, false, false, false, false, false] rfl rfl (by kernel_rfl) (fun _ _ _ h => h) (Or.inl ⟨by rfl, ?_⟩) hHeld ?_ ?_
                  rotate_left
                  · rintro w' ⟨s0, s1⟩
                    go_simp
                    with_reducible rfl
                  rotate_left
                  · simp only [Act.put, List.setIfInBounds_toArray, List.set_cons_zero, List.set_cons_succ, i64_w, i32_w]
                    rfl
                  refine pure_ (i := 7) (N := some 60) (v := ?_) (a' := ?_) #[true, true, true, true, true, true, true, true, true, true, true, false, false, false, false, false, false, false, false, false] rfl rfl (by kernel_rfl) (fun _ _ _ h => h) (Or.inl ⟨by rfl, ?_⟩) ?_ ?_
                  rotate_left
                  · intro w'
                    go_simp
                    with_reducible rfl
                  rotate_left
                  · simp only [Act.put, List.setIfInBounds_toArray, List.set_cons_zero, List.set_cons_succ, i64_w, i32_w]
                    rfl
                  refine take_ (i := 11) (N := some 64) (v := ?_) (a' := ?_) #[true, true, true, true, true, true, true, true, true, true, true, true, false, false, false, false, false, false, false, false] rfl rfl (by kernel_rfl) (fun _ _ _ h => h) (Or.inl ⟨by rfl, ?_⟩) hHeld ?_ ?_
                  rotate_left
                  · rintro w' ⟨s0, s1⟩
                    go_simp
                    with_reducible rfl
                  rotate_left
                  · simp only [Act.put, List.setIfInBounds_toArray, List.set_cons_zero, List.set_cons_succ, i64_w, i32_w]
                    rfl
                  refine pure_ (i := 12) (N := some 65) (v := ?_) (a' := ?_) #[true, true, true, true, true, true, true, true, true, true, true, true, true, false, false, false, false, false, false, false] rfl rfl (by kernel_rfl) (fun _ _ _ h => h) (Or.inl ⟨by rfl, ?_⟩) ?_ ?_
                  rotate_left
                  · intro w'
                    go_simp
                    with_reducible rfl
                  rotate_left
                  · simp only [Act.put, List.setIfInBounds_toArray, List.set_cons_zero, List.set_cons_succ, i64_w, i32_w]
                    rfl
                  refine pure_ (i := 13) (N := some 66) (v := ?_) (a' := ?_) #[true, true, true, true, true, true, true, true, true, true, true, true, true, true, false, false, false, false, false, false] rfl rfl (by kernel_rfl) (fun _ _ _ h => h) (Or.inl ⟨by rfl, ?_⟩) ?_ ?_
                  rotate_left
                  · intro w'
                    go_simp
                    with_reducible rfl
                  rotate_left
                  · simp only [Act.put, List.setIfInBounds_toArray, List.set_cons_zero, List.set_cons_succ, i64_w, i32_w]
                    rfl
                  refine pure_ (i := 14) (N := some 67) (v := ?_) (a' := ?_) #[true, true, true, true, true, true, true, true, true, true, true, true, true, true, true, false, false, false, false, false] rfl rfl (by kernel_rfl) (fun _ _ _ h => h) (Or.inl ⟨by rfl, ?_⟩) ?_ ?_
                  rotate_left
                  · intro w'
                    go_simp
                    with_reducible rfl
                  rotate_left
                  · simp only [Act.put, List.setIfInBounds_toArray, List.set_cons_zero, List.set_cons_succ, i64_w, i32_w]
                    rfl
                  refine pure_ (i := 15) (N := some 68) (v := ?_) (a' := ?_) #[true, true, true, true, true, true, true, true, true, true, true, true, true, true, true, true, false, false, false, false] rfl rfl (by kernel_rfl) (fun _ _ _ h => h) (Or.inl ⟨by rfl, ?_⟩) ?_ ?_
                  rotate_left
                  · intro w'
                    go_simp
                    with_reducible rfl
                  rotate_left
                  · simp only [Act.put, List.setIfInBounds_toArray, List.set_cons_zero, List.set_cons_succ, i64_w, i32_w]
                    rfl
                  refine pure_ (i := 16) (N := some 69) (v := ?_) (a' := ?_) #[true, true, true, true, true, true, true, true, true, true, true, true, true, true, true, true, true, false, false, false] rfl rfl (by kernel_rfl) (fun _ _ _ h => h) (Or.inl ⟨by rfl, ?_⟩) ?_ ?_
                  rotate_left
                  · intro w'
                    go_simp
                    with_reducible rfl
                  rotate_left
                  · simp only [Act.put, List.setIfInBounds_toArray, List.set_cons_zero, List.set_cons_succ, i64_w, i32_w]
                    rfl
                  refine one_ (i := 17) (N := some 70) #[true, true, true, true, true, true, true, true, true, true, true, true, true, true, true, true, true, true, false, false] rfl rfl (by kernel_rfl) (by decide) (fun K hK => ?_)
                  refine goes_ Try.func99 (by kernel_rfl) rfl #[.pointer (some ⟨g, 0, none⟩), .int .i64 1, .int .u8 93] (by rfl) rfl rfl (by (try simp only [List.map_toArray, List.map_cons, List.map_nil]); first | done | rfl) ?_
                  with_reducible refine (HI1.out _ (below_step (below_drew (Below.refl w3.heap.size w3)) hb4)).mono ?_
                  rintro e w5 ⟨rfl, hb5⟩
                  refine ⟨_, rfl, ?_⟩
                  refine hK.out _ _ ⟨(pw_cell_below hb5 hHeld.1), (pw_cell_below hb5 hHeld.2)⟩ (fun hHeld => ?_)
                  clear hK K
                  refine norm_ (a' := ?_) ?_ ?_
                  rotate_left
                  · show Act.put _ (some 70) _ = _
                    simp only [Act.put, List.setIfInBounds_toArray, List.set_cons_zero, List.set_cons_succ, i64_w, i32_w]
                    rfl
                  refine pure_ (i := 18) (N := some 71) (v := ?_) (a' := ?_) #[true, true, true, true, true, true, true, true, true, true, true, true, true, true, true, true, true, true, true, false] rfl rfl (by kernel_rfl) (fun _ _ _ h => h) (Or.inl ⟨by rfl, ?_⟩) ?_ ?_
                  rotate_left
                  · intro w'
                    go_simp
                    with_reducible rfl
                  rotate_left
                  · simp only [Act.put, List.setIfInBounds_toArray, List.set_cons_zero, List.set_cons_succ, i64_w, i32_w]
                    rfl
                  refine pure_ (i := 19) (N := some 72) (v := ?_) (a' := ?_) #[true, true, true, true, true, true, true, true, true, true, true, true, true, true, true, true, true, true, true, true] rfl rfl (by kernel_rfl) (fun _ _ _ h => h) (Or.inl ⟨by rfl, ?_⟩) ?_ ?_
                  rotate_left
                  · intro w'
                    go_simp
                    with_reducible rfl
                  rotate_left
                  · simp only [Act.put, List.setIfInBounds_toArray, List.set_cons_zero, List.set_cons_succ, i64_w, i32_w]
                    rfl
                  refine done_ (by kernel_rfl) ?_
                  have HSZ := Aside0.mk (HS3.out.below (below_step (below_step (below_drew (Below.refl w3.heap.size w3)) hb4) hb5))
                  go_wp2_with fail
                  go_meet
                  exact ⟨by rw [HG.out], HSZ⟩
              · have g1 : decide ((b : Int) + 1 < (N : Int)) = false := decide_eq_false (by omega)
                have g1' : decide (b + 1 < N) = false := decide_eq_false c1
                have HG := Aside0.mk (show bd = false by rw [HD2.out, g1', Bool.false_and])
                refine start_ (n := 20) (S := fun w' => w'.cell? ⟨g, 0, none⟩ = some (.string (strOfNums L)) ∧ w'.cell? ⟨g, 1, none⟩ = some (.int .i64 (b : Int))) (ds := []) #[false, false, false, false, false, false, false, false, false, false, false, false, false, false, false, false, false, false, false, false] (by kernel_rfl) rfl rfl ⟨x0, x1⟩ (fun hHeld => ?_)
                refine pure_ (i := 0) (N := some 53) (v := ?_) (a' := ?_) #[true, false, false, false, false, false, false, false, false, false, false, false, false, false, false, false, false, false, false, false] rfl rfl (by kernel_rfl) (fun _ _ _ h => h) (Or.inl ⟨by rfl, ?_⟩) ?_ ?_
                rotate_left
                · intro w'
                  go_simp
                  with_reducible rfl
                rotate_left
                · simp only [Act.put, List.setIfInBounds_toArray, List.set_cons_zero, List.set_cons_succ, i64_w, i32_w]
                  rfl
                refine one_ (i := 1) (N := some 54) #[true, true, false, false, false, false, false, false, false, false, false, false, false, false, false, false, false, false, false, false] rfl rfl (by kernel_rfl) (by decide) (fun K hK => ?_)
                refine goes_ Try.func99 (by kernel_rfl) rfl #[.pointer (some ⟨g, 0, none⟩), .int .i64 0, .int .u8 45] (by rfl) rfl rfl (by (try simp only [List.map_toArray, List.map_cons, List.map_nil]); first | done | rfl) ?_
                with_reducible refine (HI0.out _ (below_drew (Below.refl w3.heap.size w3))).mono ?_
                rintro e w4 ⟨rfl, hb4⟩
                refine ⟨_, rfl, ?_⟩
                refine hK.out _ _ ⟨(pw_cell_below hb4 hHeld.1), (pw_cell_below hb4 hHeld.2)⟩ (fun hHeld => ?_)
                clear hK K
                refine norm_ (a' := ?_) ?_ ?_
                rotate_left
                · show Act.put _ (some 54) _ = _
                  simp only [Act.put, List.setIfInBounds_toArray, List.set_cons_zero, List.set_cons_succ, i64_w, i32_w]
                  rfl
                refine pure_ (i := 2) (N := some 55) (v := ?_) (a' := ?_) #[true, true, true, false, false, false, false, false, false, false, false, false, false, false, false, false, false, false, false, false] rfl rfl (by kernel_rfl) (fun _ _ _ h => h) (Or.inl ⟨by rfl, ?_⟩) ?_ ?_
                rotate_left
                · intro w'
                  go_simp
                  with_reducible rfl
                rotate_left
                · simp only [Act.put, List.setIfInBounds_toArray, List.set_cons_zero, List.set_cons_succ, i64_w, i32_w]
                  rfl
                refine pure_ (i := 3) (N := some 56) (v := ?_) (a' := ?_) #[true, true, true, true, false, false, false, false, false, false, false, false, false, false, false, false, false, false, false, false] rfl rfl (by kernel_rfl) (fun _ _ _ h => h) (Or.inl ⟨by rfl, ?_⟩) ?_ ?_
                rotate_left
                · intro w'
                  go_simp
                  with_reducible rfl
                rotate_left
                · simp only [Act.put, List.setIfInBounds_toArray, List.set_cons_zero, List.set_cons_succ, i64_w, i32_w]
                  rfl
                refine pure_ (i := 4) (N := some 57) (v := ?_) (a' := ?_) #[true, true, true, true, true, false, false, false, false, false, false, false, false, false, false, false, false, false, false, false] rfl rfl (by kernel_rfl) (fun _ _ _ h => h) (Or.inl ⟨by rfl, ?_⟩) ?_ ?_
                rotate_left
                · intro w'
                  go_simp
                  with_reducible rfl
                rotate_left
                · simp only [Act.put, List.setIfInBounds_toArray, List.set_cons_zero, List.set_cons_succ, i64_w, i32_w]
                  rfl
                refine pure_ (i := 5) (N := some 58) (v := ?_) (a' := ?_) #[true, true, true, true, true, true, false, false, false, false, false, false, false, false, false, false, false, false, false, false] rfl rfl (by kernel_rfl) (fun _ _ _ h => h) (Or.inl ⟨by rfl, ?_⟩) ?_ ?_
                rotate_left
                · intro w'
                  go_simp
                  with_reducible rfl
                rotate_left
                · simp only [Act.put, List.setIfInBounds_toArray, List.set_cons_zero, List.set_cons_succ, i64_w, i32_w]
                  rfl
                refine pure_ (i := 8) (N := some 61) (v := ?_) (a' := ?_) #[true, true, true, true, true, true, false, false, true, false, false, false, false, false, false, false, false, false, false, false] rfl rfl (by kernel_rfl) (fun _ _ _ h => h) (Or.inl ⟨by rfl, ?_⟩) ?_ ?_
                rotate_left
                · intro w'
                  go_simp
                  with_reducible rfl
                rotate_left
                · simp only [Act.put, List.setIfInBounds_toArray, List.set_cons_zero, List.set_cons_succ, i64_w, i32_w]
                  rfl
                refine pure_ (i := 9) (N := some 62) (v := ?_) (a' := ?_) #[true, true, true, true, true, true, false, false, true, true, false, false, false, false, false, false, false, false, false, false] rfl rfl (by kernel_rfl) (fun _ _ _ h => h) (Or.inl ⟨by rfl, ?_⟩) ?_ ?_
                rotate_left
                · intro w'
                  go_simp
                  with_reducible rfl
                rotate_left
                · simp only [Act.put, List.setIfInBounds_toArray, List.set_cons_zero, List.set_cons_succ, i64_w, i32_w]
                  rfl
                refine pure_ (i := 10) (N := some 63) (v := ?_) (a' := ?_) #[true, true, true, true, true, true, false, false, true, true, true, false, false, false, false, false, false, false, false, false] rfl rfl (by kernel_rfl) (fun _ _ _ h => h) (Or.inl ⟨by rfl, ?_⟩) ?_ ?_
                rotate_left
                · intro w'
                  go_simp
                  with_reducible rfl
                rotate_left
                · simp only [Act.put, List.setIfInBounds_toArray, List.set_cons_zero, List.set_cons_succ, i64_w, i32_w]
                  rfl
                refine take_ (i := 6) (N := some 59) (v := ?_) (a' := ?_) #[true, true, true, true, true, true, true, false, true, true, true, false, false, false, false, false, false, false, false, false] rfl rfl (by kernel_rfl) (fun _ _ _ h => h) (Or.inl ⟨by rfl, ?_⟩) hHeld ?_ ?_
                rotate_left
                · rintro w' ⟨s0, s1⟩
                  go_simp
                  with_reducible rfl
                rotate_left
                · simp only [Act.put, List.setIfInBounds_toArray, List.set_cons_zero, List.set_cons_succ, i64_w, i32_w]
                  rfl
                refine pure_ (i := 7) (N := some 60) (v := ?_) (a' := ?_) #[true, true, true, true, true, true, true, true, true, true, true, false, false, false, false, false, false, false, false, false] rfl rfl (by kernel_rfl) (fun _ _ _ h => h) (Or.inl ⟨by rfl, ?_⟩) ?_ ?_
                rotate_left
                · intro w'
                  go_simp
                  with_reducible rfl
                rotate_left
                · simp only [Act.put, List.setIfInBounds_toArray, List.set_cons_zero, List.set_cons_succ, i64_w, i32_w]
                  rfl
                refine take_ (i := 11) (N := some 64) (v := ?_) (a' := ?_) #[true, true, true, true, true, true, true, true, true, true, true, true, false, false, false, false, false, false, false, false] rfl rfl (by kernel_rfl) (fun _ _ _ h => h) (Or.inl ⟨by rfl, ?_⟩) hHeld ?_ ?_
                rotate_left
                · rintro w' ⟨s0, s1⟩
                  go_simp
                  with_reducible rfl
                rotate_left
                · simp only [Act.put, List.setIfInBounds_toArray, List.set_cons_zero, List.set_cons_succ, i64_w, i32_w]
                  rfl
                refine pure_ (i := 12) (N := some 65) (v := ?_) (a' := ?_) #[true, true, true, true, true, true, true, true, true, true, true, true, true, false, false, false, false, false, false, false] rfl rfl (by kernel_rfl) (fun _ _ _ h => h) (Or.inl ⟨by rfl, ?_⟩) ?_ ?_
                rotate_left
                · intro w'
                  go_simp
                  with_reducible rfl
                rotate_left
                · simp only [Act.put, List.setIfInBounds_toArray, List.set_cons_zero, List.set_cons_succ, i64_w, i32_w]
                  rfl
                refine pure_ (i := 13) (N := some 66) (v := ?_) (a' := ?_) #[true, true, true, true, true, true, true, true, true, true, true, true, true, true, false, false, false, false, false, false] rfl rfl (by kernel_rfl) (fun _ _ _ h => h) (Or.inl ⟨by rfl, ?_⟩) ?_ ?_
                rotate_left
                · intro w'
                  go_simp
                  with_reducible rfl
                rotate_left
                · simp only [Act.put, List.setIfInBounds_toArray, List.set_cons_zero, List.set_cons_succ, i64_w, i32_w]
                  rfl
                refine pure_ (i := 14) (N := some 67) (v := ?_) (a' := ?_) #[true, true, true, true, true, true, true, true, true, true, true, true, true, true, true, false, false, false, false, false] rfl rfl (by kernel_rfl) (fun _ _ _ h => h) (Or.inl ⟨by rfl, ?_⟩) ?_ ?_
                rotate_left
                · intro w'
                  go_simp
                  with_reducible rfl
                rotate_left
                · simp only [Act.put, List.setIfInBounds_toArray, List.set_cons_zero, List.set_cons_succ, i64_w, i32_w]
                  rfl
                refine pure_ (i := 15) (N := some 68) (v := ?_) (a' := ?_) #[true, true, true, true, true, true, true, true, true, true, true, true, true, true, true, true, false, false, false, false] rfl rfl (by kernel_rfl) (fun _ _ _ h => h) (Or.inl ⟨by rfl, ?_⟩) ?_ ?_
                rotate_left
                · intro w'
                  go_simp
                  with_reducible rfl
                rotate_left
                · simp only [Act.put, List.setIfInBounds_toArray, List.set_cons_zero, List.set_cons_succ, i64_w, i32_w]
                  rfl
                refine pure_ (i := 16) (N := some 69) (v := undef) (a' := ?_) #[true, true, true, true, true, true, true, true, true, true, true, true, true, true, true, true, true, false, false, false] rfl rfl (by kernel_rfl) (fun _ _ _ h => h) (Or.inr ⟨by rfl, rfl⟩) ?_ ?_
                rotate_left
                · simp only [Act.put, List.setIfInBounds_toArray, List.set_cons_zero, List.set_cons_succ, i64_w, i32_w]
                  rfl
                refine pure_ (i := 17) (N := some 70) (v := undef) (a' := ?_) #[true, true, true, true, true, true, true, true, true, true, true, true, true, true, true, true, true, true, false, false] rfl rfl (by kernel_rfl) (fun _ _ _ h => h) (Or.inr ⟨by rfl, rfl⟩) ?_ ?_
                rotate_left
                · simp only [Act.put, List.setIfInBounds_toArray, List.set_cons_zero, List.set_cons_succ, i64_w, i32_w]
                  rfl
                refine pure_ (i := 18) (N := some 71) (v := undef) (a' := ?_) #[true, true, true, true, true, true, true, true, true, true, true, true, true, true, true, true, true, true, true, false] rfl rfl (by kernel_rfl) (fun _ _ _ h => h) (Or.inr ⟨by rfl, rfl⟩) ?_ ?_
                rotate_left
                · simp only [Act.put, List.setIfInBounds_toArray, List.set_cons_zero, List.set_cons_succ, i64_w, i32_w]
                  rfl
                refine pure_ (i := 19) (N := some 72) (v := ?_) (a' := ?_) #[true, true, true, true, true, true, true, true, true, true, true, true, true, true, true, true, true, true, true, true] rfl rfl (by kernel_rfl) (fun _ _ _ h => h) (Or.inl ⟨by rfl, ?_⟩) ?_ ?_
                rotate_left
                · intro w'
                  go_simp
                  with_reducible rfl
                rotate_left
                · simp only [Act.put, List.setIfInBounds_toArray, List.set_cons_zero, List.set_cons_succ, i64_w, i32_w]
                  rfl
                refine done_ (by kernel_rfl) ?_
                have HSZ := Aside0.mk (HS3.out.below (below_step (below_drew (Below.refl w3.heap.size w3)) hb4))
                go_wp2_with fail
                go_meet
                exact ⟨by rw [HG.out], HSZ⟩
          case rest =>
          obtain ⟨rfl, HS4⟩ := hcut
          clear HS3
          go_upto_if 72 with fail
          go_cut [6] (fun v6 wx => ∃ (high : Int) (ok2 : Bool) (b2 : Nat), v6 = .int .u8 high ∧ a ≤ b2 ∧ b2 ≤ N ∧ 0 ≤ high ∧ high ≤ 255 ∧ Aside0 (ok2 = true → q1 < b2) ∧ Aside0 (rngP (L.drop q1) = if ok2 = true ∧ d ≤ high then some ((d, high), L.drop b2) else none) ∧ Aside0 (RSt w wx g gr L n b2 neg ys (!ok2)))
          case first =>
            cases bd with
            | false =>
              go_wp2_with fail
              go_meet
              exact ⟨d, ok1, b, rfl, by omega, hbN, hd0, hd1, HBL, Aside0.mk (rng_no (l := L.drop q1) HLT.out HBD.out), HS4⟩
            | true =>
              have hb2 : b + 1 < N := by
                have := HBD.out
                rw [dashB, Bool.and_eq_true, decide_eq_true_eq, List.length_drop, HN.out] at this
                omega
              have hi1 : ok1 = true := by
                cases ok1 with
                | true => rfl
                | false => have := HBE.out rfl; rw [HN.out] at this; omega
              subst hi1
              have x1 := HS4.out.r.c1
              have f1 := HS4.out.r.fz 1
              have v1 : IntKind.i64.wrap ((b : Int) + 1) = (b : Int) + 1 := by rw [IntKind.wrap_i64]; omega
              go_upto_region 15 with fail
              have HS5 := Aside0.mk (HS4.out.next (b' := b + 1) (by have := HS4.out.r.s1 ((b : Int) + 1); exact this) (Kp.set wc ⟨g, 1, none⟩ (.int .i64 ((b : Int) + 1))) HGL.out)
              obtain ⟨w5, hw5⟩ : ∃ x, wc.setCell ⟨g, 1, none⟩ (.int .i64 ((b : Int) + 1)) = x := ⟨_, rfl⟩
              rw [hw5] at HS5 ⊢
              clear hw5 x1 f1 v1
              have hblt := HBL.out rfl
              go_wp2_with fail
              with_reducible refine (rByte_calls _ g L (b + 1) n (!true) HS5.out.r HIB.out HL.out (by rw [HN.out]; omega)).mono ?_
              rintro e w6 ⟨d2, ok2, b2, rfl, hab2, hbN2, _, _, hlt2, hh0, hh1, hr, hk⟩
              rw [Bool.not_true, Bool.false_or] at hr
              have HS6 := Aside0.mk (HS5.out.next hr hk HGL.out)
              have HLT2 := Aside0.mk hlt2
              rw [HN.out] at hbN2
              clear hr hk hlt2
              go_wp2_with fail
              go_meet
              exact ⟨d2, ok2, b2, rfl, by omega, hbN2, hh0, hh1, Aside0.mk (fun _ => by omega), Aside0.mk (rng_yes (l := L.drop q1) (by simpa using HLT.out) HBD.out (by rw [List.drop_drop]; exact HLT2.out)), HS6⟩
          case rest =>
          obtain ⟨high, ok2, b2, rfl, hab2, hbN2, hh0, hh1, HB2, HRG, HS5⟩ := hcut
          clear HS4
          obtain ⟨good, hgood⟩ : ∃ x, (ok2 && decide (d ≤ high)) = x := ⟨_, rfl⟩
          have HGD := Aside0.mk hgood
          clear hgood
          obtain ⟨lo, rfl⟩ := Int.eq_ofNat_of_zero_le hd0
          obtain ⟨hi, rfl⟩ := Int.eq_ofNat_of_zero_le hh0
          have HNX := Aside0.mk (show RES = (if good = true then setP f' (L.drop b2) false (acc ++ [((lo : Int), (hi : Int))]) else none) from by
            by_cases hne : L.drop q1 = []
            · have h1 := HSP.out
              rw [setP_nil _ _ _ _ hne] at h1
              rw [← h1]
              have h2 := HRG.out
              rw [hne] at h2
              have h3 : rngP ([] : List Int) = none := rfl
              rw [h3] at h2
              cases good with
              | false => rfl
              | true =>
                have := HGD.out
                rw [Bool.and_eq_true, decide_eq_true_eq] at this
                rw [if_pos this] at h2
                cases h2
            · have h1 := HSP.out
              rw [setP_step f' (L.drop q1) _ acc hne HNC.out, HRG.out] at h1
              rw [← h1]
              cases good with
              | true =>
                have := HGD.out
                rw [Bool.and_eq_true, decide_eq_true_eq] at this
                rw [if_pos this, if_pos rfl]
              | false =>
                have := HGD.out
                rw [Bool.and_eq_false_iff, decide_eq_false_iff_not] at this
                rw [if_neg (fun h => by rcases this with h3 | h3
                                        · rw [h.1] at h3; cases h3
                                        · exact h3 h.2), if_neg (by decide)])
          go_upto_region 16 with fail
          go_cut [84] (fun v84 wx => v84 = .bool (decide ((hi : Int) < (lo : Int))) ∧ wx = wc)
          case first =>
            by_cases c5 : (hi : Int) < (lo : Int)
            · have g5 : decide ((hi : Int) < (lo : Int)) = true := decide_eq_true c5
              have g5' : decide (hi < lo) = true := decide_eq_true (by omega)
              go_wp2_with fail
              go_meet
              exact ⟨by simp; omega, rfl⟩
            · have g5 : decide ((hi : Int) < (lo : Int)) = false := decide_eq_false c5
              have g5' : decide (hi < lo) = false := decide_eq_false (by omega)
              go_wp2_with fail
              go_meet
              exact ⟨by simp; omega, rfl⟩
          case rest =>
          obtain ⟨rfl, rfl⟩ := hcut
          go_upto_if 84 with fail
          go_cut [] (fun wx => Aside0 (RSt w wx g gr L n b2 neg ys (!good)))
          case first =>
            by_cases c5 : hi < lo
            · have g5 : decide ((hi : Int) < (lo : Int)) = true := decide_eq_true (by omega)
              have g5' : decide (hi < lo) = true := decide_eq_true c5
              have HGF := Aside0.mk (show good = false by rw [← HGD.out, Bool.and_eq_false_iff, decide_eq_false_iff_not]; exact .inr (by omega))
              have x3 := HS5.out.r.c3
              have f3 := HS5.out.r.fz 3
              go_wp2_with fail
              go_meet
              exact Aside0.mk (by rw [HGF.out]; exact HS5.out.next (b' := b2) (HS5.out.r.s3 true) (Kp.set wc ⟨g, 3, none⟩ (.bool true)) HGL.out)
            · have g5 : decide ((hi : Int) < (lo : Int)) = false := decide_eq_false (by omega)
              have g5' : decide (hi < lo) = false := decide_eq_false c5
              have HGF := Aside0.mk (show good = ok2 by rw [← HGD.out, decide_eq_true (show (lo : Int) ≤ (hi : Int) by omega), Bool.and_true])
              go_wp2_with fail
              go_meet
              exact Aside0.mk (by rw [HGF.out]; exact HS5.out)
          case rest =>
          have HS6 := hcut
          clear HS5
          have HY0 := Aside0.mk (show good = true → ys = tabI (acc ++ [((lo : Int), (lo : Int) - 1)]) from fun _ => by rw [tabI_start]; exact HY.out)
          go_wp2_with fail
          go_loopg [7] 257 (fun kq v7 w' => ∃ (x : Nat) (ys2 : List Bool), v7 = .int .i64 (x : Int) ∧ lo ≤ x ∧ (x ≤ hi + 1 ∨ x = lo) ∧ 257 ≤ x + kq ∧ ys2.length = 256 ∧ Aside0 (good = true → ys2 = tabI (acc ++ [((lo : Int), (x : Int) - 1)])) ∧ Aside0 (RSt w w' g gr L n b2 neg ys2 (!good)))
          case atStart => exact ⟨lo, ys, rfl, Nat.le_refl _, .inr rfl, by omega, hyl, HY0, HS6⟩
          case round =>
            obtain ⟨x, ys2, rfl, hx0, hx1, hxk, hyl2, HYX, HSX⟩ := hrel
            by_cases cx : x ≤ hi
            · have g1 : decide ((x : Int) ≤ (hi : Int)) = true := decide_eq_true (by omega)
              have g1' : decide (x ≤ hi) = true := decide_eq_true cx
              have hx256 : x < 256 := by omega
              have hx256' : (x : Int) < 256 := by omega
              have q2 : wr.cell? ⟨gr + 2, 2, none⟩ = some (.slice (some ⟨gr + 1, 0, none⟩) 256 256) := blk_cell HSX.out.p 2
              have y0 : wr.cell? ⟨gr + 1, x, none⟩ = some (.bool (ys2.getD x false)) := HSX.out.o.cell x (by rw [hyl2]; exact hx256)
              have f0 : wr.frozen? ⟨gr + 1, x, none⟩ = false := blk_frozen HSX.out.o x
              have wi : IntKind.i64.wrap ((x : Int) + 1) = (x : Int) + 1 := by rw [IntKind.wrap_i64]; omega
              have HYN := Aside0.mk (show good = true → ys2.set x true = tabI (acc ++ [((lo : Int), ((x + 1 : Nat) : Int) - 1)]) from fun h => by
                rw [HYX.out h, show ((x + 1 : Nat) : Int) - 1 = (x : Int) by omega]
                exact tabI_step acc (lo : Int) x (by omega))
              have HSN := Aside0.mk (HSX.out.set HGL.out HGR.out x true)
              go_wp2_with fail
              go_roundg (gk - 1)
              case measure => omega
              case rel => exact ⟨x + 1, ys2.set x true, by go_num, by omega, .inl (by omega), by omega, by rw [List.length_set]; exact hyl2, HYN, HSN⟩
            · have g1 : decide ((x : Int) ≤ (hi : Int)) = false := decide_eq_false (by omega)
              have g1' : decide (x ≤ hi) = false := decide_eq_false cx
              have HYE := Aside0.mk (show good = true → ys2 = tabI (acc ++ [((lo : Int), (hi : Int))]) from fun h => by
                have hg := HGD.out
                rw [h, Bool.and_eq_true, decide_eq_true_eq] at hg
                have e : x = hi + 1 := by omega
                have := HYX.out h
                rwa [e, show ((hi + 1 : Nat) : Int) - 1 = (hi : Int) by omega] at this)
              have HS7 := HSX
              have wi : IntKind.i64.wrap ((i : Int) + 1) = (i : Int) + 1 := by rw [IntKind.wrap_i64]; omega
              cases good with
              | false =>
                go_wp2_with fail
                go_roundg (gko - 1)
                case measure => omega
                case rel => exact ⟨i + 1, b2, ys2, true, by go_num, hab2, hbN2, hyl2, by omega, HS7, .inl ⟨rfl, Aside0.mk (by have := HNX.out; simpa using this)⟩⟩
              | true =>
                have hok2 : ok2 = true := by have := HGD.out; rw [Bool.and_eq_true] at this; exact this.1
                have hb2 := HB2.out hok2
                go_wp2_with fail
                go_roundg (gko - 1)
                case measure => omega
                case rel => exact ⟨i + 1, b2, ys2, false, by go_num, hab2, hbN2, hyl2, by omega, HS7, .inr ⟨rfl, by omega, by omega, f', acc ++ [((lo : Int), (hi : Int))], by omega, Aside0.mk (by first | exact HYE.out rfl | exact HYE.out trivial), Aside0.mk (by have := HNX.out; rw [decide_eq_false (by omega)]; simpa using this.symm)⟩⟩
  case rest =>
  obtain ⟨b, ys, hab, hbN, hyl, HRN, HSE⟩ := hcut
  have HFQ := Aside0.mk (show setQ (L.drop a) = none by rw [HQR.out, HRN.out]; rfl)
  have x3 := HSE.out.r.c3
  have f3 := HSE.out.r.fz 3
  go_upto_region 23 with fail
  have HS4 := Aside0.mk (HSE.out.next (b' := b) (HSE.out.r.s3 true) (Kp.set wc ⟨g, 3, none⟩ (.bool true)) HGL.out)
  obtain ⟨w4, hw4⟩ : ∃ x, wc.setCell ⟨g, 3, none⟩ (.bool true) = x := ⟨_, rfl⟩
  rw [hw4] at HS4 ⊢
  clear hw4 x3 f3
  have HT := Aside0.mk (show w4.there gr 0 (#[.int .i64 3, .int .u8 0, .slice (some ⟨gr + 1, 0, none⟩) 256 256, .bool neg] : Array Value).size by have := there_blk HS4.out.z; exact this)
  have q0 : w4.cell? ⟨gr + 2, 0, none⟩ = some (.int .i64 3) := blk_cell HS4.out.p 0
  have q1 : w4.cell? ⟨gr + 2, 1, none⟩ = some (.int .u8 0) := blk_cell HS4.out.p 1
  have q2 : w4.cell? ⟨gr + 2, 2, none⟩ = some (.slice (some ⟨gr + 1, 0, none⟩) 256 256) := blk_cell HS4.out.p 2
  have q3 : w4.cell? ⟨gr + 2, 3, none⟩ = some (.bool neg) := blk_cell HS4.out.p 3
  go_wp2_with (first | (refine wpList_store_mid rfl 109 (.tmp 2) (.tmp 103) rfl gr 0 #[.int .i64 3, .int .u8 0, .slice (some ⟨gr + 1, 0, none⟩) 256 256, .bool neg] rfl rfl HT.out info4 (z4_ones _ _ _ _ _ _) ?_) | fail)
  exact bodyPost_ret (results_cell (i := 2) rfl rfl (run_loadVar_mid _ gr 0 109 (#[.int .i64 3, .int .u8 0, .slice (some ⟨gr + 1, 0, none⟩) 256 256, .bool neg] : Array Value).toList _ (World.rangeAt_setCells_same _ _ _ _ HT.out) Try.underlying109 rfl info4)) rfl (HS4.out.done (ok := false) (ins := []) HGL.out HGR.out rfl rfl hyl hab (by rw [HN.out]; exact hbN) (by rw [HFQ.out]; rfl) (fun h => by cases h))
end Go.Proofs.Ytplmdgimodgekaa
