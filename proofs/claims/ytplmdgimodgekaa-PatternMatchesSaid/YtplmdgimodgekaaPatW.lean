/- Patterns: for which texts parts stand, in the document: the table of places. -/
import Derived.Test.YtplmdgimodgekaaPatV
namespace Go.Proofs.Ytplmdgimodgekaa
open Go.RowKit Go.Proofs.YtplmdgimodgekaaW.PrintWords Go.Proofs.YtplmdgimodgekaaW.PrintLast Go.Proofs.YtplmdgimodgekaaW.PrintMore
attribute [local go_sem] max2_int min2_int max_two min_two max_three min_three max_four min_four   -- for this text's walks alone
set_option linter.unusedVariables false
set_option linter.unusedSimpArgs false

/-- The table's row behind some parts. -/
def rowM (fold : Bool) (l : List Pt) (s : List Int) : List Bool := (List.range (s.length + 1)).map fun (a : Nat) => mtB fold l (s.take a)
/-- The row, filled up to a place. -/
def rowF (fold : Bool) (l : List Pt) (s : List Int) (n : Nat) : List Bool := (List.range (s.length + 1)).map fun (a : Nat) => decide (a < n) && mtB fold l (s.take a)
section
variable {fold : Bool} {l : List Pt} {s : List Int} {n : Nat}
theorem rowM_len : (rowM fold l s).length = s.length + 1 := by simp [rowM]
theorem rowF_len : (rowF fold l s n).length = s.length + 1 := by simp [rowF]
theorem rowM_at (a : Nat) (h : a ≤ s.length) : (rowM fold l s).getD a false = mtB fold l (s.take a) := by
  rw [List.getD_eq_getElem?_getD, rowM, List.getElem?_map, List.getElem?_range (by omega)]; rfl
theorem rowF_at (a : Nat) (h : a ≤ s.length) : (rowF fold l s n).getD a false = (decide (a < n) && mtB fold l (s.take a)) := by
  rw [List.getD_eq_getElem?_getD, rowF, List.getElem?_map, List.getElem?_range (by omega)]; rfl
theorem rowF_get (i : Nat) (h : i < (rowF fold l s n).length) : (rowF fold l s n)[i] = (decide (i < n) && mtB fold l (s.take i)) := by simp [rowF]
theorem rowM_get (i : Nat) (h : i < (rowM fold l s).length) : (rowM fold l s)[i] = mtB fold l (s.take i) := by simp [rowM]
theorem rowF_zero : rowF fold l s 0 = List.replicate (s.length + 1) false := by
  apply List.ext_getElem
  · rw [rowF_len, List.length_replicate]
  · intro i h1 h2
    rw [rowF_get, List.getElem_replicate]; rfl
theorem rowF_all : rowF fold l s (s.length + 1) = rowM fold l s := by
  apply List.ext_getElem
  · rw [rowF_len, rowM_len]
  · intro i h1 h2
    rw [rowF_len] at h1
    rw [rowF_get, rowM_get, decide_eq_true h1, Bool.true_and]
theorem rowF_set (h : n ≤ s.length) : (rowF fold l s n).set n (mtB fold l (s.take n)) = rowF fold l s (n + 1) := by
  apply List.ext_getElem
  · rw [List.length_set, rowF_len, rowF_len]
  · intro i h1 h2
    rw [List.getElem_set, rowF_get, rowF_get]
    by_cases e : n = i
    · subst e; rw [if_pos rfl, decide_eq_true (by omega), Bool.true_and]
    · rw [if_neg e]
      congr 1
      rw [Bool.eq_iff_iff, decide_eq_true_iff, decide_eq_true_iff]
      omega
theorem rowF_same (h : mtB fold l (s.take n) = false) : rowF fold l s n = rowF fold l s (n + 1) := by
  apply List.ext_getElem
  · rw [rowF_len, rowF_len]
  · intro i h1 h2
    rw [rowF_get, rowF_get]
    by_cases e : n = i
    · subst e; rw [h, Bool.and_false, Bool.and_false]
    · congr 1
      rw [Bool.eq_iff_iff, decide_eq_true_iff, decide_eq_true_iff]
      omega
theorem rowM_nil : (List.replicate (s.length + 1) false).set 0 true = rowM fold [] s := by
  apply List.ext_getElem
  · rw [List.length_set, List.length_replicate, rowM_len]
  · intro i h1 h2
    rw [rowM_len] at h2
    rw [List.getElem_set, rowM_get]
    by_cases e : 0 = i
    · subst e; rw [if_pos rfl]; rfl
    · rw [if_neg e, List.getElem_replicate]
      symm
      rw [Bool.eq_false_iff]
      intro h
      rw [mt_nil] at h
      have := congrArg List.length h
      rw [List.length_take, List.length_nil] at this
      omega
end
set_option maxHeartbeats 8000000 in
set_option maxRecDepth 100000 in
theorem rWhole_calls (w : World) (v : Value) (xs : List PtX) (s : List Int) (fold : Bool) (base : Nat) (hr : KRd enc4 4 w v xs) (hso : ∀ x ∈ xs, SetOk w base x) (hib : isB s) (hs : s.length ≤ 100000) (hl : xs.length ≤ 100000) :
    Calls Try.prog 60 #[v, .string (strOfNums s), .bool fold] w fun e w' => e = .returned (.bool (mtB fold (fsts xs) s)) ∧ Below w.heap.size w w' := by
  obtain ⟨S, hS⟩ : ∃ S, s.length = S := ⟨_, rfl⟩
  obtain ⟨K, hK⟩ : ∃ K, xs.length = K := ⟨_, rfl⟩
  have HR := Aside0.mk hr
  have HSO := Aside0.mk hso
  have HIB := Aside0.mk hib
  have HS := Aside0.mk hS
  have HK := Aside0.mk hK
  obtain ⟨A, c0, rfl, hc0, _⟩ := hr
  have hsz : (strOfNums s).size = S := by rw [strOf_size]; exact hS
  rw [hK] at hl hc0 HR ⊢
  rw [hS] at hs
  have HMK := Aside0.mk (fun (W : World) => show (Instr.makeSlice 107 (.int .i64 ((S : Int) + 1)) (.int .i64 ((S : Int) + 1))).run Try.prog W = .ok (.slice (some ⟨W.heap.size, 0, none⟩) (S + 1) (S + 1)) (W.alloc (.cells (encs Value.bool (List.replicate (S + 1) false)).toArray 4)) from mk_bools (S + 1) (by omega) W)
  have ws : IntKind.i64.wrap ((S : Int) + 1) = (S : Int) + 1 := by rw [IntKind.wrap_i64]; omega
  obtain ⟨RES, hRES⟩ : ∃ R, mtB fold (fsts xs) s = R := ⟨_, rfl⟩
  have HRES := Aside0.mk hRES
  rw [hRES]
  have hmk := HMK.out w
  obtain ⟨b0, hb0⟩ : ∃ x, w.heap.size = x := ⟨_, rfl⟩
  have HB0 := Aside0.mk hb0
  obtain ⟨w1, hw1⟩ : ∃ x, w.alloc (.cells (encs Value.bool (List.replicate (S + 1) false)).toArray 4) = x := ⟨_, rfl⟩
  have HO1 := Aside0.mk (show RowB w1 b0 (List.replicate (S + 1) false) by rw [← hw1, ← hb0]; exact blk_new w _)
  have HB1 := Aside0.mk (show Below w.heap.size w w1 by rw [← hw1]; exact below_alloc (Below.refl _ _) _)
  rw [hw1, hb0] at hmk
  clear hso hib hS hK hRES hw1 hb0
  have y0 : w1.cell? ⟨b0, 0, none⟩ = some (.bool false) := by have := HO1.out.cell 0 (by simp); rw [this]; rfl
  have f0 : w1.frozen? ⟨b0, 0, none⟩ = false := blk_frozen HO1.out 0
  have l0 : (0 : Int) < (S : Int) + 1 := by omega
  have l0' : 0 < S + 1 := by omega
  go_enter Try.func60, Try.ntmps60
  go_upto_region 3 with fail
  have HN1 := Aside0.mk (show RowB (w1.setCell ⟨b0, 0, none⟩ (.bool true)) b0 (rowM fold [] s) by
    have := HO1.out.set 0 true
    rw [← HS.out, rowM_nil] at this
    exact this)
  have HB2 := Aside0.mk (Kp.from HB1.out (Kp.set w1 ⟨b0, 0, none⟩ (.bool true)) (fun k hk => by rw [show k = b0 from hk, ← HB0.out]; exact Nat.le_refl _))
  obtain ⟨w2, hw2⟩ : ∃ x, w1.setCell ⟨b0, 0, none⟩ (.bool true) = x := ⟨_, rfl⟩
  rw [hw2] at HN1 HB2 ⊢
  clear hw2 y0 f0 hmk HO1 HB1 l0 l0'
  go_upto_block 0 with (fail)
  go_cut [7] (fun v7 wx => ∃ bn : Nat, v7 = .slice (some ⟨bn, 0, none⟩) (S + 1) (S + 1) ∧ Aside0 (RowB wx bn (rowM fold (fsts xs) s)) ∧ Aside0 (Below w.heap.size w wx))
  case first =>
    go_wp2_with fail
    go_loopg [7, 8] (K + 1) (fun kq v7 v8 w' => ∃ (i bn : Nat), v7 = .slice (some ⟨bn, 0, none⟩) (S + 1) (S + 1) ∧ v8 = .int .i64 (i : Int) ∧ i ≤ K ∧ K + 1 ≤ i + kq ∧ w.heap.size ≤ bn ∧ Aside0 (RowB w' bn (rowM fold ((fsts xs).take i) s)) ∧ Aside0 (Below w.heap.size w w'))
    case atStart => exact ⟨0, b0, rfl, rfl, Nat.zero_le _, by omega, by rw [HB0.out]; exact Nat.le_refl _, HN1, HB2⟩
    case round =>
      obtain ⟨gko, hgko⟩ : ∃ x, x = gk := ⟨_, rfl⟩
      subst hgko
      clear HN1 HB2
      obtain ⟨i, bn, rfl, rfl, hiK, hik, hbn, HN, HB⟩ := hrel
      by_cases c1 : i < K
      · have g1 : decide ((i : Int) < (K : Int)) = true := decide_eq_true (by omega)
        have g1' : decide (i < K) = true := decide_eq_true c1
        have hil : i < xs.length := by rw [HK.out]; exact c1
        obtain ⟨b9, o9, rfl, hb9, hrr⟩ := HR.out.get (by omega)
        obtain ⟨x, hx⟩ : ∃ x, xs[i] = x := ⟨_, rfl⟩
        have HXM := Aside0.mk (show x ∈ xs by rw [← hx]; exact List.getElem_mem hil)
        have HTK := Aside0.mk (show (fsts xs).take (i + 1) = (fsts xs).take i ++ [x.1] by rw [List.take_add_one, fsts, List.getElem?_map, List.getElem?_eq_getElem hil, hx]; rfl)
        have HR9 := Aside0.mk (hrr i hil)
        rw [hx] at HR9
        obtain ⟨b2, hb2⟩ : ∃ b, wr.heap.size = b := ⟨_, rfl⟩
        have hmk := HMK.out wr
        obtain ⟨w3, hw3⟩ : ∃ y, wr.alloc (.cells (encs Value.bool (List.replicate (S + 1) false)).toArray 4) = y := ⟨_, rfl⟩
        have hal3 := below_alloc (Below.refl wr.heap.size wr) (.cells (encs Value.bool (List.replicate (S + 1) false)).toArray 4)
        have HO3 := Aside0.mk (show RowB w3 b2 (rowF fold ((fsts xs).take (i + 1)) s 0) by rw [rowF_zero, HS.out, ← hw3, ← hb2]; exact blk_new wr _)
        rw [hw3] at hal3
        have HN3 := Aside0.mk (show RowB w3 bn (rowM fold ((fsts xs).take i) s) from blk_below HN.out hal3)
        have HB3 := Aside0.mk (below_step HB.out hal3)
        have HNE := Aside0.mk (show bn ≠ b2 from fun e => by have := blk_lt HN.out; omega)
        have HW2 := Aside0.mk (show w.heap.size ≤ b2 by rw [← hb2]; exact HB.out.size)
        rw [hw3, hb2] at hmk
        clear hrr hx hal3 hw3 hb2 HN HB
        go_upto_region 7 with fail
        clear hmk
        go_upto_block 2 with (fail)
        go_cut [] (fun wx => Aside0 (RowB wx b2 (rowM fold ((fsts xs).take (i + 1)) s)) ∧ Aside0 (Below w.heap.size w wx))
        case first =>
          go_wp2_with fail
          go_loopg [10] (S + 2) (fun kq v10 w' => ∃ a : Nat, v10 = .int .i64 (a : Int) ∧ a ≤ S + 1 ∧ S + 2 ≤ a + kq ∧ Aside0 (RowB w' b2 (rowF fold ((fsts xs).take (i + 1)) s a)) ∧ Aside0 (RowB w' bn (rowM fold ((fsts xs).take i) s)) ∧ Aside0 (Below w.heap.size w w'))
          case atStart => exact ⟨0, rfl, by omega, by omega, HO3, HN3, HB3⟩
          case round =>
            clear HO3 HN3 HB3
            obtain ⟨a, rfl, haS, hak, HO, HN, HB⟩ := hrel
            by_cases c2 : a ≤ S
            · have g2 : decide ((a : Int) ≤ (S : Int)) = true := decide_eq_true (by omega)
              have g2' : decide (a ≤ S) = true := decide_eq_true c2
              have HRX := Aside0.mk (range_below HR9.out HB.out)
              have yk : wr.cell? ⟨b9, o9 + i * 4, none⟩ = some (.int .i64 (x.1.kind : Int)) := HRX.out 0 _ rfl
              obtain ⟨kd, hkd⟩ : ∃ k, x.1.kind = k := ⟨_, rfl⟩
              have HKD := Aside0.mk hkd
              rw [hkd] at yk
              have wa : IntKind.i64.wrap ((a : Int) + 1) = (a : Int) + 1 := by rw [IntKind.wrap_i64]; omega
              have fz : wr.frozen? ⟨b2, a, none⟩ = false := blk_frozen HO.out a
              have yo : wr.cell? ⟨b2, a, none⟩ = some (.bool false) := by
                have := HO.out.cell a (by rw [rowF_len, HS.out]; omega)
                rw [rowF_at _ (by rw [HS.out]; exact c2), decide_eq_false (Nat.lt_irrefl a), Bool.false_and] at this
                exact this
              have la : (a : Int) < (S : Int) + 1 := by omega
              have la' : a < S + 1 := by omega
              clear hkd
              by_cases c3 : kd = 2
              · have g3 : ((kd : Int) == 2) = true := by simp; omega
                have g3' : (kd == 2) = true := by simpa using c3
                have HMS := Aside0.mk (mt_star (fold := fold) (l := (fsts xs).take i) (s := s) (show x.1.kind = 2 by rw [HKD.out]; exact c3) a (by rw [HS.out]; exact c2))
                rw [← HTK.out] at HMS
                clear c3
                have yn : wr.cell? ⟨bn, a, none⟩ = some (.bool (mtB fold ((fsts xs).take i) (s.take a))) := by
                  have := HN.out.cell a (by rw [rowM_len, HS.out]; omega)
                  rwa [rowM_at _ (by rw [HS.out]; exact c2)] at this
                obtain ⟨m1, hm1⟩ : ∃ m, mtB fold ((fsts xs).take i) (s.take a) = m := ⟨_, rfl⟩
                rw [hm1] at yn HMS
                obtain ⟨rv, hrv⟩ : ∃ r, mtB fold ((fsts xs).take (i + 1)) (s.take a) = r := ⟨_, rfl⟩
                rw [hrv] at HMS
                have HFN := Aside0.mk (show ∀ y, y = rv → RowB (wr.setCell ⟨b2, a, none⟩ (.bool y)) b2 (rowF fold ((fsts xs).take (i + 1)) s (a + 1)) from fun y hy => by
                  have := HO.out.set a y
                  rw [hy, ← hrv, rowF_set (by rw [HS.out]; exact c2), hrv, ← hy] at this
                  exact this)
                have HNN := Aside0.mk (fun (y : Bool) => show RowB (wr.setCell ⟨b2, a, none⟩ (.bool y)) bn (rowM fold ((fsts xs).take i) s) from (Kp.set wr ⟨b2, a, none⟩ (.bool y)).blk HN.out (fun e => HNE.out e))
                have HBN := Aside0.mk (fun (y : Bool) => show Below w.heap.size w (wr.setCell ⟨b2, a, none⟩ (.bool y)) from Kp.from HB.out (Kp.set wr ⟨b2, a, none⟩ (.bool y)) (fun k hk => by rw [show k = b2 from hk]; exact HW2.out))
                cases m1 with
                | true =>
                  have HRV := Aside0.mk (show true = rv by rw [HMS.out]; rfl)
                  go_wp2_with fail
                  go_roundg (gk - 1)
                  case measure => omega
                  case rel => exact ⟨a + 1, by go_num, by omega, by omega, Aside0.mk (HFN.out _ HRV.out), Aside0.mk (HNN.out _), Aside0.mk (HBN.out _)⟩
                | false =>
                  by_cases c4 : 0 < a
                  · obtain ⟨a', rfl⟩ : ∃ a', a = a' + 1 := ⟨a - 1, by omega⟩
                    have g4 : decide (0 < ((a' + 1 : Nat) : Int)) = true := decide_eq_true (by omega)
                    have g4' : decide (0 < a' + 1) = true := decide_eq_true c4
                    have yp : wr.cell? ⟨b2, a', none⟩ = some (.bool (mtB fold ((fsts xs).take (i + 1)) (s.take a'))) := by
                      have := HO.out.cell a' (by rw [rowF_len, HS.out]; omega)
                      rw [rowF_at _ (by rw [HS.out]; omega), decide_eq_true (Nat.lt_succ_self a'), Bool.true_and] at this
                      exact this
                    obtain ⟨m2, hm2⟩ : ∃ m, mtB fold ((fsts xs).take (i + 1)) (s.take a') = m := ⟨_, rfl⟩
                    rw [hm2] at yp
                    have HRV := Aside0.mk (show m2 = rv by rw [HMS.out, g4', Bool.true_and, Bool.false_or, Nat.add_sub_cancel]; exact hm2.symm)
                    have wm : IntKind.i64.wrap (((a' + 1 : Nat) : Int) - 1) = (a' : Int) := by rw [IntKind.wrap_i64]; omega
                    have wm' : IntKind.i64.wrap ((a' : Int) + 1 - 1) = (a' : Int) := by rw [IntKind.wrap_i64]; omega
                    have wm2 : IntKind.i64.wrap (a' : Int) = (a' : Int) := by rw [IntKind.wrap_i64]; omega
                    have lp : (a' : Int) < (S : Int) + 1 := by omega
                    have lp' : a' < S + 1 := by omega
                    clear hm2 hrv hm1
                    cases m2 with
                    | _ =>
                      go_wp2_with fail
                      go_roundg (gk - 1)
                      case measure => omega
                      case rel => exact ⟨a' + 1 + 1, by go_num, by omega, by omega, Aside0.mk (HFN.out _ HRV.out), Aside0.mk (HNN.out _), Aside0.mk (HBN.out _)⟩
                  · obtain rfl : a = 0 := by omega
                    have HRV := Aside0.mk (show false = rv by rw [HMS.out]; rfl)
                    go_wp2_with fail
                    go_roundg (gk - 1)
                    case measure => omega
                    case rel => exact ⟨0 + 1, by go_num, by omega, by omega, Aside0.mk (HFN.out _ HRV.out), Aside0.mk (HNN.out _), Aside0.mk (HBN.out _)⟩
              · have g3 : ((kd : Int) == 2) = false := by simp; omega
                have g3' : (kd == 2) = false := by simpa using c3
                have HMS := Aside0.mk (mt_byte (fold := fold) (l := (fsts xs).take i) (s := s) (show x.1.kind ≠ 2 by rw [HKD.out]; exact c3) a (by rw [HS.out]; exact c2))
                rw [← HTK.out] at HMS
                clear c3
                by_cases c4 : 0 < a
                · obtain ⟨a', rfl⟩ : ∃ a', a = a' + 1 := ⟨a - 1, by omega⟩
                  have g4 : decide (0 < ((a' + 1 : Nat) : Int)) = true := decide_eq_true (by omega)
                  have g4' : decide (0 < a' + 1) = true := decide_eq_true c4
                  have yp : wr.cell? ⟨bn, a', none⟩ = some (.bool (mtB fold ((fsts xs).take i) (s.take a'))) := by
                    have := HN.out.cell a' (by rw [rowM_len, HS.out]; omega)
                    rwa [rowM_at _ (by rw [HS.out]; omega)] at this
                  obtain ⟨m1, hm1⟩ : ∃ m, mtB fold ((fsts xs).take i) (s.take a') = m := ⟨_, rfl⟩
                  rw [hm1] at yp
                  have wm : IntKind.i64.wrap (((a' + 1 : Nat) : Int) - 1) = (a' : Int) := by rw [IntKind.wrap_i64]; omega
                  have wm' : IntKind.i64.wrap ((a' : Int) + 1 - 1) = (a' : Int) := by rw [IntKind.wrap_i64]; omega
                  have wm2 : IntKind.i64.wrap (a' : Int) = (a' : Int) := by rw [IntKind.wrap_i64]; omega
                  have lp : (a' : Int) < (S : Int) + 1 := by omega
                  have lp' : a' < S + 1 := by omega
                  have lq0 : (0 : Int) ≤ (a' : Int) := by omega
                  have lq : (0 : Int) ≤ ((a' + 1 : Nat) : Int) := by omega
                  have lq2 : (0 : Int) ≤ (a' : Int) + 1 := by omega
                  have lr : ((a' + 1 : Nat) : Int) < (S : Int) + 1 := by omega
                  have lr' : (a' : Int) + 1 < (S : Int) + 1 := by omega
                  have lt9 : (i : Int) < (K : Int) := by omega
                  have hix := fun (W : World) => str_at s HIB.out a' (a' : Int) rfl (by rw [HS.out]; omega) W
                  obtain ⟨ch, hch⟩ : ∃ c, s.getD a' 0 = c := ⟨_, rfl⟩
                  have HCB := Aside0.mk (show 0 ≤ ch ∧ ch ≤ 255 by rw [← hch]; exact HIB.out.getD _)
                  rw [hch] at hix
                  obtain ⟨rv, hrv⟩ : ∃ r, mtB fold ((fsts xs).take (i + 1)) (s.take (a' + 1)) = r := ⟨_, rfl⟩
                  rw [hrv, g4', Bool.true_and, Nat.add_sub_cancel, hm1, hch] at HMS
                  have HFN := Aside0.mk (fun (W : World) (hW : RowB W b2 (rowF fold ((fsts xs).take (i + 1)) s (a' + 1))) (y : Bool) (hy : y = rv) => show RowB (W.setCell ⟨b2, a' + 1, none⟩ (.bool y)) b2 (rowF fold ((fsts xs).take (i + 1)) s (a' + 1 + 1)) from by
                    have := hW.set (a' + 1) y
                    rw [hy, ← hrv, rowF_set (by rw [HS.out]; exact c2), hrv, ← hy] at this
                    exact this)
                  have HNN := Aside0.mk (fun (W : World) (hW : RowB W bn (rowM fold ((fsts xs).take i) s)) (y : Bool) => show RowB (W.setCell ⟨b2, a' + 1, none⟩ (.bool y)) bn (rowM fold ((fsts xs).take i) s) from (Kp.set W ⟨b2, a' + 1, none⟩ (.bool y)).blk hW (fun e => HNE.out e))
                  have HBN := Aside0.mk (fun (W : World) (hW : Below w.heap.size w W) (y : Bool) => show Below w.heap.size w (W.setCell ⟨b2, a' + 1, none⟩ (.bool y)) from Kp.from hW (Kp.set W ⟨b2, a' + 1, none⟩ (.bool y)) (fun k hk => by rw [show k = b2 from hk]; exact HW2.out))
                  have HIS := Aside0.mk (fun (W : World) (hW : Below w.heap.size w W) => rStands_calls x ch fold W base HCB.out ((HSO.out x HXM.out).kp (Kp.of_below hW (fun _ => False)) (fun _ _ _ => id)))
                  obtain ⟨bs, hbs⟩ : ∃ b, isP x.1 ch fold = b := ⟨_, rfl⟩
                  rw [hbs] at HIS HMS
                  have HSL := Aside0.mk (show (Try.prog.info? 109).map (·.size) = some (enc4 x).length by rw [enc4_len]; exact info4)
                  obtain ⟨X, hX⟩ : ∃ X, enc4 x = X := ⟨_, rfl⟩
                  rw [hX] at HIS HSL HRX
                  have hRX := HRX.out
                  have hdr := below_drew (Below.refl wr.heap.size wr)
                  clear hm1 hch hbs hrv hX
                  cases m1 with
                  | false =>
                    have HRV := Aside0.mk (show false = rv by rw [HMS.out]; rfl)
                    have HO4 := Aside0.mk (blk_below HO.out hdr)
                    have HN4 := Aside0.mk (blk_below HN.out hdr)
                    have HB4 := Aside0.mk (below_step HB.out hdr)
                    have s8 : wr.drew.cell? ⟨b2, a' + 1, none⟩ = some (.bool false) := pw_cell_below hdr yo
                    have f8 : wr.drew.frozen? ⟨b2, a' + 1, none⟩ = false := blk_frozen HO4.out _
                    clear hdr
                    go_upto_region 13 with fail
                    refine start_ (n := 21) (S := fun w' => w'.cell? ⟨bn, a', none⟩ = some (.bool false)) (ds := [20]) #[false, false, false, false, false, false, false, false, false, false, false, false, false, false, false, false, false, false, false, false, false] (by kernel_rfl) rfl rfl (yp) (fun hHeld => ?_)
                    refine pure_ (i := 0) (N := some 59) (v := ?_) (a' := ?_) #[true, false, false, false, false, false, false, false, false, false, false, false, false, false, false, false, false, false, false, false, false] rfl rfl (by kernel_rfl) (fun _ _ _ h => h) (Or.inl ⟨by rfl, ?_⟩) ?_ ?_
                    rotate_left
                    · intro w'
                      go_simp
                      with_reducible rfl
                    rotate_left
                    · simp only [Act.put, List.setIfInBounds_toArray, List.set_cons_zero, List.set_cons_succ, i64_w, i32_w]
                      rfl
                    refine pure_ (i := 1) (N := some 60) (v := ?_) (a' := ?_) #[true, true, false, false, false, false, false, false, false, false, false, false, false, false, false, false, false, false, false, false, false] rfl rfl (by kernel_rfl) (fun _ _ _ h => h) (Or.inl ⟨by rfl, ?_⟩) ?_ ?_
                    rotate_left
                    · intro w'
                      go_simp
                      with_reducible rfl
                    rotate_left
                    · simp only [Act.put, List.setIfInBounds_toArray, List.set_cons_zero, List.set_cons_succ, i64_w, i32_w]
                      rfl
                    refine pure_ (i := 2) (N := some 61) (v := ?_) (a' := ?_) #[true, true, true, false, false, false, false, false, false, false, false, false, false, false, false, false, false, false, false, false, false] rfl rfl (by kernel_rfl) (fun _ _ _ h => h) (Or.inl ⟨by rfl, ?_⟩) ?_ ?_
                    rotate_left
                    · intro w'
                      go_simp
                      with_reducible rfl
                    rotate_left
                    · simp only [Act.put, List.setIfInBounds_toArray, List.set_cons_zero, List.set_cons_succ, i64_w, i32_w]
                      rfl
                    refine pure_ (i := 3) (N := some 62) (v := ?_) (a' := ?_) #[true, true, true, true, false, false, false, false, false, false, false, false, false, false, false, false, false, false, false, false, false] rfl rfl (by kernel_rfl) (fun _ _ _ h => h) (Or.inl ⟨by rfl, ?_⟩) ?_ ?_
                    rotate_left
                    · intro w'
                      go_simp
                      with_reducible rfl
                    rotate_left
                    · simp only [Act.put, List.setIfInBounds_toArray, List.set_cons_zero, List.set_cons_succ, i64_w, i32_w]
                      rfl
                    refine pure_ (i := 4) (N := some 63) (v := ?_) (a' := ?_) #[true, true, true, true, true, false, false, false, false, false, false, false, false, false, false, false, false, false, false, false, false] rfl rfl (by kernel_rfl) (fun _ _ _ h => h) (Or.inl ⟨by rfl, ?_⟩) ?_ ?_
                    rotate_left
                    · intro w'
                      go_simp
                      with_reducible rfl
                    rotate_left
                    · simp only [Act.put, List.setIfInBounds_toArray, List.set_cons_zero, List.set_cons_succ, i64_w, i32_w]
                      rfl
                    refine pure_ (i := 5) (N := some 64) (v := ?_) (a' := ?_) #[true, true, true, true, true, true, false, false, false, false, false, false, false, false, false, false, false, false, false, false, false] rfl rfl (by kernel_rfl) (fun _ _ _ h => h) (Or.inl ⟨by rfl, ?_⟩) ?_ ?_
                    rotate_left
                    · intro w'
                      go_simp
                      with_reducible rfl
                    rotate_left
                    · simp only [Act.put, List.setIfInBounds_toArray, List.set_cons_zero, List.set_cons_succ, i64_w, i32_w]
                      rfl
                    refine take_ (i := 6) (N := some 65) (v := ?_) (a' := ?_) #[true, true, true, true, true, true, true, false, false, false, false, false, false, false, false, false, false, false, false, false, false] rfl rfl (by kernel_rfl) (fun _ _ _ h => h) (Or.inl ⟨by rfl, ?_⟩) hHeld ?_ ?_
                    rotate_left
                    · intro w' s0
                      go_simp
                      with_reducible rfl
                    rotate_left
                    · simp only [Act.put, List.setIfInBounds_toArray, List.set_cons_zero, List.set_cons_succ, i64_w, i32_w]
                      rfl
                    refine pure_ (i := 7) (N := some 66) (v := ?_) (a' := ?_) #[true, true, true, true, true, true, true, true, false, false, false, false, false, false, false, false, false, false, false, false, false] rfl rfl (by kernel_rfl) (fun _ _ _ h => h) (Or.inl ⟨by rfl, ?_⟩) ?_ ?_
                    rotate_left
                    · intro w'
                      go_simp
                      with_reducible rfl
                    rotate_left
                    · simp only [Act.put, List.setIfInBounds_toArray, List.set_cons_zero, List.set_cons_succ, i64_w, i32_w]
                      rfl
                    refine pure_ (i := 8) (N := some 67) (v := undef) (a' := ?_) #[true, true, true, true, true, true, true, true, true, false, false, false, false, false, false, false, false, false, false, false, false] rfl rfl (by kernel_rfl) (fun _ _ _ h => h) (Or.inr ⟨by rfl, rfl⟩) ?_ ?_
                    rotate_left
                    · simp only [Act.put, List.setIfInBounds_toArray, List.set_cons_zero, List.set_cons_succ, i64_w, i32_w]
                      rfl
                    refine pure_ (i := 9) (N := some 68) (v := undef) (a' := ?_) #[true, true, true, true, true, true, true, true, true, true, false, false, false, false, false, false, false, false, false, false, false] rfl rfl (by kernel_rfl) (fun _ _ _ h => h) (Or.inr ⟨by rfl, rfl⟩) ?_ ?_
                    rotate_left
                    · simp only [Act.put, List.setIfInBounds_toArray, List.set_cons_zero, List.set_cons_succ, i64_w, i32_w]
                      rfl
                    refine pure_ (i := 10) (N := some 69) (v := undef) (a' := ?_) #[true, true, true, true, true, true, true, true, true, true, true, false, false, false, false, false, false, false, false, false, false] rfl rfl (by kernel_rfl) (fun _ _ _ h => h) (Or.inr ⟨by rfl, rfl⟩) ?_ ?_
                    rotate_left
                    · simp only [Act.put, List.setIfInBounds_toArray, List.set_cons_zero, List.set_cons_succ, i64_w, i32_w]
                      rfl
                    refine pure_ (i := 11) (N := some 70) (v := undef) (a' := ?_) #[true, true, true, true, true, true, true, true, true, true, true, true, false, false, false, false, false, false, false, false, false] rfl rfl (by kernel_rfl) (fun _ _ _ h => h) (Or.inr ⟨by rfl, rfl⟩) ?_ ?_
                    rotate_left
                    · simp only [Act.put, List.setIfInBounds_toArray, List.set_cons_zero, List.set_cons_succ, i64_w, i32_w]
                      rfl
                    refine pure_ (i := 12) (N := some 71) (v := undef) (a' := ?_) #[true, true, true, true, true, true, true, true, true, true, true, true, true, false, false, false, false, false, false, false, false] rfl rfl (by kernel_rfl) (fun _ _ _ h => h) (Or.inr ⟨by rfl, rfl⟩) ?_ ?_
                    rotate_left
                    · simp only [Act.put, List.setIfInBounds_toArray, List.set_cons_zero, List.set_cons_succ, i64_w, i32_w]
                      rfl
                    refine pure_ (i := 13) (N := some 72) (v := undef) (a' := ?_) #[true, true, true, true, true, true, true, true, true, true, true, true, true, true, false, false, false, false, false, false, false] rfl rfl (by kernel_rfl) (fun _ _ _ h => h) (Or.inr ⟨by rfl, rfl⟩) ?_ ?_
                    rotate_left
                    · simp only [Act.put, List.setIfInBounds_toArray, List.set_cons_zero, List.set_cons_succ, i64_w, i32_w]
                      rfl
                    refine pure_ (i := 14) (N := some 73) (v := undef) (a' := ?_) #[true, true, true, true, true, true, true, true, true, true, true, true, true, true, true, false, false, false, false, false, false] rfl rfl (by kernel_rfl) (fun _ _ _ h => h) (Or.inr ⟨by rfl, rfl⟩) ?_ ?_
                    rotate_left
                    · simp only [Act.put, List.setIfInBounds_toArray, List.set_cons_zero, List.set_cons_succ, i64_w, i32_w]
                      rfl
                    refine pure_ (i := 15) (N := some 74) (v := undef) (a' := ?_) #[true, true, true, true, true, true, true, true, true, true, true, true, true, true, true, true, false, false, false, false, false] rfl rfl (by kernel_rfl) (fun _ _ _ h => h) (Or.inr ⟨by rfl, rfl⟩) ?_ ?_
                    rotate_left
                    · simp only [Act.put, List.setIfInBounds_toArray, List.set_cons_zero, List.set_cons_succ, i64_w, i32_w]
                      rfl
                    refine pure_ (i := 16) (N := some 75) (v := undef) (a' := ?_) #[true, true, true, true, true, true, true, true, true, true, true, true, true, true, true, true, true, false, false, false, false] rfl rfl (by kernel_rfl) (fun _ _ _ h => h) (Or.inr ⟨by rfl, rfl⟩) ?_ ?_
                    rotate_left
                    · simp only [Act.put, List.setIfInBounds_toArray, List.set_cons_zero, List.set_cons_succ, i64_w, i32_w]
                      rfl
                    refine pure_ (i := 17) (N := some 76) (v := undef) (a' := ?_) #[true, true, true, true, true, true, true, true, true, true, true, true, true, true, true, true, true, true, false, false, false] rfl rfl (by kernel_rfl) (fun _ _ _ h => h) (Or.inr ⟨by rfl, rfl⟩) ?_ ?_
                    rotate_left
                    · simp only [Act.put, List.setIfInBounds_toArray, List.set_cons_zero, List.set_cons_succ, i64_w, i32_w]
                      rfl
                    refine pure_ (i := 18) (N := some 77) (v := ?_) (a' := ?_) #[true, true, true, true, true, true, true, true, true, true, true, true, true, true, true, true, true, true, true, false, false] rfl rfl (by kernel_rfl) (fun _ _ _ h => h) (Or.inl ⟨by rfl, ?_⟩) ?_ ?_
                    rotate_left
                    · intro w'
                      go_simp
                      with_reducible rfl
                    rotate_left
                    · simp only [Act.put, List.setIfInBounds_toArray, List.set_cons_zero, List.set_cons_succ, i64_w, i32_w]
                      rfl
                    refine pure_ (i := 19) (N := some 78) (v := ?_) (a' := ?_) #[true, true, true, true, true, true, true, true, true, true, true, true, true, true, true, true, true, true, true, true, false] rfl rfl (by kernel_rfl) (fun _ _ _ h => h) (Or.inl ⟨by rfl, ?_⟩) ?_ ?_
                    rotate_left
                    · intro w'
                      go_simp
                      with_reducible rfl
                    rotate_left
                    · simp only [Act.put, List.setIfInBounds_toArray, List.set_cons_zero, List.set_cons_succ, i64_w, i32_w]
                      rfl
                    refine last_ (i := 20) (N := none) #[true, true, true, true, true, true, true, true, true, true, true, true, true, true, true, true, true, true, true, true, true] rfl rfl (by kernel_rfl) (by decide) (fun K hK => ?_)
                    refine skip_ (w1 := ?_) (by rfl) rfl ?_ ?_
                    rotate_left
                    · go_simp
                      rfl
                    refine hK.out _ _ ?_
                    clear hK K
                    refine done_ (by kernel_rfl) ?_
                    have HF1 := Aside0.mk (HFN.out _ HO4.out _ HRV.out)
                    have HF2 := Aside0.mk (HNN.out _ HN4.out false)
                    have HF3 := Aside0.mk (HBN.out _ HB4.out false)
                    go_wp2_with fail
                    go_roundg (gk - 1)
                    case measure => omega
                    case rel => exact ⟨a' + 1 + 1, by go_num, by omega, by omega, HF1, HF2, HF3⟩
                  | true =>
                    have HRV := Aside0.mk (show bs = rv by rw [HMS.out]; rfl)
                    go_upto_region 13 with fail
                    refine start_ (n := 21) (S := fun w' => w'.cell? ⟨bn, a', none⟩ = some (.bool true) ∧ w'.rangeAt b9 (o9 + i * 4) X) (ds := [20]) #[false, false, false, false, false, false, false, false, false, false, false, false, false, false, false, false, false, false, false, false, false] (by kernel_rfl) rfl rfl ⟨yp, hRX⟩ (fun hHeld => ?_)
                    refine pure_ (i := 0) (N := some 59) (v := ?_) (a' := ?_) #[true, false, false, false, false, false, false, false, false, false, false, false, false, false, false, false, false, false, false, false, false] rfl rfl (by kernel_rfl) (fun _ _ _ h => h) (Or.inl ⟨by rfl, ?_⟩) ?_ ?_
                    rotate_left
                    · intro w'
                      go_simp
                      with_reducible rfl
                    rotate_left
                    · simp only [Act.put, List.setIfInBounds_toArray, List.set_cons_zero, List.set_cons_succ, i64_w, i32_w]
                      rfl
                    refine pure_ (i := 1) (N := some 60) (v := ?_) (a' := ?_) #[true, true, false, false, false, false, false, false, false, false, false, false, false, false, false, false, false, false, false, false, false] rfl rfl (by kernel_rfl) (fun _ _ _ h => h) (Or.inl ⟨by rfl, ?_⟩) ?_ ?_
                    rotate_left
                    · intro w'
                      go_simp
                      with_reducible rfl
                    rotate_left
                    · simp only [Act.put, List.setIfInBounds_toArray, List.set_cons_zero, List.set_cons_succ, i64_w, i32_w]
                      rfl
                    refine pure_ (i := 2) (N := some 61) (v := ?_) (a' := ?_) #[true, true, true, false, false, false, false, false, false, false, false, false, false, false, false, false, false, false, false, false, false] rfl rfl (by kernel_rfl) (fun _ _ _ h => h) (Or.inl ⟨by rfl, ?_⟩) ?_ ?_
                    rotate_left
                    · intro w'
                      go_simp
                      with_reducible rfl
                    rotate_left
                    · simp only [Act.put, List.setIfInBounds_toArray, List.set_cons_zero, List.set_cons_succ, i64_w, i32_w]
                      rfl
                    refine pure_ (i := 3) (N := some 62) (v := ?_) (a' := ?_) #[true, true, true, true, false, false, false, false, false, false, false, false, false, false, false, false, false, false, false, false, false] rfl rfl (by kernel_rfl) (fun _ _ _ h => h) (Or.inl ⟨by rfl, ?_⟩) ?_ ?_
                    rotate_left
                    · intro w'
                      go_simp
                      with_reducible rfl
                    rotate_left
                    · simp only [Act.put, List.setIfInBounds_toArray, List.set_cons_zero, List.set_cons_succ, i64_w, i32_w]
                      rfl
                    refine pure_ (i := 4) (N := some 63) (v := ?_) (a' := ?_) #[true, true, true, true, true, false, false, false, false, false, false, false, false, false, false, false, false, false, false, false, false] rfl rfl (by kernel_rfl) (fun _ _ _ h => h) (Or.inl ⟨by rfl, ?_⟩) ?_ ?_
                    rotate_left
                    · intro w'
                      go_simp
                      with_reducible rfl
                    rotate_left
                    · simp only [Act.put, List.setIfInBounds_toArray, List.set_cons_zero, List.set_cons_succ, i64_w, i32_w]
                      rfl
                    refine pure_ (i := 5) (N := some 64) (v := ?_) (a' := ?_) #[true, true, true, true, true, true, false, false, false, false, false, false, false, false, false, false, false, false, false, false, false] rfl rfl (by kernel_rfl) (fun _ _ _ h => h) (Or.inl ⟨by rfl, ?_⟩) ?_ ?_
                    rotate_left
                    · intro w'
                      go_simp
                      with_reducible rfl
                    rotate_left
                    · simp only [Act.put, List.setIfInBounds_toArray, List.set_cons_zero, List.set_cons_succ, i64_w, i32_w]
                      rfl
                    refine take_ (i := 6) (N := some 65) (v := ?_) (a' := ?_) #[true, true, true, true, true, true, true, false, false, false, false, false, false, false, false, false, false, false, false, false, false] rfl rfl (by kernel_rfl) (fun _ _ _ h => h) (Or.inl ⟨by rfl, ?_⟩) hHeld ?_ ?_
                    rotate_left
                    · rintro w' ⟨s0, s1⟩
                      go_simp
                      with_reducible rfl
                    rotate_left
                    · simp only [Act.put, List.setIfInBounds_toArray, List.set_cons_zero, List.set_cons_succ, i64_w, i32_w]
                      rfl
                    refine pure_ (i := 7) (N := some 66) (v := ?_) (a' := ?_) #[true, true, true, true, true, true, true, true, false, false, false, false, false, false, false, false, false, false, false, false, false] rfl rfl (by kernel_rfl) (fun _ _ _ h => h) (Or.inl ⟨by rfl, ?_⟩) ?_ ?_
                    rotate_left
                    · intro w'
                      go_simp
                      with_reducible rfl
                    rotate_left
                    · simp only [Act.put, List.setIfInBounds_toArray, List.set_cons_zero, List.set_cons_succ, i64_w, i32_w]
                      rfl
                    refine pure_ (i := 8) (N := some 67) (v := ?_) (a' := ?_) #[true, true, true, true, true, true, true, true, true, false, false, false, false, false, false, false, false, false, false, false, false] rfl rfl (by kernel_rfl) (fun _ _ _ h => h) (Or.inl ⟨by rfl, ?_⟩) ?_ ?_
                    rotate_left
                    · intro w'
                      go_simp
                      with_reducible rfl
                    rotate_left
                    · simp only [Act.put, List.setIfInBounds_toArray, List.set_cons_zero, List.set_cons_succ, i64_w, i32_w]
                      rfl
                    refine pure_ (i := 9) (N := some 68) (v := ?_) (a' := ?_) #[true, true, true, true, true, true, true, true, true, true, false, false, false, false, false, false, false, false, false, false, false] rfl rfl (by kernel_rfl) (fun _ _ _ h => h) (Or.inl ⟨by rfl, ?_⟩) ?_ ?_
                    rotate_left
                    · intro w'
                      go_simp
                      with_reducible rfl
                    rotate_left
                    · simp only [Act.put, List.setIfInBounds_toArray, List.set_cons_zero, List.set_cons_succ, i64_w, i32_w]
                      rfl
                    refine pure_ (i := 10) (N := some 69) (v := ?_) (a' := ?_) #[true, true, true, true, true, true, true, true, true, true, true, false, false, false, false, false, false, false, false, false, false] rfl rfl (by kernel_rfl) (fun _ _ _ h => h) (Or.inl ⟨by rfl, ?_⟩) ?_ ?_
                    rotate_left
                    · intro w'
                      go_simp
                      with_reducible rfl
                    rotate_left
                    · simp only [Act.put, List.setIfInBounds_toArray, List.set_cons_zero, List.set_cons_succ, i64_w, i32_w]
                      rfl
                    refine pure_ (i := 12) (N := some 71) (v := ?_) (a' := ?_) #[true, true, true, true, true, true, true, true, true, true, true, false, true, false, false, false, false, false, false, false, false] rfl rfl (by kernel_rfl) (fun _ _ _ h => h) (Or.inl ⟨by rfl, ?_⟩) ?_ ?_
                    rotate_left
                    · intro w'
                      go_simp
                      with_reducible rfl
                    rotate_left
                    · simp only [Act.put, List.setIfInBounds_toArray, List.set_cons_zero, List.set_cons_succ, i64_w, i32_w]
                      rfl
                    refine pure_ (i := 13) (N := some 72) (v := ?_) (a' := ?_) #[true, true, true, true, true, true, true, true, true, true, true, false, true, true, false, false, false, false, false, false, false] rfl rfl (by kernel_rfl) (fun _ _ _ h => h) (Or.inl ⟨by rfl, ?_⟩) ?_ ?_
                    rotate_left
                    · intro w'
                      go_simp
                      with_reducible rfl
                    rotate_left
                    · simp only [Act.put, List.setIfInBounds_toArray, List.set_cons_zero, List.set_cons_succ, i64_w, i32_w]
                      rfl
                    refine pure_ (i := 14) (N := some 73) (v := ?_) (a' := ?_) #[true, true, true, true, true, true, true, true, true, true, true, false, true, true, true, false, false, false, false, false, false] rfl rfl (by kernel_rfl) (fun _ _ _ h => h) (Or.inl ⟨by rfl, ?_⟩) ?_ ?_
                    rotate_left
                    · intro w'
                      go_simp
                      with_reducible rfl
                    rotate_left
                    · simp only [Act.put, List.setIfInBounds_toArray, List.set_cons_zero, List.set_cons_succ, i64_w, i32_w]
                      rfl
                    refine pure_ (i := 16) (N := some 75) (v := ?_) (a' := ?_) #[true, true, true, true, true, true, true, true, true, true, true, false, true, true, true, false, true, false, false, false, false] rfl rfl (by kernel_rfl) (fun _ _ _ h => h) (Or.inl ⟨by rfl, ?_⟩) ?_ ?_
                    rotate_left
                    · intro w'
                      go_simp
                      with_reducible rfl
                    rotate_left
                    · simp only [Act.put, List.setIfInBounds_toArray, List.set_cons_zero, List.set_cons_succ, i64_w, i32_w]
                      rfl
                    refine take_ (i := 15) (N := some 74) (v := ?_) (a' := ?_) #[true, true, true, true, true, true, true, true, true, true, true, false, true, true, true, true, true, false, false, false, false] rfl rfl (by kernel_rfl) (fun _ _ _ h => h) (Or.inl ⟨by rfl, ?_⟩) hHeld ?_ ?_
                    rotate_left
                    · rintro w' ⟨s0, s1⟩
                      go_simp
                      with_reducible rfl
                    rotate_left
                    · simp only [Act.put, List.setIfInBounds_toArray, List.set_cons_zero, List.set_cons_succ, i64_w, i32_w]
                      rfl
                    refine one_ (i := 11) (N := some 70) #[true, true, true, true, true, true, true, true, true, true, true, true, true, true, true, true, true, false, false, false, false] rfl rfl (by kernel_rfl) (by decide) (fun K hK => ?_)
                    refine load_mid_if (by rfl) 109 (.tmp 69) rfl b9 (o9 + i * 4) rfl X _ hHeld.2 Try.underlying109 rfl HSL.out ?_
                    refine hK.out _ _ ⟨hHeld.1, hHeld.2⟩ (fun hHeld => ?_)
                    clear hK K
                    refine norm_ (a' := ?_) ?_ ?_
                    rotate_left
                    · show Act.put _ (some 70) _ = _
                      simp only [Act.put, List.setIfInBounds_toArray, List.set_cons_zero, List.set_cons_succ, i64_w, i32_w]
                      rfl
                    refine one_ (i := 17) (N := some 76) #[true, true, true, true, true, true, true, true, true, true, true, true, true, true, true, true, true, true, false, false, false] rfl rfl (by kernel_rfl) (by decide) (fun K hK => ?_)
                    refine goes_ Try.func101 (by kernel_rfl) rfl #[.agg X.toArray, .int .u8 ch, .bool fold] (by rfl) rfl rfl (by (try simp only [List.map_toArray, List.map_cons, List.map_nil]); first | done | rfl) ?_
                    with_reducible refine (HIS.out _ (below_step HB.out hdr)).mono ?_
                    rintro e w5 ⟨rfl, hb5⟩
                    refine ⟨_, rfl, ?_⟩
                    have HO4 := Aside0.mk (show RowB w5 b2 (rowF fold ((fsts xs).take (i + 1)) s (a' + 1)) from blk_below (blk_below HO.out hdr) hb5)
                    have HN4 := Aside0.mk (show RowB w5 bn (rowM fold ((fsts xs).take i) s) from blk_below (blk_below HN.out hdr) hb5)
                    have HB4 := Aside0.mk (below_step (below_step HB.out hdr) hb5)
                    have s8 : w5.cell? ⟨b2, a' + 1, none⟩ = some (.bool false) := pw_cell_below hb5 (pw_cell_below hdr yo)
                    have f8 : w5.frozen? ⟨b2, a' + 1, none⟩ = false := blk_frozen HO4.out _
                    refine hK.out _ _ ⟨(pw_cell_below hb5 hHeld.1), (range_below hHeld.2 hb5)⟩ (fun hHeld => ?_)
                    clear hK K
                    refine norm_ (a' := ?_) ?_ ?_
                    rotate_left
                    · show Act.put _ (some 76) _ = _
                      simp only [Act.put, List.setIfInBounds_toArray, List.set_cons_zero, List.set_cons_succ, i64_w, i32_w]
                      rfl
                    refine pure_ (i := 18) (N := some 77) (v := ?_) (a' := ?_) #[true, true, true, true, true, true, true, true, true, true, true, true, true, true, true, true, true, true, true, false, false] rfl rfl (by kernel_rfl) (fun _ _ _ h => h) (Or.inl ⟨by rfl, ?_⟩) ?_ ?_
                    rotate_left
                    · intro w'
                      go_simp
                      with_reducible rfl
                    rotate_left
                    · simp only [Act.put, List.setIfInBounds_toArray, List.set_cons_zero, List.set_cons_succ, i64_w, i32_w]
                      rfl
                    refine pure_ (i := 19) (N := some 78) (v := ?_) (a' := ?_) #[true, true, true, true, true, true, true, true, true, true, true, true, true, true, true, true, true, true, true, true, false] rfl rfl (by kernel_rfl) (fun _ _ _ h => h) (Or.inl ⟨by rfl, ?_⟩) ?_ ?_
                    rotate_left
                    · intro w'
                      go_simp
                      with_reducible rfl
                    rotate_left
                    · simp only [Act.put, List.setIfInBounds_toArray, List.set_cons_zero, List.set_cons_succ, i64_w, i32_w]
                      rfl
                    refine last_ (i := 20) (N := none) #[true, true, true, true, true, true, true, true, true, true, true, true, true, true, true, true, true, true, true, true, true] rfl rfl (by kernel_rfl) (by decide) (fun K hK => ?_)
                    refine skip_ (w1 := ?_) (by rfl) rfl ?_ ?_
                    rotate_left
                    · go_simp
                      rfl
                    refine hK.out _ _ ?_
                    clear hK K
                    refine done_ (by kernel_rfl) ?_
                    have HF1 := Aside0.mk (HFN.out _ HO4.out _ HRV.out)
                    have HF2 := Aside0.mk (HNN.out _ HN4.out bs)
                    have HF3 := Aside0.mk (HBN.out _ HB4.out bs)
                    go_wp2_with fail
                    go_roundg (gk - 1)
                    case measure => omega
                    case rel => exact ⟨a' + 1 + 1, by go_num, by omega, by omega, HF1, HF2, HF3⟩
                · obtain rfl : a = 0 := by omega
                  have HOE := Aside0.mk (show RowB wr b2 (rowF fold ((fsts xs).take (i + 1)) s (0 + 1)) by rw [← rowF_same (by rw [HMS.out]; rfl)]; exact HO.out)
                  go_wp2_with fail
                  go_roundg (gk - 1)
                  case measure => omega
                  case rel => exact ⟨0 + 1, by go_num, by omega, by omega, HOE, HN, HB⟩
            · obtain rfl : a = S + 1 := by omega
              have g2 : decide (((S + 1 : Nat) : Int) ≤ (S : Int)) = false := decide_eq_false (by omega)
              have g2' : decide (S + 1 ≤ S) = false := decide_eq_false (by omega)
              rw [← HS.out, rowF_all] at HO
              go_wp2_with fail
              go_meet
              exact ⟨HO, HB⟩
        case rest =>
        obtain ⟨HO, HB⟩ := hcut
        have wi : IntKind.i64.wrap ((i : Int) + 1) = (i : Int) + 1 := by rw [IntKind.wrap_i64]; omega
        go_wp2_with fail
        go_roundg (gko - 1)
        case measure => omega
        case rel => exact ⟨i + 1, b2, rfl, by go_num, c1, by omega, HW2.out, HO, HB⟩
      · have g1 : decide ((i : Int) < (K : Int)) = false := decide_eq_false (by omega)
        have g1' : decide (i < K) = false := decide_eq_false c1
        rw [List.take_of_length_le (by rw [fsts, List.length_map, HK.out]; omega)] at HN
        go_wp2_with fail
        go_meet
        exact ⟨bn, rfl, HN, HB⟩
  case rest =>
  obtain ⟨bn, rfl, HN, HB⟩ := hcut
  have ye : wc.cell? ⟨bn, S, none⟩ = some (.bool RES) := by
    have := HN.out.cell S (by rw [rowM_len, HS.out]; omega)
    rw [rowM_at _ (by rw [HS.out]; exact Nat.le_refl _), show s.take S = s from List.take_of_length_le (by rw [HS.out]; exact Nat.le_refl _), HRES.out] at this
    exact this
  have lS : (S : Int) < (S : Int) + 1 := by omega
  have lS' : S < S + 1 := by omega
  have lS0 : (0 : Int) ≤ (S : Int) := by omega
  go_wp2_with fail
  go_ret
  exact ⟨rfl, HB.out⟩
end Go.Proofs.Ytplmdgimodgekaa
