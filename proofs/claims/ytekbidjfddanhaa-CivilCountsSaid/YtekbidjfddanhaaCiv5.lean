/- Contracts of the reference's calendar: microseconds of a time, and the time behind them. -/
import Derived.Test.YtekbidjfddanhaaCiv3
namespace Go.Proofs.Ytekbidjfddanhaa
open Go.RowKit Go.Proofs.YtekbidjfddanhaaW.PrintWords Go.Proofs.YtekbidjfddanhaaW.PrintLast Go.Proofs.YtekbidjfddanhaaW.PrintMore
attribute [local go_sem] max2_int min2_int max_two min_two max_three min_three max_four min_four   -- for this text's walks alone
set_option linter.unusedVariables false
set_option linter.unusedSimpArgs false

theorem micros_day (c h i s u : Int) : c * 86400000000 + (60 * (60 * h + i) + s) * 1000000 + u = (((c * 24 + h) * 60 + i) * 60 + s) * 1000000 + u := by omega
set_option maxHeartbeats 8000000 in
set_option maxRecDepth 100000 in
theorem ref_Micros_calls (y m d h i s u : Int) (w : World) (hr : rightB y m d h i s u = true) : Calls Try.prog 26 #[.agg #[.int .i64 y, .int .i64 m, .int .i64 d, .int .i64 h, .int .i64 i, .int .i64 s, .int .i64 u]] w fun e w' => e = .returned (.int .u64 (microsZ y m d h i s u)) ∧ Below w.heap.size w w' := by
  obtain ⟨⟨y0, y1⟩, ⟨m0, m1⟩, ⟨d0, d1⟩, ⟨h0, h1⟩, ⟨i0, i1⟩, ⟨s0, s1⟩, ⟨u0, u1⟩⟩ := rightB_yes hr
  have hd := dimZ_bd y m
  have d2 : d ≤ 31 := by omega
  have hb := dayZ_bd y0 y1 ⟨m0, m1, d0, d1⟩
  have h1970 : dbY 1970 = 719162 := by decide
  have HB0 := blk_new w (.cells #[.int .i64 y, .int .i64 m, .int .i64 d, .int .i64 h, .int .i64 i, .int .i64 s, .int .i64 u] 31)
  have HH0 := Aside0.mk HB0
  have H1970 := Aside0.mk h1970
  clear hr hd d1 HB0 h1970
  go_enter Try.func26, Try.ntmps26
  go_wp2_with fail
  go_loop [3, 4] (fun v3 v4 => ∃ x : Int, 1970 ≤ x ∧ x ≤ y ∧ v4 = .int .i64 x ∧ v3 = .int .u64 (dbY x - 719162)) (fun _ v4 => (y - intOf v4).toNat)
  case atStart => exact ⟨1970, by omega, by omega, rfl, by rw [H1970.out]; rfl⟩
  case round =>
    obtain ⟨x, x0, x1, rfl, rfl⟩ := hrel
    have hx0 := dbY_mono 1970 x x0
    have hx1 := dbY_mono x 9999 (by omega)
    have h9 : dbY 9999 = 3651694 := by decide
    rw [H1970.out] at hx0
    rw [h9] at hx1
    obtain ⟨N, hN⟩ : ∃ N, dbY x - 719162 = N := ⟨_, rfl⟩
    have HN := Aside0.mk hN
    have hs := dbY_succ x
    have HS := Aside0.mk (show dbY (x + 1) - 719162 = N + (365 + lpZ x) by omega)
    have hl := lpZ_01 x
    have hl0 : 0 ≤ lpZ x := by omega
    have hl1 : lpZ x ≤ 1 := by omega
    have n0 : 0 ≤ N := by omega
    have n1 : N ≤ 3652059 := by omega
    clear hl hs hN hx0 hx1 h9
    rw [HN.out]
    by_cases c : x < y
    · go_wp2_with fail
      refine (ref_days_calls x _).mono ?_
      rintro e w1 ⟨rfl, rfl⟩
      go_wp2_with fail
      go_round
      case rel => exact ⟨x + 1, by omega, by omega, by go_num, by rw [HS.out]⟩
      case measure => simp [intOf]; omega
    · obtain rfl : x = y := by omega
      go_wp2_with fail
      go_loopw [3, 5] (fun v3 v5 w' => ∃ k : Int, 1 ≤ k ∧ k ≤ m ∧ v5 = .int .i64 k ∧ v3 = .int .u64 (N + cumZ x k) ∧ Aside0 (Below w.heap.size w w') ∧ Aside0 (w'.heap[w.heap.size]? = some (.cells #[.int .i64 x, .int .i64 m, .int .i64 d, .int .i64 h, .int .i64 i, .int .i64 s, .int .i64 u] 31 (0, 0)))) (fun _ v5 _ => (m - intOf v5).toNat)
      case atStart => exact ⟨1, by omega, by omega, rfl, by simp [cumZ], ⟨below_alloc (Below.refl _ _) _⟩, HH0⟩
      case round =>
        obtain ⟨k, k0, k1, rfl, rfl, HB, HX⟩ := hrel
        have hc := cumZ_le x k k0 (by omega)
        have hs := cumZ_succ x k k0 (by omega)
        have hl := lpZ_01 x
        obtain ⟨C, hC⟩ : ∃ C, cumZ x k = C := ⟨_, rfl⟩
        have HC := Aside0.mk hC
        have hdd := dimZ_bd x k
        have HS := Aside0.mk (show cumZ x (k + 1) = C + dimZ x k by omega)
        obtain ⟨hd0, hd1⟩ := hdd
        have c0 : 0 ≤ C := by omega
        have c1 : C ≤ 366 := by omega
        clear hs hc hC hl
        rw [HC.out]
        have H1 := HX.out
        have g0 := blk_cell H1 0
        have g1 := blk_cell H1 1
        have g2 := blk_cell H1 2
        have g3 := blk_cell H1 3
        have g4 := blk_cell H1 4
        have g5 := blk_cell H1 5
        have g6 := blk_cell H1 6
        clear H1
        by_cases c2 : k < m
        · go_wp2_with fail
          refine (ref_Days_calls x k _).mono ?_
          rintro e w1 ⟨rfl, hb1⟩
          have HB1 := Aside0.mk (below_step HB.out hb1)
          have HX1 := Aside0.mk (blk_below HX.out hb1)
          clear hb1 g0 g1 g2 g3 g4 g5 g6
          go_wp2_with fail
          go_roundw
          case rel => exact ⟨k + 1, by omega, by omega, by go_num, by rw [HS.out, Int.add_assoc], HB1, HX1⟩
          case measure => simp [intOf]; omega
        · obtain rfl : k = m := by omega
          have HE := Aside0.mk (show microsZ x k d h i s u = (((N + C + d - 1) * 24 + h) * 60 + i) * 60 * 1000000 + s * 1000000 + u by
            have := HN.out; have := HC.out; unfold microsZ dayZ; omega)
          go_wp2
          go_ret
          exact ⟨ret_int (by have := HE.out; omega), HB.out⟩
theorem below_set {w W : World} (h : Below w.heap.size w W) (p : Addr) (hg : w.heap.size ≤ p.block) (v : Value) : Below w.heap.size w (W.setCell p v) := h.setCell hg v
abbrev arr7 (y m d : Int) : Obj := .cells #[.int .i64 y, .int .i64 m, .int .i64 d, .int .i64 0, .int .i64 0, .int .i64 0, .int .i64 0] 31 (0, 0)
/-- Days and months of the reference's search. -/
theorem of_year {q y : Int} (h0 : 0 ≤ q) (h1 : dbY y - 719162 ≤ q) (h2 : q < dbY (y + 1) - 719162) : y = dY q := by
  obtain ⟨⟨a, b, c, e⟩, f⟩ := of_day q h0
  have h3 := cumZ_le (dY q) (dM q) a b
  have h4 := dbY_succ (dY q)
  unfold dayZ at f
  by_cases c1 : y < dY q
  · have := dbY_mono (y + 1) (dY q) (by omega); omega
  · by_cases c2 : dY q < y
    · have := dbY_mono (dY q + 1) y (by omega); omega
    · omega
theorem of_month {q k : Int} (h0 : 0 ≤ q) (k0 : 1 ≤ k) (k1 : k ≤ 12) (h1 : dbY (dY q) - 719162 + cumZ (dY q) k ≤ q) (h2 : q < dbY (dY q) - 719162 + cumZ (dY q) k + dimZ (dY q) k) : k = dM q ∧ q - (dbY (dY q) - 719162 + cumZ (dY q) k) + 1 = dD q := by
  obtain ⟨⟨a, b, c, e⟩, f⟩ := of_day q h0
  unfold dayZ at f
  by_cases c1 : k < dM q
  · have := cumZ_mono (dY q) k (dM q) k0 c1 b; omega
  · by_cases c2 : dM q < k
    · have := cumZ_mono (dY q) (dM q) k a c2 k1; omega
    · have : k = dM q := by omega
      subst this
      exact ⟨rfl, by omega⟩
/-- What Of tells. -/
def ofR (n : Int) : Value := if n / 86400000000 ≤ 2932896 then .tuple #[ofQ (n / 86400000000) n, .bool true] else .tuple #[noV, .bool false]
theorem arr_set0 {W : World} {b T : Nat} {va vb vc vd ve vf vg : Value} (H : W.heap[b]? = some (.cells #[va, vb, vc, vd, ve, vf, vg] T (0, 0))) (x : Value) : (W.setCell ⟨b, 0, none⟩ x).heap[b]? = some (.cells #[x, vb, vc, vd, ve, vf, vg] T (0, 0)) := by simpa using blk_set H 0 x
theorem arr_set1 {W : World} {b T : Nat} {va vb vc vd ve vf vg : Value} (H : W.heap[b]? = some (.cells #[va, vb, vc, vd, ve, vf, vg] T (0, 0))) (x : Value) : (W.setCell ⟨b, 1, none⟩ x).heap[b]? = some (.cells #[va, x, vc, vd, ve, vf, vg] T (0, 0)) := by simpa using blk_set H 1 x
theorem arr_set2 {W : World} {b T : Nat} {va vb vc vd ve vf vg : Value} (H : W.heap[b]? = some (.cells #[va, vb, vc, vd, ve, vf, vg] T (0, 0))) (x : Value) : (W.setCell ⟨b, 2, none⟩ x).heap[b]? = some (.cells #[va, vb, x, vd, ve, vf, vg] T (0, 0)) := by simpa using blk_set H 2 x
theorem arr_set3 {W : World} {b T : Nat} {va vb vc vd ve vf vg : Value} (H : W.heap[b]? = some (.cells #[va, vb, vc, vd, ve, vf, vg] T (0, 0))) (x : Value) : (W.setCell ⟨b, 3, none⟩ x).heap[b]? = some (.cells #[va, vb, vc, x, ve, vf, vg] T (0, 0)) := by simpa using blk_set H 3 x
theorem arr_set4 {W : World} {b T : Nat} {va vb vc vd ve vf vg : Value} (H : W.heap[b]? = some (.cells #[va, vb, vc, vd, ve, vf, vg] T (0, 0))) (x : Value) : (W.setCell ⟨b, 4, none⟩ x).heap[b]? = some (.cells #[va, vb, vc, vd, x, vf, vg] T (0, 0)) := by simpa using blk_set H 4 x
theorem arr_set5 {W : World} {b T : Nat} {va vb vc vd ve vf vg : Value} (H : W.heap[b]? = some (.cells #[va, vb, vc, vd, ve, vf, vg] T (0, 0))) (x : Value) : (W.setCell ⟨b, 5, none⟩ x).heap[b]? = some (.cells #[va, vb, vc, vd, ve, x, vg] T (0, 0)) := by simpa using blk_set H 5 x
theorem arr_set6 {W : World} {b T : Nat} {va vb vc vd ve vf vg : Value} (H : W.heap[b]? = some (.cells #[va, vb, vc, vd, ve, vf, vg] T (0, 0))) (x : Value) : (W.setCell ⟨b, 6, none⟩ x).heap[b]? = some (.cells #[va, vb, vc, vd, ve, vf, x] T (0, 0)) := by simpa using blk_set H 6 x
theorem month_more {y k d c : Int} (k0 : 1 ≤ k) (k1 : k ≤ 12) (h : d < 365 + lpZ y) (hc : c = d - cumZ y k) (hd : dimZ y k ≤ c) : k ≤ 11 := by
  by_cases e : k = 12
  · subst e
    have h3 := cumZ_le y 12 (by omega) (by omega)
    have h4 : cumZ y 12 + dimZ y 12 = 365 + lpZ y := by simp [cumZ, dimZ]; omega
    omega
  · omega
set_option maxHeartbeats 8000000 in
set_option maxRecDepth 100000 in
theorem ref_Of_calls (n : Int) (w : World) (n0 : 0 ≤ n) (n1 : n ≤ 18446744073709551615) : Calls Try.prog 21 #[.int .u64 n] w fun e w' => e = .returned (ofR n) ∧ Below w.heap.size w w' := by
  have q0 : 0 ≤ n / 86400000000 := by omega
  have q1 : n / 86400000000 ≤ 213503982 := by omega
  have h1970 : dbY 1970 = 719162 := by decide
  have h10 : dbY 10000 = 3652059 := by decide
  have H1970 := Aside0.mk h1970
  have H10 := Aside0.mk h10
  have HZ0 := Aside0.mk (show ((w.alloc (.cells #[.int .i64 0, .int .i64 0, .int .i64 0, .int .i64 0, .int .i64 0, .int .i64 0, .int .i64 0] 31)).alloc (arr7 1970 1 1)).heap[w.heap.size]? = some (arr7 0 0 0) from blk_alloc (blk_new _ _) _)
  have HZ1 := Aside0.mk (show ((w.alloc (.cells #[.int .i64 0, .int .i64 0, .int .i64 0, .int .i64 0, .int .i64 0, .int .i64 0, .int .i64 0] 31)).alloc (arr7 1970 1 1)).heap[w.heap.size + 1]? = some (arr7 1970 1 1) by have := blk_new (w.alloc (.cells #[.int .i64 0, .int .i64 0, .int .i64 0, .int .i64 0, .int .i64 0, .int .i64 0, .int .i64 0] 31)) (arr7 1970 1 1); simpa using this)
  clear h1970 h10
  go_enter Try.func21, Try.ntmps21
  go_wp2_with fail
  go_loopg [5] 8030 (fun kq v5 w' => ∃ y d : Int, y + kq = 10000 ∧ 1970 ≤ y ∧ 0 ≤ d ∧ d ≤ n / 86400000000 ∧ v5 = .int .u64 d ∧ Aside0 (d = n / 86400000000 - (dbY y - 719162)) ∧ Aside0 (Below w.heap.size w w') ∧ Aside0 (w'.heap[w.heap.size]? = some (arr7 0 0 0)) ∧ Aside0 (w'.heap[w.heap.size + 1]? = some (arr7 y 1 1)))
  case atStart => exact ⟨1970, n / 86400000000, by omega, by omega, by omega, by omega, rfl, ⟨by rw [H1970.out]; omega⟩, ⟨below_alloc (below_alloc (Below.refl _ _) _) _⟩, HZ0, HZ1⟩
  case round =>
    obtain ⟨y, d, hk, y0, d0, d1, rfl, HD, HB, HX0, HX1⟩ := hrel
    have HK := Aside0.mk hk
    have y1 : y ≤ 10000 := by omega
    clear hk
    have hs := dbY_succ y
    have HS := Aside0.mk hs
    have hl := lpZ_01 y
    have hl0 : 0 ≤ lpZ y := by omega
    have hl1 : lpZ y ≤ 1 := by omega
    clear hs hl
    have H1 := HX1.out
    have g0 := blk_cell H1 0
    have g1 := blk_cell H1 1
    have f0 := blk_frozen H1 0
    clear H1
    by_cases c1 : y ≤ 9999
    · by_cases c2 : 365 + lpZ y ≤ d
      · have H2 := Aside0.mk (show (wr.setCell ⟨w.heap.size + 1, 0, none⟩ (.int .i64 (y + 1))).heap[w.heap.size + 1]? = some (arr7 (y + 1) 1 1) by simpa using blk_set HX1.out 0 (.int .i64 (y + 1)))
        have H3 := Aside0.mk (show (wr.setCell ⟨w.heap.size + 1, 0, none⟩ (.int .i64 (y + 1))).heap[w.heap.size]? = some (arr7 0 0 0) from blk_far HX0.out (by simp) _)
        go_wp2_with ((go_at_call 53; with_reducible refine (ref_days_calls y _).mono ?_; rintro e w1 ⟨rfl, rfl⟩))
        go_roundg (10000 - (y + 1)).toNat
        case measure => have := HK.out; omega
        case rel => exact ⟨y + 1, d - (365 + lpZ y), by omega, by omega, by omega, by omega, rfl, ⟨by have := HS.out; have := HD.out; omega⟩, ⟨below_set HB.out _ (by show w.heap.size ≤ w.heap.size + 1; omega) _⟩, H3, H2⟩
      · have HDY := Aside0.mk (show y = dY (n / 86400000000) from of_year q0 (by have := HD.out; omega) (by have := HD.out; have := HS.out; omega))
        have hq9 : n / 86400000000 ≤ 2932896 := by have := HD.out; have := HS.out; have := H10.out; have := dbY_mono (y + 1) 10000 (by omega); omega
        have HOF := Aside0.mk (show ofR n = .tuple #[ofQ (n / 86400000000) n, .bool true] from if_pos hq9)
        have c2' : d < 365 + lpZ y := by omega
        have hd2 : d ≤ 365 := by omega
        clear c2
        go_wp2_with ((go_at_call 53; with_reducible refine (ref_days_calls y _).mono ?_; rintro e w1 ⟨rfl, rfl⟩))
        obtain ⟨wo, hwo⟩ : ∃ wo : World, wo = wr := ⟨_, rfl⟩
        subst hwo
        have HDD := Aside0.mk (show n / 86400000000 = dbY y - 719162 + d by have := HD.out; omega)
        go_loopg [5] 11 (fun kq v5 w' => ∃ k c : Int, k + kq = 12 ∧ 1 ≤ k ∧ 0 ≤ c ∧ c ≤ 366 ∧ v5 = .int .u64 c ∧ Aside0 (c = d - cumZ y k) ∧ Aside0 (Below w.heap.size w w') ∧ Aside0 (w'.heap[w.heap.size]? = some (arr7 0 0 0)) ∧ Aside0 (w'.heap[w.heap.size + 1]? = some (arr7 y k 1)))
        case atStart => exact ⟨1, d, by omega, by omega, by omega, by omega, rfl, ⟨by simp [cumZ]⟩, HB, HX0, HX1⟩
        case round =>
          obtain ⟨k, c, hkk, k0, e0, e1, rfl, HC, HB, HX0, HX1⟩ := hrel
          have HKK := Aside0.mk hkk
          have k1 : k ≤ 12 := by omega
          clear hkk g0 g1 f0
          have H1 := HX1.out
          have g0 := blk_cell H1 0
          have g1 := blk_cell H1 1
          have g2 := blk_cell H1 2
          have g3 := blk_cell H1 3
          have g4 := blk_cell H1 4
          have g5 := blk_cell H1 5
          have g6 := blk_cell H1 6
          have f1 := blk_frozen H1 1
          clear H1
          have HSC := Aside0.mk (cumZ_succ y k k0 k1)
          have hdz := dimZ_bd y k
          obtain ⟨z0, z1⟩ := hdz
          by_cases c3 : dimZ y k ≤ c
          · have hk12 : k ≤ 11 := month_more k0 k1 c2' HC.out c3
            go_wp2_with fail
            with_reducible refine (ref_Days_calls y k _).mono ?_
            rintro e w1 ⟨rfl, hb1⟩
            have HB1 := Aside0.mk (below_step HB.out hb1)
            have HX01 := Aside0.mk (blk_below HX0.out hb1)
            have HX11 := Aside0.mk (blk_below HX1.out hb1)
            clear hb1 g0 g1 g2 g3 g4 g5 g6 f1
            have H1 := HX11.out
            have g0 := blk_cell H1 0
            have g1 := blk_cell H1 1
            have g2 := blk_cell H1 2
            have g3 := blk_cell H1 3
            have g4 := blk_cell H1 4
            have g5 := blk_cell H1 5
            have g6 := blk_cell H1 6
            have f1 := blk_frozen H1 1
            have f2 := blk_frozen H1 2
            clear H1
            go_wp2_with fail
            with_reducible refine (ref_Days_calls y k _).mono ?_
            rintro e w2 ⟨rfl, hb1⟩
            have HB2 := Aside0.mk (below_step HB1.out hb1)
            have HX02 := Aside0.mk (blk_below HX01.out hb1)
            have HX12 := Aside0.mk (blk_below HX11.out hb1)
            clear hb1 g0 g1 g2 g3 g4 g5 g6 f1 f2
            have H1 := HX12.out
            have g0 := blk_cell H1 0
            have g1 := blk_cell H1 1
            have g2 := blk_cell H1 2
            have g3 := blk_cell H1 3
            have g4 := blk_cell H1 4
            have g5 := blk_cell H1 5
            have g6 := blk_cell H1 6
            have f1 := blk_frozen H1 1
            have f2 := blk_frozen H1 2
            clear H1
            go_wp2_with fail
            go_roundg (12 - (k + 1)).toNat
            case measure => have := HKK.out; omega
            case rel => exact ⟨k + 1, c - dimZ y k, by omega, by omega, by omega, by omega, rfl, ⟨by have := HC.out; have := HSC.out; omega⟩, ⟨below_set HB2.out _ (by show w.heap.size ≤ w.heap.size + 1; omega) _⟩, ⟨blk_far HX02.out (by simp) _⟩, ⟨by simpa using blk_set HX12.out 1 (.int .i64 (k + 1))⟩⟩
          · have c3' : c < dimZ y k := by omega
            clear c3
            go_wp2_with fail
            with_reducible refine (ref_Days_calls y k _).mono ?_
            rintro e w1 ⟨rfl, hb1⟩
            have HB1 := Aside0.mk (below_step HB.out hb1)
            have HX01 := Aside0.mk (blk_below HX0.out hb1)
            have HX11 := Aside0.mk (blk_below HX1.out hb1)
            clear hb1 g0 g1 g2 g3 g4 g5 g6 f1
            have H1 := HX11.out
            have g0 := blk_cell H1 0
            have g1 := blk_cell H1 1
            have g2 := blk_cell H1 2
            have g3 := blk_cell H1 3
            have g4 := blk_cell H1 4
            have g5 := blk_cell H1 5
            have g6 := blk_cell H1 6
            have f1 := blk_frozen H1 1
            have f2 := blk_frozen H1 2
            clear H1
            clear g0 g1 g2 g3 g4 g5 g6 f1 f2
            have f := blk_frozen HX11.out 2
            have g := blk_cell HX11.out 2
            go_upto_region 11 with fail
            go_cut [] (fun wx => ∃ x2 : Int, Aside0 (x2 = 1 + c) ∧ Aside0 (Below w.heap.size w wx) ∧ Aside0 (wx.heap[w.heap.size]? = some (arr7 0 0 0)) ∧ Aside0 (wx.heap[w.heap.size + 1]? = some (.cells #[.int .i64 y, .int .i64 k, .int .i64 x2, .int .i64 0, .int .i64 0, .int .i64 0, .int .i64 0] 31 (0, 0))))
            case first =>
              go_wp2_with fail
              go_meet
              refine ⟨_, ⟨?_⟩, ⟨below_set HB1.out _ (by show w.heap.size ≤ w.heap.size + 1; omega) _⟩, ⟨blk_far HX01.out (by simp) _⟩, ⟨arr_set2 HX11.out (.int .i64 _)⟩⟩
              first | rfl | omega
            case rest =>
            clear f g
            obtain ⟨x2, HV2, HB11, HX011, HX111⟩ := hcut
            have f := blk_frozen HX111.out 6
            have g := blk_cell HX111.out 6
            go_upto_region 13 with fail
            go_cut [] (fun wx => ∃ x6 : Int, Aside0 (x6 = n % 1000000) ∧ Aside0 (Below w.heap.size w wx) ∧ Aside0 (wx.heap[w.heap.size]? = some (arr7 0 0 0)) ∧ Aside0 (wx.heap[w.heap.size + 1]? = some (.cells #[.int .i64 y, .int .i64 k, .int .i64 x2, .int .i64 0, .int .i64 0, .int .i64 0, .int .i64 x6] 31 (0, 0))))
            case first =>
              go_wp2_with fail
              go_meet
              refine ⟨_, ⟨?_⟩, ⟨below_set HB11.out _ (by show w.heap.size ≤ w.heap.size + 1; omega) _⟩, ⟨blk_far HX011.out (by simp) _⟩, ⟨arr_set6 HX111.out (.int .i64 _)⟩⟩
              first | rfl | omega
            case rest =>
            clear f g
            obtain ⟨x6, HV6, HB13, HX013, HX113⟩ := hcut
            have f := blk_frozen HX113.out 5
            have g := blk_cell HX113.out 5
            go_upto_region 15 with fail
            go_cut [] (fun wx => ∃ x5 : Int, Aside0 (x5 = n % 86400000000 / 1000000 % 60) ∧ Aside0 (Below w.heap.size w wx) ∧ Aside0 (wx.heap[w.heap.size]? = some (arr7 0 0 0)) ∧ Aside0 (wx.heap[w.heap.size + 1]? = some (.cells #[.int .i64 y, .int .i64 k, .int .i64 x2, .int .i64 0, .int .i64 0, .int .i64 x5, .int .i64 x6] 31 (0, 0))))
            case first =>
              go_wp2_with fail
              go_meet
              refine ⟨_, ⟨?_⟩, ⟨below_set HB13.out _ (by show w.heap.size ≤ w.heap.size + 1; omega) _⟩, ⟨blk_far HX013.out (by simp) _⟩, ⟨arr_set5 HX113.out (.int .i64 _)⟩⟩
              first | rfl | omega
            case rest =>
            clear f g
            obtain ⟨x5, HV5, HB15, HX015, HX115⟩ := hcut
            have f := blk_frozen HX115.out 4
            have g := blk_cell HX115.out 4
            go_upto_region 16 with fail
            go_cut [] (fun wx => ∃ x4 : Int, Aside0 (x4 = n % 86400000000 / 60000000 % 60) ∧ Aside0 (Below w.heap.size w wx) ∧ Aside0 (wx.heap[w.heap.size]? = some (arr7 0 0 0)) ∧ Aside0 (wx.heap[w.heap.size + 1]? = some (.cells #[.int .i64 y, .int .i64 k, .int .i64 x2, .int .i64 0, .int .i64 x4, .int .i64 x5, .int .i64 x6] 31 (0, 0))))
            case first =>
              go_wp2_with fail
              go_meet
              refine ⟨_, ⟨?_⟩, ⟨below_set HB15.out _ (by show w.heap.size ≤ w.heap.size + 1; omega) _⟩, ⟨blk_far HX015.out (by simp) _⟩, ⟨arr_set4 HX115.out (.int .i64 _)⟩⟩
              first | rfl | omega
            case rest =>
            clear f g
            obtain ⟨x4, HV4, HB16, HX016, HX116⟩ := hcut
            have f := blk_frozen HX116.out 3
            have g := blk_cell HX116.out 3
            go_upto_region 17 with fail
            go_cut [] (fun wx => ∃ x3 : Int, Aside0 (x3 = n % 86400000000 / 3600000000) ∧ Aside0 (Below w.heap.size w wx) ∧ Aside0 (wx.heap[w.heap.size]? = some (arr7 0 0 0)) ∧ Aside0 (wx.heap[w.heap.size + 1]? = some (.cells #[.int .i64 y, .int .i64 k, .int .i64 x2, .int .i64 x3, .int .i64 x4, .int .i64 x5, .int .i64 x6] 31 (0, 0))))
            case first =>
              go_wp2_with fail
              go_meet
              refine ⟨_, ⟨?_⟩, ⟨below_set HB16.out _ (by show w.heap.size ≤ w.heap.size + 1; omega) _⟩, ⟨blk_far HX016.out (by simp) _⟩, ⟨arr_set3 HX116.out (.int .i64 _)⟩⟩
              first | rfl | omega
            case rest =>
            clear f g
            obtain ⟨x3, HV3, HB17, HX017, HX117⟩ := hcut
            have H1 := HX117.out
            have g0 := blk_cell H1 0
            have g1 := blk_cell H1 1
            have g2 := blk_cell H1 2
            have g3 := blk_cell H1 3
            have g4 := blk_cell H1 4
            have g5 := blk_cell H1 5
            have g6 := blk_cell H1 6
            have H0 := HX017.out
            have f0 := blk_frozen H0 0
            have f1 := blk_frozen H0 1
            have f2 := blk_frozen H0 2
            have f3 := blk_frozen H0 3
            have f4 := blk_frozen H0 4
            have f5 := blk_frozen H0 5
            have f6 := blk_frozen H0 6
            have r0 := blk_cell H0 0
            have r1 := blk_cell H0 1
            have r2 := blk_cell H0 2
            have r3 := blk_cell H0 3
            have r4 := blk_cell H0 4
            have r5 := blk_cell H0 5
            have r6 := blk_cell H0 6
            clear H0 H1
            go_wp2_with fail
            refine bodyPost_ret (v := .tuple #[.agg #[.int .i64 y, .int .i64 k, .int .i64 x2, .int .i64 x3, .int .i64 x4, .int .i64 x5, .int .i64 x6], .bool true]) (by simp [results, Try.results21, go_sem, r0, r1, r2, r3, r4, r5, r6]) rfl ⟨?_, ?_⟩
            · rw [HOF.out]
              have hdd := HDD.out
              have hdy := HDY.out
              have hcc := HC.out
              have hmo := of_month (q := n / 86400000000) (k := k) q0 k0 k1 (by rw [← hdy]; omega) (by rw [← hdy]; omega)
              exact ret_time hdy hmo.1 (by have := HV2.out; have := hmo.2; rw [← hdy] at this; omega) (by rw [HV3.out]; rfl) (by rw [HV4.out]; rfl) (by rw [HV5.out]; rfl) (by rw [HV6.out]; rfl)
            · exact below_set (below_set (below_set (below_set (below_set (below_set (below_set HB17.out _ (Nat.le_refl _) _) _ (Nat.le_refl _) _) _ (Nat.le_refl _) _) _ (Nat.le_refl _) _) _ (Nat.le_refl _) _) _ (Nat.le_refl _) _) _ (Nat.le_refl _) _
    · have hy9 : 9999 < y := by omega
      have hq9 : ¬ n / 86400000000 ≤ 2932896 := by
        have h1 := HD.out; have h2 := H10.out; have e : y = 10000 := by omega
        rw [e] at h1; omega
      have HOF := Aside0.mk (show ofR n = .tuple #[noV, .bool false] from if_neg hq9)
      have H0 := HX0.out
      have r0 := blk_cell H0 0
      have r1 := blk_cell H0 1
      have r2 := blk_cell H0 2
      have r3 := blk_cell H0 3
      have r4 := blk_cell H0 4
      have r5 := blk_cell H0 5
      have r6 := blk_cell H0 6
      have f1 := blk_frozen H0 0
      have f2 := blk_frozen H0 1
      have f3 := blk_frozen H0 2
      have f4 := blk_frozen H0 3
      have f5 := blk_frozen H0 4
      have f6 := blk_frozen H0 5
      have f7 := blk_frozen H0 6
      clear H0 c1
      go_wp2
      refine bodyPost_ret (v := .tuple #[noV, .bool false]) (by simp [results, Try.results21, go_sem, r0, r1, r2, r3, r4, r5, r6]) rfl ⟨by rw [HOF.out], ?_⟩
      exact below_set (below_set (below_set (below_set (below_set (below_set (below_set HB.out _ (Nat.le_refl _) _) _ (Nat.le_refl _) _) _ (Nat.le_refl _) _) _ (Nat.le_refl _) _) _ (Nat.le_refl _) _) _ (Nat.le_refl _) _) _ (Nat.le_refl _) _
end Go.Proofs.Ytekbidjfddanhaa
