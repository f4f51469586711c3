/- Contracts of the reference's calendar: microseconds of a time, and the time behind them. -/
import Derived.Test.YtplmdgimodgekaaCiv3
namespace Go.Proofs.Ytplmdgimodgekaa
open Go.RowKit Go.Proofs.YtplmdgimodgekaaW.PrintWords Go.Proofs.YtplmdgimodgekaaW.PrintLast Go.Proofs.YtplmdgimodgekaaW.PrintMore
attribute [local go_sem] max2_int min2_int max_two min_two max_three min_three max_four min_four   -- for this text's walks alone
set_option linter.unusedVariables false
set_option linter.unusedSimpArgs false

theorem micros_day (c h i s u : Int) : c * 86400000000 + (60 * (60 * h + i) + s) * 1000000 + u = (((c * 24 + h) * 60 + i) * 60 + s) * 1000000 + u := by omega
set_option maxHeartbeats 8000000 in
set_option maxRecDepth 100000 in
theorem ref_Micros_calls (y m d h i s u : Int) (w : World) (hr : rightB y m d h i s u = true) : Calls Try.prog 79 #[.agg #[.int .i64 y, .int .i64 m, .int .i64 d, .int .i64 h, .int .i64 i, .int .i64 s, .int .i64 u]] w fun e w' => e = .returned (.int .u64 (microsZ y m d h i s u)) ∧ Below w.heap.size w w' := by
  obtain ⟨⟨y0, y1⟩, ⟨m0, m1⟩, ⟨d0, d1⟩, ⟨h0, h1⟩, ⟨i0, i1⟩, ⟨s0, s1⟩, ⟨u0, u1⟩⟩ := rightB_yes hr
  have hd := dimZ_bd y m
  have d2 : d ≤ 31 := by omega
  have hb := dayZ_bd y0 y1 ⟨m0, m1, d0, d1⟩
  have h1970 : dbY 1970 = 719162 := by decide
  have HB0 := blk_new w (.cells #[.int .i64 y, .int .i64 m, .int .i64 d, .int .i64 h, .int .i64 i, .int .i64 s, .int .i64 u] 138)
  have HH0 := Aside0.mk HB0
  have H1970 := Aside0.mk h1970
  clear hr hd d1 HB0 h1970
  go_enter Try.func79, Try.ntmps79
  go_wp2_with fail
  go_loop [3, 4] (fun v3 v4 => ∃ x : Int, 1970 ≤ x ∧ x ≤ y ∧ v4 = .int .i64 x ∧ v3 = .int .u64 (dbY x - 719162)) (fun _ v4 => (y - intOf v4).toNat)
  case atStart => exact ⟨1970, by omega, by omega, rfl, by rw [H1970.out]; rfl⟩
  case round =>
    obtain ⟨x, x0, x1, rfl, rfl⟩ := hrel
    have hx0 := dbY_mono 1970 x x0
    have hx1 := dbY_mono x 9999 (by omega)
    have h9 : dbY 9999 = 3651694 := by decide
    rw [H1970.out] at hx0
    rw [h9] at hx1
    obtain ⟨N, hN⟩ : ∃ N, dbY x - 719162 = N := ⟨_, rfl⟩
    have HN := Aside0.mk hN
    have hs := dbY_succ x
    have HS := Aside0.mk (show dbY (x + 1) - 719162 = N + (365 + lpZ x) by omega)
    have hl := lpZ_01 x
    have hl0 : 0 ≤ lpZ x := by omega
    have hl1 : lpZ x ≤ 1 := by omega
    have n0 : 0 ≤ N := by omega
    have n1 : N ≤ 3652059 := by omega
    clear hl hs hN hx0 hx1 h9
    rw [HN.out]
    by_cases c : x < y
    · go_wp2_with fail
      refine (ref_days_calls x _).mono ?_
      rintro e w1 ⟨rfl, rfl⟩
      go_wp2_with fail
      go_round
      case rel => exact ⟨x + 1, by omega, by omega, by go_num, by rw [HS.out]⟩
      case measure => simp [intOf]; omega
    · obtain rfl : x = y := by omega
      go_wp2_with fail
      go_loopw [3, 5] (fun v3 v5 w' => ∃ k : Int, 1 ≤ k ∧ k ≤ m ∧ v5 = .int .i64 k ∧ v3 = .int .u64 (N + cumZ x k) ∧ Aside0 (Below w.heap.size w w') ∧ Aside0 (w'.heap[w.heap.size]? = some (.cells #[.int .i64 x, .int .i64 m, .int .i64 d, .int .i64 h, .int .i64 i, .int .i64 s, .int .i64 u] 138 (0, 0)))) (fun _ v5 _ => (m - intOf v5).toNat)
      case atStart => exact ⟨1, by omega, by omega, rfl, by simp [cumZ], ⟨below_alloc (Below.refl _ _) _⟩, HH0⟩
      case round =>
        obtain ⟨k, k0, k1, rfl, rfl, HB, HX⟩ := hrel
        have hc := cumZ_le x k k0 (by omega)
        have hs := cumZ_succ x k k0 (by omega)
        have hl := lpZ_01 x
        obtain ⟨C, hC⟩ : ∃ C, cumZ x k = C := ⟨_, rfl⟩
        have HC := Aside0.mk hC
        have hdd := dimZ_bd x k
        have HS := Aside0.mk (show cumZ x (k + 1) = C + dimZ x k by omega)
        obtain ⟨hd0, hd1⟩ := hdd
        have c0 : 0 ≤ C := by omega
        have c1 : C ≤ 366 := by omega
        clear hs hc hC hl
        rw [HC.out]
        have H1 := HX.out
        have g0 := blk_cell H1 0
        have g1 := blk_cell H1 1
        have g2 := blk_cell H1 2
        have g3 := blk_cell H1 3
        have g4 := blk_cell H1 4
        have g5 := blk_cell H1 5
        have g6 := blk_cell H1 6
        clear H1
        by_cases c2 : k < m
        · go_wp2_with fail
          refine (ref_Days_calls x k _).mono ?_
          rintro e w1 ⟨rfl, hb1⟩
          have HB1 := Aside0.mk (below_step HB.out hb1)
          have HX1 := Aside0.mk (blk_below HX.out hb1)
          clear hb1 g0 g1 g2 g3 g4 g5 g6
          go_wp2_with fail
          go_roundw
          case rel => exact ⟨k + 1, by omega, by omega, by go_num, by rw [HS.out, Int.add_assoc], HB1, HX1⟩
          case measure => simp [intOf]; omega
        · obtain rfl : k = m := by omega
          have HE := Aside0.mk (show microsZ x k d h i s u = (((N + C + d - 1) * 24 + h) * 60 + i) * 60 * 1000000 + s * 1000000 + u by
            have := HN.out; have := HC.out; unfold microsZ dayZ; omega)
          go_wp2
          go_ret
          exact ⟨ret_int (by have := HE.out; omega), HB.out⟩
theorem below_set {w W : World} (h : Below w.heap.size w W) (p : Addr) (hg : w.heap.size ≤ p.block) (v : Value) : Below w.heap.size w (W.setCell p v) := h.setCell hg v
abbrev arr7 (y m d : Int) : Obj := .cells #[.int .i64 y, .int .i64 m, .int .i64 d, .int .i64 0, .int .i64 0, .int .i64 0, .int .i64 0] 138 (0, 0)
/-- Days and months of the reference's search. -/
theorem of_year {q y : Int} (h0 : 0 ≤ q) (h1 : dbY y - 719162 ≤ q) (h2 : q < dbY (y + 1) - 719162) : y = dY q := by
  obtain ⟨⟨a, b, c, e⟩, f⟩ := of_day q h0
  have h3 := cumZ_le (dY q) (dM q) a b
  have h4 := dbY_succ (dY q)
  unfold dayZ at f
  by_cases c1 : y < dY q
  · have := dbY_mono (y + 1) (dY q) (by omega); omega
  · by_cases c2 : dY q < y
    · have := dbY_mono (dY q + 1) y (by omega); omega
    · omega
theorem of_month {q k : Int} (h0 : 0 ≤ q) (k0 : 1 ≤ k) (k1 : k ≤ 12) (h1 : dbY (dY q) - 719162 + cumZ (dY q) k ≤ q) (h2 : q < dbY (dY q) - 719162 + cumZ (dY q) k + dimZ (dY q) k) : k = dM q ∧ q - (dbY (dY q) - 719162 + cumZ (dY q) k) + 1 = dD q := by
  obtain ⟨⟨a, b, c, e⟩, f⟩ := of_day q h0
  unfold dayZ at f
  by_cases c1 : k < dM q
  · have := cumZ_mono (dY q) k (dM q) k0 c1 b; omega
  · by_cases c2 : dM q < k
    · have := cumZ_mono (dY q) (dM q) k a c2 k1; omega
    · have : k = dM q := by omega
      subst this
      exact ⟨rfl, by omega⟩
/-- What Of tells. -/
def ofR (n : Int) : Value := if n / 86400000000 ≤ 2932896 then .tuple #[ofQ (n / 86400000000) n, .bool true] else .tuple #[noV, .bool false]
theorem arr_set0 {W : World} {b T : Nat} {va vb vc vd ve vf vg : Value} (H : W.heap[b]? = some (.cells #[va, vb, vc, vd, ve, vf, vg] T (0, 0))) (x : Value) : (W.setCell ⟨b, 0, none⟩ x).heap[b]? = some (.cells #[x, vb, vc, vd, ve, vf, vg] T (0, 0)) := by simpa using blk_set H 0 x
theorem arr_set1 {W : World} {b T : Nat} {va vb vc vd ve vf vg : Value} (H : W.heap[b]? = some (.cells #[va, vb, vc, vd, ve, vf, vg] T (0, 0))) (x : Value) : (W.setCell ⟨b, 1, none⟩ x).heap[b]? = some (.cells #[va, x, vc, vd, ve, vf, vg] T (0, 0)) := by simpa using blk_set H 1 x
theorem arr_set2 {W : World} {b T : Nat} {va vb vc vd ve vf vg : Value} (H : W.heap[b]? = some (.cells #[va, vb, vc, vd, ve, vf, vg] T (0, 0))) (x : Value) : (W.setCell ⟨b, 2, none⟩ x).heap[b]? = some (.cells #[va, vb, x, vd, ve, vf, vg] T (0, 0)) := by simpa using blk_set H 2 x
theorem arr_set3 {W : World} {b T : Nat} {va vb vc vd ve vf vg : Value} (H : W.heap[b]? = some (.cells #[va, vb, vc, vd, ve, vf, vg] T (0, 0))) (x : Value) : (W.setCell ⟨b, 3, none⟩ x).heap[b]? = some (.cells #[va, vb, vc, x, ve, vf, vg] T (0, 0)) := by simpa using blk_set H 3 x
theorem arr_set4 {W : World} {b T : Nat} {va vb vc vd ve vf vg : Value} (H : W.heap[b]? = some (.cells #[va, vb, vc, vd, ve, vf, vg] T (0, 0))) (x : Value) : (W.setCell ⟨b, 4, none⟩ x).heap[b]? = some (.cells #[va, vb, vc, vd, x, vf, vg] T (0, 0)) := by simpa using blk_set H 4 x
theorem arr_set5 {W : World} {b T : Nat} {va vb vc vd ve vf vg : Value} (H : W.heap[b]? = some (.cells #[va, vb, vc, vd, ve, vf, vg] T (0, 0))) (x : Value) : (W.setCell ⟨b, 5, none⟩ x).heap[b]? = some (.cells #[va, vb, vc, vd, ve, x, vg] T (0, 0)) := by simpa using blk_set H 5 x
theorem arr_set6 {W : World} {b T : Nat} {va vb vc vd ve vf vg : Value} (H : W.heap[b]? = some (.cells #[va, vb, vc, vd, ve, vf, vg] T (0, 0))) (x : Value) : (W.setCell ⟨b, 6, none⟩ x).heap[b]? = some (.cells #[va, vb, vc, vd, ve, vf, x] T (0, 0)) := by simpa using blk_set H 6 x
theorem month_more {y k d c : Int} (k0 : 1 ≤ k) (k1 : k ≤ 12) (h : d < 365 + lpZ y) (hc : c = d - cumZ y k) (hd : dimZ y k ≤ c) : k ≤ 11 := by
  by_cases e : k = 12
  · subst e
    have h3 := cumZ_le y 12 (by omega) (by omega)
    have h4 : cumZ y 12 + dimZ y 12 = 365 + lpZ y := by simp [cumZ, dimZ]; omega
    omega
  · omega
end Go.Proofs.Ytplmdgimodgekaa
