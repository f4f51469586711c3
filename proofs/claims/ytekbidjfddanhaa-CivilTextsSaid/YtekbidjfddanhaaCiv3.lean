/- Contracts of package civil: the time behind a number; the law's own helpers. -/
import Derived.Test.YtekbidjfddanhaaCiv2
namespace Go.Proofs.Ytekbidjfddanhaa
open Go.RowKit Go.Proofs.YtekbidjfddanhaaW.PrintWords Go.Proofs.YtekbidjfddanhaaW.PrintLast Go.Proofs.YtekbidjfddanhaaW.PrintMore
attribute [local go_sem] max2_int min2_int max_two min_two max_three min_three max_four min_four   -- for this text's walks alone
set_option linter.unusedVariables false
set_option linter.unusedSimpArgs false

theorem dayZ_9999 {y m d : Int} (h : YMD y m d) : y ≤ 9999 ↔ dayZ y m d ≤ 2932896 := by
  obtain ⟨a, b, c, e⟩ := h
  have h2 := cumZ_le y m a b
  have h5 := dbY_succ y
  have h7 : dbY 10000 = 3652059 := by decide
  unfold dayZ
  constructor
  · intro h
    have h4 := dbY_mono (y + 1) 10000 (by omega)
    omega
  · intro h
    by_cases c : y ≤ 9999
    · exact c
    · have h4 := dbY_mono 10000 y (by omega)
      omega
theorem dY_9999 (n : Int) (h0 : 0 ≤ n) : dY n ≤ 9999 ↔ n ≤ 2932896 := by
  obtain ⟨h, e⟩ := of_day n h0
  rw [dayZ_9999 h, e]
theorem dY_1970 (n : Int) (h0 : 0 ≤ n) : 1970 ≤ dY n := by
  obtain ⟨h, e⟩ := of_day n h0
  obtain ⟨a, b, c, d⟩ := h
  by_cases hh : 1970 ≤ dY n
  · exact hh
  · have h2 := cumZ_le (dY n) (dM n) a b
    have h3 := dbY_mono (dY n + 1) 1970 (by omega)
    have h5 := dbY_succ (dY n)
    have h6 : dbY 1970 = 719162 := by decide
    unfold dayZ at e
    omega
/-- The parts of a day. -/
def tH (n : Int) : Int := n % 86400000000 / 3600000000
def tI (n : Int) : Int := n % 86400000000 / 60000000 % 60
def tS (n : Int) : Int := n % 86400000000 / 1000000 % 60
def tU (n : Int) : Int := n % 1000000
/-- The time behind n microseconds. -/
abbrev ofQ (q n : Int) : Value := .agg #[.int .i64 (dY q), .int .i64 (dM q), .int .i64 (dD q), .int .i64 (tH n), .int .i64 (tI n), .int .i64 (tS n), .int .i64 (tU n)]
abbrev noV : Value := .agg #[.int .i64 0, .int .i64 0, .int .i64 0, .int .i64 0, .int .i64 0, .int .i64 0, .int .i64 0]
theorem ret_time {y m d h i s u y' m' d' h' i' s' u' : Int} {b : Bool} (e1 : y = y') (e2 : m = m') (e3 : d = d') (e4 : h = h') (e5 : i = i') (e6 : s = s') (e7 : u = u') : Ending.returned (.tuple #[.agg #[.int .i64 y, .int .i64 m, .int .i64 d, .int .i64 h, .int .i64 i, .int .i64 s, .int .i64 u], .bool b]) = .returned (.tuple #[.agg #[.int .i64 y', .int .i64 m', .int .i64 d', .int .i64 h', .int .i64 i', .int .i64 s', .int .i64 u'], .bool b]) := by subst e1 e2 e3 e4 e5 e6 e7; rfl
set_option maxHeartbeats 8000000 in
set_option maxRecDepth 100000 in
theorem civil_Of_far (n : Int) (w : World) (h0 : 0 ≤ n) (h1 : n ≤ 18446744073709551615) (h2 : 3000000 < n / 86400000000) : Calls Try.prog 20 #[.int .u64 n] w fun e w' => e = .returned (.tuple #[noV, .bool false]) ∧ Below w.heap.size w w' := by
  go_enter Try.func20, Try.ntmps20
  go_wp2
  exact bodyPost_ret (v := .tuple #[noV, .bool false]) (by simp [results, Try.results20, go_sem]) rfl ⟨rfl, below_alloc (Below.refl _ _) _⟩
set_option maxHeartbeats 8000000 in
set_option maxRecDepth 100000 in
theorem civil_Of_near11 (n q : Int) (w : World) (h0 : 0 ≤ n) (h1 : n ≤ 18446744073709551615) (hq : n / 86400000000 = q) (h2 : q ≤ 3000000) (c :  mR ((q + 719468) % 146097) ≤ 9) (hy : dY q ≤ 9999) : Calls Try.prog 20 #[.int .u64 n] w fun e w' => e = .returned (.tuple #[ofQ q n, .bool true]) ∧ Below w.heap.size w w' := by
  have hq0 : 0 ≤ q := by omega
  obtain ⟨HY, HD⟩ := of_day q hq0
  have hy2 := dY_1970 q hq0
  have HH := Aside0.mk (show tH n = n % 86400000000 / 3600000000 from rfl)
  have HI := Aside0.mk (show tI n = n % 86400000000 / 60000000 % 60 from rfl)
  have HS := Aside0.mk (show tS n = n % 86400000000 / 1000000 % 60 from rfl)
  have HU := Aside0.mk (show tU n = n % 1000000 from rfl)
  have EY := Aside0.mk (show dY q = 400 * ((q + 719468) / 146097) + yR ((q + 719468) % 146097) + 0 by rw [dY, if_pos c])
  have EM := Aside0.mk (show dM q = mR ((q + 719468) % 146097) + 3 by rw [dM, if_pos c])
  have ED := Aside0.mk (show dD q = r2R ((q + 719468) % 146097) - (153 * mR ((q + 719468) % 146097) + 2) / 5 + 1 from rfl)
  obtain ⟨D, hD⟩ : ∃ D, q + 719468 = D := ⟨_, rfl⟩
  rw [hD] at c EY EM ED
  have hr0 : 0 ≤ D % 146097 := by omega
  have hr1 : D % 146097 ≤ 146096 := by omega
  obtain ⟨E, hE⟩ : ∃ E, D / 146097 = E := ⟨_, rfl⟩
  obtain ⟨r, hr⟩ : ∃ r, D % 146097 = r := ⟨_, rfl⟩
  rw [hr] at c hr0 hr1 EY EM ED
  rw [hE] at EY
  have hE0 : 0 ≤ E := by omega
  have hE1 : E ≤ 30 := by omega
  have hR := era_year r _ hr0 hr1 rfl
  have hY : (r - r / 1460 + r / 36524 - r / 146096) / 365 = yR r := rfl
  rw [hY] at hR
  have hR2 : r - (365 * yR r + yR r / 4 - yR r / 100) = r2R r := rfl
  have hM : (5 * r2R r + 2) / 153 = mR r := rfl
  obtain ⟨Y, hYY⟩ : ∃ Y, yR r = Y := ⟨_, rfl⟩
  rw [hYY] at hR hR2 EY hY
  obtain ⟨r2, hr2⟩ : ∃ x, r2R r = x := ⟨_, rfl⟩
  rw [hr2] at hR2 hM ED
  obtain ⟨M, hMM⟩ : ∃ x, mR r = x := ⟨_, rfl⟩
  rw [hMM] at c hM EM ED
  obtain ⟨hY0, hY1, hY2, hY3⟩ := hR
  have hr20 : 0 ≤ r2 := by omega
  have hr21 : r2 ≤ 366 := by omega
  have hM0 : 0 ≤ M := by omega
  have hM1 : M ≤ 12 := by omega
  rw [EY.out] at hy hy2
  have hrr : (D : Int).tmod 146097 = r := by rw [Int.tmod_eq_emod_of_nonneg (by omega)]; exact hr
  clear hYY hr2 hMM hY2 hY3 HY HD h1
  go_enter Try.func20, Try.ntmps20
  go_wp2
  refine bodyPost_ret (v := .tuple #[.agg #[.int .i64 (400 * E + Y), .int .i64 (M + 3), .int .i64 (r2 - (153 * M + 2) / 5 + 1), .int .i64 (n % 86400000000 / 3600000000), .int .i64 (n % 86400000000 / 60000000 % 60), .int .i64 (n % 86400000000 / 1000000 % 60), .int .i64 (n % 1000000)], .bool true]) (by simp [results, Try.results20, go_sem]) rfl ⟨?_, ?_⟩
  · exact ret_time (by have := EY.out; omega) (by have := EM.out; omega) (by have := ED.out; omega) (by rw [HH.out]) (by rw [HI.out]) (by rw [HS.out]) (by rw [HU.out])
  · exact below_alloc (below_alloc (Below.refl _ _) _) _
set_option maxHeartbeats 8000000 in
set_option maxRecDepth 100000 in
theorem civil_Of_near10 (n q : Int) (w : World) (h0 : 0 ≤ n) (h1 : n ≤ 18446744073709551615) (hq : n / 86400000000 = q) (h2 : q ≤ 3000000) (c :  mR ((q + 719468) % 146097) ≤ 9) (hy : 9999 < dY q) : Calls Try.prog 20 #[.int .u64 n] w fun e w' => e = .returned (.tuple #[noV, .bool false]) ∧ Below w.heap.size w w' := by
  have hq0 : 0 ≤ q := by omega
  obtain ⟨HY, HD⟩ := of_day q hq0
  have hy2 := dY_1970 q hq0
  have HH := Aside0.mk (show tH n = n % 86400000000 / 3600000000 from rfl)
  have HI := Aside0.mk (show tI n = n % 86400000000 / 60000000 % 60 from rfl)
  have HS := Aside0.mk (show tS n = n % 86400000000 / 1000000 % 60 from rfl)
  have HU := Aside0.mk (show tU n = n % 1000000 from rfl)
  have EY := Aside0.mk (show dY q = 400 * ((q + 719468) / 146097) + yR ((q + 719468) % 146097) + 0 by rw [dY, if_pos c])
  have EM := Aside0.mk (show dM q = mR ((q + 719468) % 146097) + 3 by rw [dM, if_pos c])
  have ED := Aside0.mk (show dD q = r2R ((q + 719468) % 146097) - (153 * mR ((q + 719468) % 146097) + 2) / 5 + 1 from rfl)
  obtain ⟨D, hD⟩ : ∃ D, q + 719468 = D := ⟨_, rfl⟩
  rw [hD] at c EY EM ED
  have hr0 : 0 ≤ D % 146097 := by omega
  have hr1 : D % 146097 ≤ 146096 := by omega
  obtain ⟨E, hE⟩ : ∃ E, D / 146097 = E := ⟨_, rfl⟩
  obtain ⟨r, hr⟩ : ∃ r, D % 146097 = r := ⟨_, rfl⟩
  rw [hr] at c hr0 hr1 EY EM ED
  rw [hE] at EY
  have hE0 : 0 ≤ E := by omega
  have hE1 : E ≤ 30 := by omega
  have hR := era_year r _ hr0 hr1 rfl
  have hY : (r - r / 1460 + r / 36524 - r / 146096) / 365 = yR r := rfl
  rw [hY] at hR
  have hR2 : r - (365 * yR r + yR r / 4 - yR r / 100) = r2R r := rfl
  have hM : (5 * r2R r + 2) / 153 = mR r := rfl
  obtain ⟨Y, hYY⟩ : ∃ Y, yR r = Y := ⟨_, rfl⟩
  rw [hYY] at hR hR2 EY hY
  obtain ⟨r2, hr2⟩ : ∃ x, r2R r = x := ⟨_, rfl⟩
  rw [hr2] at hR2 hM ED
  obtain ⟨M, hMM⟩ : ∃ x, mR r = x := ⟨_, rfl⟩
  rw [hMM] at c hM EM ED
  obtain ⟨hY0, hY1, hY2, hY3⟩ := hR
  have hr20 : 0 ≤ r2 := by omega
  have hr21 : r2 ≤ 366 := by omega
  have hM0 : 0 ≤ M := by omega
  have hM1 : M ≤ 12 := by omega
  rw [EY.out] at hy hy2
  have hrr : (D : Int).tmod 146097 = r := by rw [Int.tmod_eq_emod_of_nonneg (by omega)]; exact hr
  clear hYY hr2 hMM hY2 hY3 HY HD h1
  go_enter Try.func20, Try.ntmps20
  go_wp2
  refine bodyPost_ret (v := .tuple #[noV, .bool false]) (by simp [results, Try.results20, go_sem]) rfl ⟨?_, ?_⟩
  · rfl
  · exact below_alloc (below_alloc (Below.refl _ _) _) _
set_option maxHeartbeats 8000000 in
set_option maxRecDepth 100000 in
theorem civil_Of_near01 (n q : Int) (w : World) (h0 : 0 ≤ n) (h1 : n ≤ 18446744073709551615) (hq : n / 86400000000 = q) (h2 : q ≤ 3000000) (c : ¬ mR ((q + 719468) % 146097) ≤ 9) (hy : dY q ≤ 9999) : Calls Try.prog 20 #[.int .u64 n] w fun e w' => e = .returned (.tuple #[ofQ q n, .bool true]) ∧ Below w.heap.size w w' := by
  have hq0 : 0 ≤ q := by omega
  obtain ⟨HY, HD⟩ := of_day q hq0
  have hy2 := dY_1970 q hq0
  have HH := Aside0.mk (show tH n = n % 86400000000 / 3600000000 from rfl)
  have HI := Aside0.mk (show tI n = n % 86400000000 / 60000000 % 60 from rfl)
  have HS := Aside0.mk (show tS n = n % 86400000000 / 1000000 % 60 from rfl)
  have HU := Aside0.mk (show tU n = n % 1000000 from rfl)
  have EY := Aside0.mk (show dY q = 400 * ((q + 719468) / 146097) + yR ((q + 719468) % 146097) + 1 by rw [dY, if_neg c])
  have EM := Aside0.mk (show dM q = mR ((q + 719468) % 146097) - 9 by rw [dM, if_neg c])
  have ED := Aside0.mk (show dD q = r2R ((q + 719468) % 146097) - (153 * mR ((q + 719468) % 146097) + 2) / 5 + 1 from rfl)
  obtain ⟨D, hD⟩ : ∃ D, q + 719468 = D := ⟨_, rfl⟩
  rw [hD] at c EY EM ED
  have hr0 : 0 ≤ D % 146097 := by omega
  have hr1 : D % 146097 ≤ 146096 := by omega
  obtain ⟨E, hE⟩ : ∃ E, D / 146097 = E := ⟨_, rfl⟩
  obtain ⟨r, hr⟩ : ∃ r, D % 146097 = r := ⟨_, rfl⟩
  rw [hr] at c hr0 hr1 EY EM ED
  rw [hE] at EY
  have hE0 : 0 ≤ E := by omega
  have hE1 : E ≤ 30 := by omega
  have hR := era_year r _ hr0 hr1 rfl
  have hY : (r - r / 1460 + r / 36524 - r / 146096) / 365 = yR r := rfl
  rw [hY] at hR
  have hR2 : r - (365 * yR r + yR r / 4 - yR r / 100) = r2R r := rfl
  have hM : (5 * r2R r + 2) / 153 = mR r := rfl
  obtain ⟨Y, hYY⟩ : ∃ Y, yR r = Y := ⟨_, rfl⟩
  rw [hYY] at hR hR2 EY hY
  obtain ⟨r2, hr2⟩ : ∃ x, r2R r = x := ⟨_, rfl⟩
  rw [hr2] at hR2 hM ED
  obtain ⟨M, hMM⟩ : ∃ x, mR r = x := ⟨_, rfl⟩
  rw [hMM] at c hM EM ED
  obtain ⟨hY0, hY1, hY2, hY3⟩ := hR
  have hr20 : 0 ≤ r2 := by omega
  have hr21 : r2 ≤ 366 := by omega
  have hM0 : 0 ≤ M := by omega
  have hM1 : M ≤ 12 := by omega
  rw [EY.out] at hy hy2
  have hrr : (D : Int).tmod 146097 = r := by rw [Int.tmod_eq_emod_of_nonneg (by omega)]; exact hr
  clear hYY hr2 hMM hY2 hY3 HY HD h1
  go_enter Try.func20, Try.ntmps20
  go_wp2
  refine bodyPost_ret (v := .tuple #[.agg #[.int .i64 (400 * E + Y + 1), .int .i64 (M + 3 - 12), .int .i64 (r2 - (153 * M + 2) / 5 + 1), .int .i64 (n % 86400000000 / 3600000000), .int .i64 (n % 86400000000 / 60000000 % 60), .int .i64 (n % 86400000000 / 1000000 % 60), .int .i64 (n % 1000000)], .bool true]) (by simp [results, Try.results20, go_sem]) rfl ⟨?_, ?_⟩
  · exact ret_time (by have := EY.out; omega) (by have := EM.out; omega) (by have := ED.out; omega) (by rw [HH.out]) (by rw [HI.out]) (by rw [HS.out]) (by rw [HU.out])
  · exact below_alloc (below_alloc (Below.refl _ _) _) _
set_option maxHeartbeats 8000000 in
set_option maxRecDepth 100000 in
theorem civil_Of_near00 (n q : Int) (w : World) (h0 : 0 ≤ n) (h1 : n ≤ 18446744073709551615) (hq : n / 86400000000 = q) (h2 : q ≤ 3000000) (c : ¬ mR ((q + 719468) % 146097) ≤ 9) (hy : 9999 < dY q) : Calls Try.prog 20 #[.int .u64 n] w fun e w' => e = .returned (.tuple #[noV, .bool false]) ∧ Below w.heap.size w w' := by
  have hq0 : 0 ≤ q := by omega
  obtain ⟨HY, HD⟩ := of_day q hq0
  have hy2 := dY_1970 q hq0
  have HH := Aside0.mk (show tH n = n % 86400000000 / 3600000000 from rfl)
  have HI := Aside0.mk (show tI n = n % 86400000000 / 60000000 % 60 from rfl)
  have HS := Aside0.mk (show tS n = n % 86400000000 / 1000000 % 60 from rfl)
  have HU := Aside0.mk (show tU n = n % 1000000 from rfl)
  have EY := Aside0.mk (show dY q = 400 * ((q + 719468) / 146097) + yR ((q + 719468) % 146097) + 1 by rw [dY, if_neg c])
  have EM := Aside0.mk (show dM q = mR ((q + 719468) % 146097) - 9 by rw [dM, if_neg c])
  have ED := Aside0.mk (show dD q = r2R ((q + 719468) % 146097) - (153 * mR ((q + 719468) % 146097) + 2) / 5 + 1 from rfl)
  obtain ⟨D, hD⟩ : ∃ D, q + 719468 = D := ⟨_, rfl⟩
  rw [hD] at c EY EM ED
  have hr0 : 0 ≤ D % 146097 := by omega
  have hr1 : D % 146097 ≤ 146096 := by omega
  obtain ⟨E, hE⟩ : ∃ E, D / 146097 = E := ⟨_, rfl⟩
  obtain ⟨r, hr⟩ : ∃ r, D % 146097 = r := ⟨_, rfl⟩
  rw [hr] at c hr0 hr1 EY EM ED
  rw [hE] at EY
  have hE0 : 0 ≤ E := by omega
  have hE1 : E ≤ 30 := by omega
  have hR := era_year r _ hr0 hr1 rfl
  have hY : (r - r / 1460 + r / 36524 - r / 146096) / 365 = yR r := rfl
  rw [hY] at hR
  have hR2 : r - (365 * yR r + yR r / 4 - yR r / 100) = r2R r := rfl
  have hM : (5 * r2R r + 2) / 153 = mR r := rfl
  obtain ⟨Y, hYY⟩ : ∃ Y, yR r = Y := ⟨_, rfl⟩
  rw [hYY] at hR hR2 EY hY
  obtain ⟨r2, hr2⟩ : ∃ x, r2R r = x := ⟨_, rfl⟩
  rw [hr2] at hR2 hM ED
  obtain ⟨M, hMM⟩ : ∃ x, mR r = x := ⟨_, rfl⟩
  rw [hMM] at c hM EM ED
  obtain ⟨hY0, hY1, hY2, hY3⟩ := hR
  have hr20 : 0 ≤ r2 := by omega
  have hr21 : r2 ≤ 366 := by omega
  have hM0 : 0 ≤ M := by omega
  have hM1 : M ≤ 12 := by omega
  rw [EY.out] at hy hy2
  have hrr : (D : Int).tmod 146097 = r := by rw [Int.tmod_eq_emod_of_nonneg (by omega)]; exact hr
  clear hYY hr2 hMM hY2 hY3 HY HD h1
  go_enter Try.func20, Try.ntmps20
  go_wp2
  refine bodyPost_ret (v := .tuple #[noV, .bool false]) (by simp [results, Try.results20, go_sem]) rfl ⟨?_, ?_⟩
  · rfl
  · exact below_alloc (below_alloc (Below.refl _ _) _) _

theorem civil_Of_yes (n : Int) (w : World) (h0 : 0 ≤ n) (h1 : n ≤ 18446744073709551615) (h : n / 86400000000 ≤ 2932896) : Calls Try.prog 20 #[.int .u64 n] w fun e w' => e = .returned (.tuple #[ofQ (n / 86400000000) n, .bool true]) ∧ Below w.heap.size w w' := by
  by_cases c : mR ((n / 86400000000 + 719468) % 146097) ≤ 9
  · exact civil_Of_near11 n _ w h0 h1 rfl (by omega) c ((dY_9999 _ (by omega)).2 h)
  · exact civil_Of_near01 n _ w h0 h1 rfl (by omega) c ((dY_9999 _ (by omega)).2 h)
theorem civil_Of_no (n : Int) (w : World) (h0 : 0 ≤ n) (h1 : n ≤ 18446744073709551615) (h : 2932896 < n / 86400000000) : Calls Try.prog 20 #[.int .u64 n] w fun e w' => e = .returned (.tuple #[noV, .bool false]) ∧ Below w.heap.size w w' := by
  have hy : 9999 < dY (n / 86400000000) := by have := dY_9999 (n / 86400000000) (by omega); omega
  by_cases c2 : 3000000 < n / 86400000000
  · exact civil_Of_far n w h0 h1 c2
  · by_cases c : mR ((n / 86400000000 + 719468) % 146097) ≤ 9
    · exact civil_Of_near10 n _ w h0 h1 rfl (by omega) c hy
    · exact civil_Of_near00 n _ w h0 h1 rfl (by omega) c hy
end Go.Proofs.Ytekbidjfddanhaa
