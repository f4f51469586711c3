/- The calendar, in plain numbers: days from 1970 on, and back. -/
import Derived.Test.YtplmdgimodgekaaRd
namespace Go.Proofs.Ytplmdgimodgekaa
set_option linter.unusedVariables false

def leapB (y : Int) : Bool := decide ((4 : Int) ∣ y ∧ (¬ (100 : Int) ∣ y ∨ (400 : Int) ∣ y))
def lpZ (y : Int) : Int := if leapB y = true then 1 else 0
/-- days ahead of a year -/
def dbY (y : Int) : Int := 365 * (y - 1) + (y - 1) / 4 - (y - 1) / 100 + (y - 1) / 400
theorem dbY_succ (y : Int) : dbY (y + 1) = dbY y + 365 + lpZ y := by
  unfold dbY lpZ leapB
  by_cases h4 : (4 : Int) ∣ y <;> by_cases h100 : (100 : Int) ∣ y <;> by_cases h400 : (400 : Int) ∣ y <;> simp [h4, h100, h400] <;> omega
/-- days of a month -/
def dimZ (y m : Int) : Int := if m = 4 ∨ m = 6 ∨ m = 9 ∨ m = 11 then 30 else if m = 2 then 28 + lpZ y else if 1 ≤ m ∧ m ≤ 12 then 31 else 0
/-- days ahead of a month -/
def cumZ (y m : Int) : Int := if m ≤ 1 then 0 else if m = 2 then 31 else (153 * (m - 3) + 2) / 5 + 59 + lpZ y
theorem lpZ_01 (y : Int) : lpZ y = 0 ∨ lpZ y = 1 := by unfold lpZ; split <;> simp
theorem cumZ_succ (y m : Int) (h1 : 1 ≤ m) (h2 : m ≤ 12) : cumZ y (m + 1) = cumZ y m + dimZ y m := by
  have hm : m = 1 ∨ m = 2 ∨ m = 3 ∨ m = 4 ∨ m = 5 ∨ m = 6 ∨ m = 7 ∨ m = 8 ∨ m = 9 ∨ m = 10 ∨ m = 11 ∨ m = 12 := by omega
  rcases hm with rfl | rfl | rfl | rfl | rfl | rfl | rfl | rfl | rfl | rfl | rfl | rfl <;> simp [cumZ, dimZ] <;> omega
/-- the program's count, from 1970 on -/
def countZ (y m d : Int) : Int := (if m < 3 then 365 * (y - 1) + (y - 1) / 4 - (y - 1) / 100 + (y - 1) / 400 + (153 * (m + 12 - 3) + 2) / 5 + d - 1 else 365 * y + y / 4 - y / 100 + y / 400 + (153 * (m - 3) + 2) / 5 + d - 1)
theorem countZ_eq (y m d : Int) (h1 : 1 ≤ m) (h2 : m ≤ 12) : countZ y m d - 719468 = dbY y - 719162 + cumZ y m + d - 1 := by
  unfold countZ
  by_cases h : m < 3
  · rw [if_pos h]
    have : m = 1 ∨ m = 2 := by omega
    rcases this with rfl | rfl <;> simp [cumZ, dbY] <;> omega
  · rw [if_neg h]
    have hs := dbY_succ y
    have : dbY (y + 1) = 365 * y + y / 4 - y / 100 + y / 400 := by unfold dbY; rw [Int.add_sub_cancel]
    unfold cumZ
    rw [if_neg (by omega), if_neg (by omega)]
    omega
theorem cumZ_le (y m : Int) (h1 : 1 ≤ m) (h2 : m ≤ 12) : 0 ≤ cumZ y m ∧ cumZ y m + dimZ y m ≤ 365 + lpZ y ∧ 28 ≤ dimZ y m := by
  have := lpZ_01 y
  have hm : m = 1 ∨ m = 2 ∨ m = 3 ∨ m = 4 ∨ m = 5 ∨ m = 6 ∨ m = 7 ∨ m = 8 ∨ m = 9 ∨ m = 10 ∨ m = 11 ∨ m = 12 := by omega
  rcases hm with rfl | rfl | rfl | rfl | rfl | rfl | rfl | rfl | rfl | rfl | rfl | rfl <;> simp [cumZ, dimZ] <;> omega
theorem dbY_mono (a b : Int) (h : a ≤ b) : dbY a + 365 * (b - a) ≤ dbY b := by unfold dbY; omega
theorem cumZ_mono (y a b : Int) (h1 : 1 ≤ a) (h : a < b) (h2 : b ≤ 12) : cumZ y a + dimZ y a ≤ cumZ y b := by
  rw [← cumZ_succ y a h1 (by omega)]
  have := lpZ_01 y
  unfold cumZ
  split <;> split <;> (try split) <;> (try split) <;> omega
/-- a day's number -/
def dayZ (y m d : Int) : Int := dbY y - 719162 + cumZ y m + d - 1
structure YMD (y m d : Int) : Prop where
  m1 : 1 ≤ m
  m2 : m ≤ 12
  d1 : 1 ≤ d
  d2 : d ≤ dimZ y m
/-- days rise with year, month, day -/
theorem dayZ_lt {y m d y' m' d' : Int} (h : YMD y m d) (h' : YMD y' m' d') (hl : y < y' ∨ y = y' ∧ (m < m' ∨ m = m' ∧ d < d')) : dayZ y m d < dayZ y' m' d' := by
  obtain ⟨a1, a2, a3, a4⟩ := h
  obtain ⟨b1, b2, b3, b4⟩ := h'
  unfold dayZ
  rcases hl with hl | ⟨rfl, hl | ⟨rfl, hl⟩⟩
  · have := dbY_mono (y + 1) y' (by omega)
    have := dbY_succ y
    have := cumZ_le y m a1 a2
    have := cumZ_le y' m' b1 b2
    omega
  · have := cumZ_mono y m m' a1 hl b2
    omega
  · omega
theorem dayZ_inj {y m d y' m' d' : Int} (h : YMD y m d) (h' : YMD y' m' d') (e : dayZ y m d = dayZ y' m' d') : y = y' ∧ m = m' ∧ d = d' := by
  have h1 := fun hl => dayZ_lt h h' hl
  have h2 := fun hl => dayZ_lt h' h hl
  by_cases c1 : y < y'
  · have := h1 (.inl c1); omega
  by_cases c2 : y' < y
  · have := h2 (.inl c2); omega
  have e1 : y = y' := by omega
  by_cases c3 : m < m'
  · have := h1 (.inr ⟨e1, .inl c3⟩); omega
  by_cases c4 : m' < m
  · have := h2 (.inr ⟨e1.symm, .inl c4⟩); omega
  have e2 : m = m' := by omega
  by_cases c5 : d < d'
  · have := h1 (.inr ⟨e1, .inr ⟨e2, c5⟩⟩); omega
  by_cases c6 : d' < d
  · have := h2 (.inr ⟨e1.symm, .inr ⟨e2.symm, c6⟩⟩); omega
  exact ⟨e1, e2, by omega⟩
/-- the year in an era of 400 years that begin with March -/
theorem era_year (r y : Int) (h0 : 0 ≤ r) (h1 : r ≤ 146096) (hy : y = (r - r / 1460 + r / 36524 - r / 146096) / 365) : 0 ≤ y ∧ y ≤ 399 ∧ 365 * y + y / 4 - y / 100 ≤ r ∧ r < 365 * (y + 1) + (y + 1) / 4 - (y + 1) / 100 + (y + 1) / 400 := by
  by_cases hl : r = 146096
  · subst hl
    have : y = 399 := by rw [hy]; decide
    subst this
    decide
  · have z : r / 146096 = 0 := by omega
    obtain ⟨c, hc⟩ : ∃ c, r / 36524 = c := ⟨_, rfl⟩
    have c0 : 0 ≤ c := by omega
    have c3 : c ≤ 3 ∨ c = 4 := by omega
    rcases c3 with c3 | rfl
    · obtain ⟨s, hs⟩ : ∃ s, r - 36524 * c = s := ⟨_, rfl⟩
      have s0 : 0 ≤ s := by omega
      have s1 : s < 36524 := by omega
      obtain ⟨q, hq⟩ : ∃ q, s / 1461 = q := ⟨_, rfl⟩
      obtain ⟨t, ht⟩ : ∃ t, s - 1461 * q = t := ⟨_, rfl⟩
      have q0 : 0 ≤ q := by omega
      have q1 : q ≤ 24 := by omega
      have t0 : 0 ≤ t := by omega
      have t1 : t ≤ 1460 := by omega
      have er : r = 36524 * c + 1461 * q + t := by omega
      have st : 1461 * q + t < 36524 := by omega
      rw [z, hc] at hy
      clear z hc hs hq ht s0 s1 hl
      have e1 : r / 1460 = 25 * c + q + (24 * c + q + t) / 1460 := by subst er; omega
      obtain ⟨d, hd⟩ : ∃ d, (24 * c + q + t) / 1460 = d := ⟨_, rfl⟩
      have d0 : d = 0 ∨ d = 1 ∧ 1364 ≤ t := by omega
      have dt : t = 1460 → d = 1 := by omega
      rw [hd] at e1
      have e2 : y = (36500 * c + 1460 * q + t - d) / 365 := by rw [hy, e1]; subst er; congr 1; omega
      have e3 : y = 100 * c + 4 * q + (t - d) / 365 := by rw [e2]; omega
      obtain ⟨k, hk⟩ : ∃ k, (t - d) / 365 = k := ⟨_, rfl⟩
      have k0 : 0 ≤ k ∧ k ≤ 3 ∧ 365 * k ≤ t ∧ (t < 365 * (k + 1) ∨ k = 3) := by omega
      rw [hk] at e3
      obtain ⟨k0, k1, k2, k3⟩ := k0
      clear hk e2 hd e1 hy dt d0 h1
      have y4 : y / 4 = 25 * c + q := by omega
      have y100 : y / 100 = c := by omega
      refine ⟨by omega, by omega, by omega, ?_⟩
      rw [e3, er]
      have n400 : 0 ≤ (100 * c + 4 * q + k + 1) / 400 := by omega
      by_cases k4 : k = 3
      · subst k4
        by_cases q4 : q = 24
        · subst q4
          have hc : c = 0 ∨ c = 1 ∨ c = 2 ∨ c = 3 := by omega
          rcases hc with h | h | h | h <;> subst h <;> omega
        · have n4 : (100 * c + 4 * q + 3 + 1) / 4 = 25 * c + q + 1 := by omega
          have n100 : (100 * c + 4 * q + 3 + 1) / 100 = c := by omega
          rw [n4, n100]; omega
      · have n4 : (100 * c + 4 * q + k + 1) / 4 = 25 * c + q := by omega
        have n100 : (100 * c + 4 * q + k + 1) / 100 = c := by omega
        rw [n4, n100]; omega
    · omega
/-- the month and day in a year that begins with March -/
theorem march (r y Y : Int) (h0 : 0 ≤ r) (m : Int) (hm : m = (5 * r + 2) / 153) (h1 : r ≤ 365) : 0 ≤ m ∧ m ≤ 11 ∧ 0 ≤ r - (153 * m + 2) / 5 ∧ (m ≠ 11 → r - (153 * m + 2) / 5 < dimZ Y (if m < 10 then m + 3 else m - 9)) := by
  have m0 : 0 ≤ m := by omega
  have m1 : m ≤ 11 := by omega
  have hh : m = 0 ∨ m = 1 ∨ m = 2 ∨ m = 3 ∨ m = 4 ∨ m = 5 ∨ m = 6 ∨ m = 7 ∨ m = 8 ∨ m = 9 ∨ m = 10 ∨ m = 11 := by omega
  refine ⟨m0, m1, by omega, fun _ => ?_⟩
  rcases hh with h | h | h | h | h | h | h | h | h | h | h | h <;> subst h <;> simp [dimZ] <;> omega
def yR (r : Int) : Int := (r - r / 1460 + r / 36524 - r / 146096) / 365
def r2R (r : Int) : Int := r - (365 * yR r + yR r / 4 - yR r / 100)
def mR (r : Int) : Int := (5 * r2R r + 2) / 153
/-- year, month, day behind so many days from the first day of 1970 on -/
def dY (n : Int) : Int := 400 * ((n + 719468) / 146097) + yR ((n + 719468) % 146097) + (if mR ((n + 719468) % 146097) ≤ 9 then 0 else 1)
def dM (n : Int) : Int := if mR ((n + 719468) % 146097) ≤ 9 then mR ((n + 719468) % 146097) + 3 else mR ((n + 719468) % 146097) - 9
def dD (n : Int) : Int := r2R ((n + 719468) % 146097) - (153 * mR ((n + 719468) % 146097) + 2) / 5 + 1
theorem of_day (n : Int) (h0 : 0 ≤ n) : YMD (dY n) (dM n) (dD n) ∧ dayZ (dY n) (dM n) (dD n) = n := by
  obtain ⟨D, hD⟩ : ∃ D, n + 719468 = D := ⟨_, rfl⟩
  obtain ⟨e, he⟩ : ∃ e, D / 146097 = e := ⟨_, rfl⟩
  obtain ⟨r, hr⟩ : ∃ r, D % 146097 = r := ⟨_, rfl⟩
  have hr0 : 0 ≤ r ∧ r ≤ 146096 := by omega
  have hDe : D = 146097 * e + r := by omega
  obtain ⟨y, hy⟩ : ∃ y, yR r = y := ⟨_, rfl⟩
  obtain ⟨r2, hr2⟩ : ∃ r2, r2R r = r2 := ⟨_, rfl⟩
  obtain ⟨m, hm⟩ : ∃ m, mR r = m := ⟨_, rfl⟩
  have E := era_year r y hr0.1 hr0.2 hy.symm
  obtain ⟨y0, y1, y2, y3⟩ := E
  have hr2' : r2 = r - (365 * y + y / 4 - y / 100) := by rw [← hr2, r2R, hy]
  have hm' : m = (5 * r2 + 2) / 153 := by rw [← hm, mR, hr2]
  have hs := dbY_succ (400 * e + y + 1)
  have hlp := lpZ_01 (400 * e + y + 1)
  have q4 : ∀ x : Int, (400 * e + x) / 4 = 100 * e + x / 4 := by intro x; omega
  have q100 : ∀ x : Int, (400 * e + x) / 100 = 4 * e + x / 100 := by intro x; omega
  have q400 : ∀ x : Int, (400 * e + x) / 400 = e + x / 400 := by intro x; omega
  have z400 : y / 400 = 0 := by omega
  have hd1 : dbY (400 * e + y + 1) = 146097 * e + 365 * y + y / 4 - y / 100 := by unfold dbY; rw [Int.add_sub_cancel, q4, q100, q400, z400]; omega
  have hd2 : dbY (400 * e + y + 1 + 1) = 146097 * e + 365 * (y + 1) + (y + 1) / 4 - (y + 1) / 100 + (y + 1) / 400 := by unfold dbY; rw [show 400 * e + y + 1 + 1 - 1 = 400 * e + (y + 1) by omega, q4, q100, q400]; omega
  have hr2b : 0 ≤ r2 ∧ r2 ≤ 364 + lpZ (400 * e + y + 1) := by omega
  have M := march r2 y (400 * e + y) hr2b.1 m hm' (by omega)
  obtain ⟨m0, m1, m2, m3⟩ := M
  unfold dY dM dD
  rw [hD, he, hr, hy, hr2, hm]
  by_cases c : m ≤ 9
  · rw [if_pos c, if_pos c, Int.add_zero]
    rw [if_pos (by omega)] at m3
    have m4 := m3 (by omega)
    have hc := countZ_eq (400 * e + y) (m + 3) (r2 - (153 * m + 2) / 5 + 1) (by omega) (by omega)
    refine ⟨⟨by omega, by omega, by omega, by omega⟩, ?_⟩
    unfold dayZ
    rw [← hc, countZ, if_neg (by omega), Int.add_sub_cancel, q4, q100, q400, z400]
    omega
  · rw [if_neg c, if_neg c]
    rw [if_neg (by omega)] at m3
    have hc := countZ_eq (400 * e + y + 1) (m - 9) (r2 - (153 * m + 2) / 5 + 1) (by omega) (by omega)
    refine ⟨⟨by omega, by omega, by omega, ?_⟩, ?_⟩
    · by_cases c2 : m = 11
      · subst c2
        simp [dimZ]
        omega
      · have : m = 10 := by omega
        subst this
        have := m3 (by omega)
        simp [dimZ] at this ⊢
        omega
    · unfold dayZ
      rw [← hc, countZ, if_pos (by omega), Int.add_sub_cancel, show m - 9 + 12 - 3 = m by omega, q4, q100, q400, z400]
      omega
/-- Is there such a time? -/
def rightB (y m d h i s u : Int) : Bool := decide ((1970 ≤ y ∧ y ≤ 9999) ∧ (1 ≤ m ∧ m ≤ 12) ∧ (1 ≤ d ∧ d ≤ dimZ y m) ∧ (0 ≤ h ∧ h ≤ 23) ∧ (0 ≤ i ∧ i ≤ 59) ∧ (0 ≤ s ∧ s ≤ 59) ∧ (0 ≤ u ∧ u ≤ 999999))
theorem tz (y n : Int) : (Int.tmod y n = 0) ↔ n ∣ y := (Int.dvd_iff_tmod_eq_zero (a := n) (b := y)).symm
theorem tz_yes {y n : Int} (h : n ∣ y) : (y.tmod n == 0) = true ∧ (y.tmod n != 0) = false := by
  rw [bne_eq_false_iff_eq, beq_iff_eq]; exact ⟨(tz y n).2 h, (tz y n).2 h⟩
theorem tz_no {y n : Int} (h : ¬ n ∣ y) : (y.tmod n == 0) = false ∧ (y.tmod n != 0) = true := by
  rw [bne_iff_ne, beq_eq_false_iff_ne]; exact ⟨fun e => h ((tz y n).1 e), fun e => h ((tz y n).1 e)⟩
/-- Microseconds from 1970 on. -/
def microsZ (y m d h i s u : Int) : Int := dayZ y m d * 86400000000 + (60 * (60 * h + i) + s) * 1000000 + u
theorem rightB_yes {y m d h i s u : Int} (hr : rightB y m d h i s u = true) : (1970 ≤ y ∧ y ≤ 9999) ∧ (1 ≤ m ∧ m ≤ 12) ∧ (1 ≤ d ∧ d ≤ dimZ y m) ∧ (0 ≤ h ∧ h ≤ 23) ∧ (0 ≤ i ∧ i ≤ 59) ∧ (0 ≤ s ∧ s ≤ 59) ∧ (0 ≤ u ∧ u ≤ 999999) := by simpa [rightB] using hr
theorem dimZ_bd (y m : Int) : 0 ≤ dimZ y m ∧ dimZ y m ≤ 31 := by
  have := lpZ_01 y
  unfold dimZ
  split <;> (try split) <;> (try split) <;> omega
theorem lpZ_yes {y : Int} (h : leapB y = true) : lpZ y = 1 := by rw [lpZ, if_pos h]
theorem lpZ_no {y : Int} (h : leapB y = false) : lpZ y = 0 := by rw [lpZ, h]; rfl
theorem dayZ_bd {y m d : Int} (h0 : 1970 ≤ y) (h1 : y ≤ 9999) (h : YMD y m d) : 0 ≤ dayZ y m d ∧ dayZ y m d ≤ 2932896 := by
  obtain ⟨a, b, c, e⟩ := h
  have h2 := cumZ_le y m a b
  have h3 := dbY_mono 1970 y h0
  have h4 := dbY_mono (y + 1) 10000 (by omega)
  have h5 := dbY_succ y
  have h6 : dbY 1970 = 719162 := by decide
  have h7 : dbY 10000 = 3652059 := by decide
  unfold dayZ
  omega
end Go.Proofs.Ytplmdgimodgekaa
