/- Contracts of package civil: the time behind a number; the law's own helpers. -/
import Derived.Test.YtplmdgimodgekaaCiv2
namespace Go.Proofs.Ytplmdgimodgekaa
open Go.RowKit Go.Proofs.YtplmdgimodgekaaW.PrintWords Go.Proofs.YtplmdgimodgekaaW.PrintLast Go.Proofs.YtplmdgimodgekaaW.PrintMore
attribute [local go_sem] max2_int min2_int max_two min_two max_three min_three max_four min_four   -- for this text's walks alone
set_option linter.unusedVariables false
set_option linter.unusedSimpArgs false

theorem dayZ_9999 {y m d : Int} (h : YMD y m d) : y ≤ 9999 ↔ dayZ y m d ≤ 2932896 := by
  obtain ⟨a, b, c, e⟩ := h
  have h2 := cumZ_le y m a b
  have h5 := dbY_succ y
  have h7 : dbY 10000 = 3652059 := by decide
  unfold dayZ
  constructor
  · intro h
    have h4 := dbY_mono (y + 1) 10000 (by omega)
    omega
  · intro h
    by_cases c : y ≤ 9999
    · exact c
    · have h4 := dbY_mono 10000 y (by omega)
      omega
theorem dY_9999 (n : Int) (h0 : 0 ≤ n) : dY n ≤ 9999 ↔ n ≤ 2932896 := by
  obtain ⟨h, e⟩ := of_day n h0
  rw [dayZ_9999 h, e]
theorem dY_1970 (n : Int) (h0 : 0 ≤ n) : 1970 ≤ dY n := by
  obtain ⟨h, e⟩ := of_day n h0
  obtain ⟨a, b, c, d⟩ := h
  by_cases hh : 1970 ≤ dY n
  · exact hh
  · have h2 := cumZ_le (dY n) (dM n) a b
    have h3 := dbY_mono (dY n + 1) 1970 (by omega)
    have h5 := dbY_succ (dY n)
    have h6 : dbY 1970 = 719162 := by decide
    unfold dayZ at e
    omega
/-- The parts of a day. -/
def tH (n : Int) : Int := n % 86400000000 / 3600000000
def tI (n : Int) : Int := n % 86400000000 / 60000000 % 60
def tS (n : Int) : Int := n % 86400000000 / 1000000 % 60
def tU (n : Int) : Int := n % 1000000
/-- The time behind n microseconds. -/
abbrev ofQ (q n : Int) : Value := .agg #[.int .i64 (dY q), .int .i64 (dM q), .int .i64 (dD q), .int .i64 (tH n), .int .i64 (tI n), .int .i64 (tS n), .int .i64 (tU n)]
abbrev noV : Value := .agg #[.int .i64 0, .int .i64 0, .int .i64 0, .int .i64 0, .int .i64 0, .int .i64 0, .int .i64 0]
theorem ret_time {y m d h i s u y' m' d' h' i' s' u' : Int} {b : Bool} (e1 : y = y') (e2 : m = m') (e3 : d = d') (e4 : h = h') (e5 : i = i') (e6 : s = s') (e7 : u = u') : Ending.returned (.tuple #[.agg #[.int .i64 y, .int .i64 m, .int .i64 d, .int .i64 h, .int .i64 i, .int .i64 s, .int .i64 u], .bool b]) = .returned (.tuple #[.agg #[.int .i64 y', .int .i64 m', .int .i64 d', .int .i64 h', .int .i64 i', .int .i64 s', .int .i64 u'], .bool b]) := by subst e1 e2 e3 e4 e5 e6 e7; rfl
end Go.Proofs.Ytplmdgimodgekaa
