/- SlotReads: the reference's reading, and the walk. -/
import Derived.Test.YtigdchfjcfljjaaSlotW
namespace Go.Proofs.Ytigdchfjcfljjaa
open Go.RowKit Go.Proofs.YtigdchfjcfljjaaW.PrintWords Go.Proofs.YtigdchfjcfljjaaW.PrintLast Go.Proofs.YtigdchfjcfljjaaW.PrintMore
attribute [local go_sem] max2_int min2_int max_two min_two max_three min_three max_four min_four   -- for this text's walks alone
set_option linter.unusedVariables false
set_option linter.unusedSimpArgs false


theorem fill6 (g : Nat → Int) : fillL g 6 6 = [g 0, g 1, g 2, g 3, g 4, g 5] := by simp [fillL, List.range_succ]
theorem chS_one (l : List Int) : chS l 1 = (sdOk (l.drop 64), sdL (l.drop 64)) := by
  rw [chS, chS]
  cases h : sdOk (l.drop (64 * (0 + 1)))
  · have h2 : sdOk (l.drop 64) = false := h
    simp [h2, sdL, sdN]
  · have h2 : sdOk (l.drop 64) = true := h
    simp [h2]
theorem chS_two (l : List Int) : chS l 2 = bif sdOk (l.drop 128) && (!sdOk (l.drop 64) || decide (sdN (l.drop 64) 0 < sdN (l.drop 128) 0)) then (true, sdL (l.drop 128)) else (sdOk (l.drop 64), sdL (l.drop 64)) := by
  rw [chS, chS_one]
  rfl
end Go.Proofs.Ytigdchfjcfljjaa
