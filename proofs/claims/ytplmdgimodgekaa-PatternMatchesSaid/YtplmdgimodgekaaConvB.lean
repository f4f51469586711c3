/- []byte(s) of a string: the row, the world behind. -/
import Derived.Test.YtplmdgimodgekaaStr
namespace Go.Proofs.Ytplmdgimodgekaa
open Go.RowKit Go.Proofs.YtplmdgimodgekaaW.PrintWords Go.Proofs.YtplmdgimodgekaaW.PrintLast Go.Proofs.YtplmdgimodgekaaW.PrintMore
set_option linter.unusedVariables false
theorem conv_bytes (l : List Int) (hl : isB l) (hm : l.length ≤ 9223372036854775807) (W : World) : ∃ ad c wb, (convert 9 37 (.string (strOfNums l))).run Try.prog W = .ok (.slice (some ad) l.length c) wb ∧
    l.length ≤ c ∧ (∀ i, i < l.length → wb.cell? (ad.add i) = some (.int .u8 (l.getD i 0))) ∧ Below W.heap.size W wb := by
  have hs : (strOfNums l).size = l.length := by simp [strOfNums, ByteArray.size]
  have hr := bytes_reads W 5 (strOfNums l) (by rw [hs]; exact hm)
  rw [hs, bytesOf_strOf hl] at hr
  refine ⟨⟨W.heap.size, 0, none⟩, grownCap W l.length 0 5, Lib.bytesWorld W 5 (strOfNums l), ?_, grownCap_ge _ _ _ _, fun i hi => ?_, bytes_below (Below.refl _ _) (Nat.le_refl _) _ _⟩
  · rw [← hs]
    exact Lib.run_convert_string_bytes W 9 37 5 (strOfNums l) Try.underlying9 Try.underlying37 Try.underlying5
  · obtain ⟨ad, e, hc⟩ := rd_at hr i hi
    injection e with e
    subst e
    exact hc
end Go.Proofs.Ytplmdgimodgekaa
