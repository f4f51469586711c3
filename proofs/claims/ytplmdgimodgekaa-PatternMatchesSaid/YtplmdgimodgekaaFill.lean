/- A block that is filled, element by element. -/
import Derived.Test.YtplmdgimodgekaaKp
namespace Go.Proofs.Ytplmdgimodgekaa
open Go.RowKit Go.Proofs.YtplmdgimodgekaaW.PrintWords Go.Proofs.YtplmdgimodgekaaW.PrintLast Go.Proofs.YtplmdgimodgekaaW.PrintMore
set_option linter.unusedVariables false

theorem own_blk {W : World} {base g : Nat} {e : TypeId} {k : IntKind} {xs : List Int} (h : W.heap[g]? = some (.cells (nums k xs).toArray e (0, 0))) (hb : base ≤ g) (hm : xs.length ≤ 9223372036854775807) : Own (Value.int k) W base e (.slice (some ⟨g, 0, none⟩) xs.length xs.length) xs :=
  ⟨by simp [encs], .inr ⟨g, xs.length, (nums k xs).toArray, rfl, hb, h, Nat.le_refl _, by simpa [maxLen] using hm, by simp [nums], by simp [nums, encs, List.take_of_length_le]⟩⟩
/-- What stands in a made slice when i elements are filled in. -/
def fillL (f : Nat → Int) (k i : Nat) : List Int := (List.range i).map f ++ List.replicate (k - i) 0
theorem fillL_len (f : Nat → Int) (k i : Nat) (h : i ≤ k) : (fillL f k i).length = k := by simp [fillL]; omega
theorem fillL_set (f : Nat → Int) (k i : Nat) (h : i < k) {x : Int} (hx : f i = x) : (fillL f k i).set i x = fillL f k (i + 1) := by
  subst hx
  unfold fillL
  rw [List.set_append_right _ _ (by simp), List.range_succ, List.map_append, List.length_map, List.length_range, Nat.sub_self]
  obtain ⟨m, hm⟩ : ∃ m, k - i = m + 1 := ⟨k - i - 1, by omega⟩
  rw [hm, List.replicate_succ, show k - (i + 1) = m by omega]
  simp
theorem nums_set (k : IntKind) (l : List Int) (i : Nat) (x : Int) : (nums k l).toArray.setIfInBounds i (.int k x) = (nums k (l.set i x)).toArray := by simp [nums, List.map_set]
theorem made_fill (k : IntKind) (f : Nat → Int) (n : Nat) : madeCells #[.int k 0] n = (nums k (fillL f n 0)).toArray := by
  apply Array.toList_inj.1
  rw [toList_madeCells_one]
  simp [fillL, nums]
end Go.Proofs.Ytplmdgimodgekaa
