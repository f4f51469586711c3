/- Package mix: bytes added part by part. -/
import Derived.Test.YtplmdgimodgekaaMix
import Derived.Test.YtplmdgimodgekaaOwnO
namespace Go.Proofs.Ytplmdgimodgekaa
open Go.RowKit Go.Proofs.YtplmdgimodgekaaW.PrintWords Go.Proofs.YtplmdgimodgekaaW.PrintLast Go.Proofs.YtplmdgimodgekaaW.PrintMore
attribute [local go_sem] max2_int min2_int max_two min_two max_three min_three max_four min_four   -- for this text's walks alone
set_option linter.unusedVariables false
set_option linter.unusedSimpArgs false

theorem hk_drop (h : Int) (L : List Int) (q : Nat) : ∀ k, hk (hk h L q) (L.drop (8 * q)) k = hk h L (q + k)
  | 0 => rfl
  | k + 1 => by
    rw [hk, hk_drop h L q k, List.drop_drop, show q + (k + 1) = (q + k) + 1 by omega, hk, show 8 * q + 8 * k = 8 * (q + k) by omega]
theorem hk_app (h : Int) (L m : List Int) : ∀ q, 8 * q ≤ L.length → hk h (L ++ m) q = hk h L q
  | 0, _ => rfl
  | q + 1, hq => by
    rw [hk, hk, hk_app h L m q (by omega), List.drop_append_of_le_length (by omega), List.take_append_of_le_length (by rw [List.length_drop]; omega)]
theorem hk_parts (h : Int) (L m : List Int) (k : Nat) : hk (hk h L (L.length / 8)) (L.drop (8 * (L.length / 8)) ++ m) k = hk h (L ++ m) (L.length / 8 + k) := by
  have h8 : 8 * (L.length / 8) ≤ L.length := by omega
  rw [← hk_app h L m (L.length / 8) h8, ← List.drop_append_of_le_length h8, hk_drop]
theorem app8O {W : World} {base : Nat} {v u : Value} {xs ys : List Int} (HO : OwnO (Value.int .u8) W base 5 v xs) (HR : Rd W .u8 u ys) (hbase : base ≤ W.heap.size) (hl : xs.length + ys.length ≤ 140737488355328) :
    ∃ A1 c1 w1, (Builtin.append_ #[37, 37] 37 #[v, u]).run Try.prog W = .ok (.slice A1 (xs ++ ys).length c1) w1 ∧ OwnO (Value.int .u8) w1 base 5 (.slice A1 (xs ++ ys).length c1) (xs ++ ys) ∧ W.grownBy w1 v.ownBlock ∧ ((Value.slice A1 (xs ++ ys).length c1).ownBlock = v.ownBlock ∨ ∃ b, (Value.slice A1 (xs ++ ys).length c1).ownBlock = some b ∧ W.heap.size ≤ b) := by
  obtain ⟨v1, w1, hr, hO, hg, hat⟩ := app_runO (P := Try.prog) (Value.int .u8) (0 : Int) oneU8 37 37 5 (.int .u8 0) 1 Try.underlying37 infoU8 rfl (by omega) HO HR hbase (by omega)
  obtain ⟨A1, c1, rfl⟩ := hO.slice
  exact ⟨A1, c1, w1, hr, hO, hg, hat⟩
/-- The blocks that a call of Add may change: the sum's, and its row's. -/
def KS (g : Nat) (v : Value) : Nat → Prop := fun k => k = g ∨ v.ownBlock = some k
end Go.Proofs.Ytplmdgimodgekaa
