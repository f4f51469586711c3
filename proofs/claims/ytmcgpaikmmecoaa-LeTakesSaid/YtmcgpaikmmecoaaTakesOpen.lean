/- LeTakes: its walk, as the law's row wants it. -/
import Derived.Test.YtmcgpaikmmecoaaTakes
import Derived.Test.YtmcgpaikmmecoaaPutsOpen
namespace Go.Proofs.Ytmcgpaikmmecoaa
open Go.RowKit Go.Proofs.YtmcgpaikmmecoaaW.PrintWords Go.Proofs.YtmcgpaikmmecoaaW.PrintLast Go.Proofs.YtmcgpaikmmecoaaW.PrintMore
set_option linter.unusedVariables false
theorem LeTakes_walk (a0 : Option Addr) (len0 cap0 : Nat) (z0 : List Int) (a1 : Int) (A : Option Addr) (n c : Nat) (acts : List ActR) (w : World) (w0 : (a0 = none ∧ len0 = 0 ∧ cap0 = 0 ∧ z0 = []) ∨ ∃ x, a0 = some x ∧ len0 ≤ cap0 ∧ cap0 ≤ maxLen ∧ z0.length = cap0 ∧ (∀ i, i < z0.length → w.cell? (x.add i) = some (.int .u8 (z0.getD i 0))) ∧ ∀ n ∈ z0, (Lit.int .u8 n).wf = true) (y0 : len0 * 1 ≤ 140737488351232) (w1 : (Lit.int .i64 a1).wf = true) (h : ActRow w A n c acts) :
    Calls Try.prog 8 #[.slice a0 len0 cap0, .int .i64 a1, .slice A n c] w fun e w' => e = .returned (.bool true) ∧ Below w.heap.size w w' := by
  obtain ⟨l0, rfl, hr0, hm0, hw0, hc0⟩ := ReadsInt.ofRowC w0
  exact LeTakes_calls _ l0 a1 A n c acts w ⟨_, _, rfl, hc0, hr0⟩ (wf_isB hw0) h.1 h.2.1 h.2.2.1 h.2.2.2
end Go.Proofs.Ytmcgpaikmmecoaa
