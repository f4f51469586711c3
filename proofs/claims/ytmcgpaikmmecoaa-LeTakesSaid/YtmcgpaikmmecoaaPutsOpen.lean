/- The acts of a law's argument, laid open. -/
import Derived.Test.YtmcgpaikmmecoaaPuts
import Derived.Test.YtmcgpaikmmecoaaOpen
namespace Go.Proofs.Ytmcgpaikmmecoaa
open Go.RowKit Go.ChangeShapes Go.WideShapes Go.Deep
set_option linter.unusedVariables false
def ActRow (w : World) (A : Option Addr) (n c : Nat) (acts : List ActR) : Prop :=
  acts.length = n ∧ n ≤ 9223372036854775807 ∧ n ≤ c ∧ (0 < n → ∃ ad, A = some ad ∧ ∀ i x, acts[i]? = some x → ∃ vL vB, ActAt w ad i x vL vB)
theorem open_acts {H : Type} {enc : TypeId × Value → H} {w : World} {base : Nat} {held : Bool} {fuel : Nat} {v : Value} {x : DataW H × List MemPlace} (h : DataW.trod enc Try.prog w base (fun _ => true) held fuel 37 [v] = some x) :
    ∃ A n c acts, v = .slice A n c ∧ ActRow w A n c acts := by
  obtain ⟨A, n, c, rfl, hnc, hm, hA⟩ := open_structs Try.underlying37 Try.underlying42 (by kernel_rfl) (by kernel_rfl) (by decide) h
  by_cases hn : 0 < n
  · obtain ⟨a, rfl, hi⟩ := hA hn
    obtain ⟨l, hl, hq⟩ := list_of (fun i x => ∃ vL vB, ActAt w a i x vL vB) n (fun i hin => by
      obtain ⟨m, hf⟩ := hi i hin
      obtain ⟨u0, y0, hc0, ht0⟩ := hf 0 _ rfl
      obtain ⟨u1, y1, hc1, ht1⟩ := hf 1 _ rfl
      obtain ⟨u2, y2, hc2, ht2⟩ := hf 2 _ rfl
      obtain ⟨u3, y3, hc3, ht3⟩ := hf 3 _ rfl
      obtain ⟨u4, y4, hc4, ht4⟩ := hf 4 _ rfl
      obtain ⟨k0, e0, _, w0⟩ := DataW.trod_int Try.underlying3 ht0
      obtain ⟨k1, e1, _, w1⟩ := DataW.trod_int Try.underlying22 ht1
      obtain ⟨k2, e2, _, w2⟩ := DataW.trod_int Try.underlying3 ht2
      obtain ⟨l3, r3, w3⟩ := open_rd Try.underlying40 Try.underlying22 (by kernel_rfl) ht3
      obtain ⟨l4, r4, w4⟩ := open_rd Try.underlying27 Try.underlying5 (by kernel_rfl) ht4
      simp only [List.cons.injEq, and_true] at e0 e1 e2
      subst e0 e1 e2
      exact ⟨⟨k0, k1, k2, l3, l4⟩, u3, u4, ⟨by simpa using hc0, by simpa using hc1, by simpa using hc2, by simpa using hc3, by simpa using hc4, r3, r4, bounds_i64 w0, bounds_u64 w1, bounds_i64 w2, fun z hz => bounds_u64 (w3 z hz), fun z hz => bounds_u8 (w4 z hz)⟩⟩)
    exact ⟨_, n, c, l, rfl, hl, by unfold maxLen at hm; omega, hnc, fun _ => ⟨a, rfl, hq⟩⟩
  · exact ⟨_, n, c, [], rfl, by simp; omega, by unfold maxLen at hm; omega, hnc, fun h => absurd h hn⟩
theorem LePuts_walk (A : Option Addr) (n c : Nat) (acts : List ActR) (w : World) (h : ActRow w A n c acts) :
    Calls Try.prog 7 #[.slice A n c] w fun e w' => e = .returned (.bool true) ∧ Below w.heap.size w w' := LePuts_calls A n c acts w h.1 h.2.1 h.2.2.1 h.2.2.2
end Go.Proofs.Ytmcgpaikmmecoaa
