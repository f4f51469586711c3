/- Slices of a slice: the first ones, those behind. -/
import Derived.Test.YtplmdgimodgekaaLe3
namespace Go.Proofs.Ytplmdgimodgekaa
open Go.RowKit Go.Proofs.YtplmdgimodgekaaW.PrintWords Go.Proofs.YtplmdgimodgekaaW.PrintLast Go.Proofs.YtplmdgimodgekaaW.PrintMore
set_option linter.unusedVariables false

/-- v[:j] reads as the first j. -/
theorem Rd.takeTo (t e : TypeId) {k : IntKind} {i : TypeInfo} (ht : Try.prog.underlying t = some (.slice e)) (hi : Try.prog.info? e = some i) (hsz : i.size = 1) {w0 : World} {v : Value} {xs : List Int} (h : Rd w0 k v xs) (j : Int) (h0 : 0 ≤ j) (hm : j ≤ xs.length) :
    ∃ v', (∀ W : World, (Instr.slice t v none (some (.int .i64 j)) none).run Try.prog W = .ok v' W) ∧ (∀ w : World, Rd w k v xs → Rd w k v' (xs.take j.toNat)) := by
  obtain ⟨A, c, rfl, hc, _⟩ := h
  obtain ⟨h2, h3, h4⟩ := print_take_int (P := Try.prog) (k := k) t e ht hi hsz A c xs j h0 hm hc
  refine ⟨_, h2, fun w hw => ?_⟩
  obtain ⟨A2, c2, e2, _, hr⟩ := hw
  simp only [Value.slice.injEq] at e2
  obtain ⟨rfl, _, rfl⟩ := e2
  exact ⟨A, _, rfl, h4, h3 w hr⟩
/-- v[j:] reads as what is behind the first j. -/
theorem Rd.dropFrom (t e : TypeId) {k : IntKind} {i : TypeInfo} (ht : Try.prog.underlying t = some (.slice e)) (hi : Try.prog.info? e = some i) (hsz : i.size = 1) {w0 : World} {v : Value} {xs : List Int} (h : Rd w0 k v xs) (j : Int) (h0 : 0 ≤ j) (hm : j ≤ xs.length) :
    ∃ v', (∀ W : World, (Instr.slice t v (some (.int .i64 j)) none none).run Try.prog W = .ok v' W) ∧ (∀ w : World, Rd w k v xs → Rd w k v' (xs.drop j.toNat)) := by
  obtain ⟨A, c, rfl, hc, _⟩ := h
  obtain ⟨A', h2, h3, h4⟩ := print_cut_int (P := Try.prog) (k := k) t e ht hi hsz A c xs j h0 hm hc
  refine ⟨_, h2, fun w hw => ?_⟩
  obtain ⟨A2, c2, e2, _, hr⟩ := hw
  simp only [Value.slice.injEq] at e2
  obtain ⟨rfl, _, rfl⟩ := e2
  exact ⟨A', _, rfl, h4, h3 w hr⟩
end Go.Proofs.Ytplmdgimodgekaa
