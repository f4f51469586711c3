/- LeNumbers: what is read is what the reference reads, and it is written as it stands. -/
import Derived.Test.YtigdchfjcfljjaaLe2
namespace Go.Proofs.Ytigdchfjcfljjaa
open Go.RowKit Go.Proofs.YtigdchfjcfljjaaW.PrintWords Go.Proofs.YtigdchfjcfljjaaW.PrintLast Go.Proofs.YtigdchfjcfljjaaW.PrintMore
attribute [local go_sem] max2_int min2_int max_two min_two max_three min_three max_four min_four   -- for this text's walks alone
set_option linter.unusedVariables false
set_option linter.unusedSimpArgs false

/-- v[a:b] reads as that part. -/
theorem Rd.cut (t e : TypeId) {k : IntKind} {i : TypeInfo} (ht : Try.prog.underlying t = some (.slice e)) (hi : Try.prog.info? e = some i) (hsz : i.size = 1) {w0 : World} {v : Value} {xs : List Int} (h : Rd w0 k v xs) (a b : Int) (h0 : 0 ≤ a) (h1 : a ≤ b) (hm : b ≤ xs.length) :
    ∃ v', (∀ W : World, (Instr.slice t v (some (.int .i64 a)) (some (.int .i64 b)) none).run Try.prog W = .ok v' W) ∧ (∀ w : World, Rd w k v xs → Rd w k v' ((xs.take b.toNat).drop a.toNat)) := by
  obtain ⟨A, c, rfl, hc, _⟩ := h
  obtain ⟨A', h2, h3, h4⟩ := print_mid_int (P := Try.prog) (k := k) t e ht hi hsz A c xs a b h0 h1 hm hc
  refine ⟨_, h2, fun w hw => ?_⟩
  obtain ⟨A2, c2, e2, _, hr⟩ := hw
  simp only [Value.slice.injEq] at e2
  obtain ⟨rfl, _, rfl⟩ := e2
  exact ⟨A', _, rfl, h4, h3 w hr⟩
theorem infoU8' : ∃ i, Try.prog.info? 5 = some i ∧ i.size = 1 := by
  obtain ⟨i, hi, h⟩ := Option.map_eq_some_iff.1 infoU8
  simp only [Prod.mk.injEq] at h
  exact ⟨i, hi, h.2.1⟩
theorem wf_isB {xs : List Int} (h : ∀ x ∈ xs, (Lit.int .u8 x).wf = true) : isB xs := fun x hx => bounds_u8 (h x hx)
end Go.Proofs.Ytigdchfjcfljjaa
