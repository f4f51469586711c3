/- A law's parameter that is an object (a kind, words, bytes, numbers), opened; the law of writing. -/
import Derived.Test.YtigdchfjcfljjaaObjW
import Derived.WideShapes
import Derived.ChangeShapes
import Derived.ChangeSlices
import Derived.Deep.Fields
namespace Go.Proofs.Ytigdchfjcfljjaa
open Go.RowKit Go.ChangeShapes Go.WideShapes Go.Proofs.YtigdchfjcfljjaaW.PrintWords
set_option linter.unusedVariables false

theorem slice_of {H : Type} {enc : TypeId × Value → H} {P : Program} {w : World} {base : Nat} {spare : Nat → Bool} {held : Bool} {fuel : Nat} {t e : TypeId} {k : IntKind} {v : Value} {x : DataW H × List MemPlace} (hsp : ∀ b, spare b = true)
    (ht : P.underlying t = some (.slice e)) (he : P.underlying e = some (.int k)) (hc : P.cellsOf e = 1) (h : DataW.trod enc P w base spare held fuel t [v] = some x) :
    ∃ (A : Option Addr) (xs : List Int) (c : Nat), v = .slice A xs.length c ∧ Rd w k (.slice A xs.length c) xs ∧ ∀ n ∈ xs, (Lit.int k n).wf = true := by
  rcases open_ints ht he hc h with ⟨hcs, _⟩ | ⟨a, len, cap, zs, hcs, _, hl, hm, hz, _, hcell, hwz⟩
  · injection hcs with hcs
    exact ⟨none, [], 0, by simpa using hcs, Rd.nil w k, fun n hn => by simp at hn⟩
  · rw [hsp, if_pos rfl] at hz
    injection hcs with hcs
    have hlen : (zs.take len).length = len := by rw [List.length_take]; omega
    refine ⟨some a, zs.take len, cap, by rw [hlen]; exact hcs, ⟨_, _, rfl, by omega, ⟨by rw [hlen], by rw [hlen]; unfold maxLen at hm; omega, fun hn => ⟨a, rfl, fun j hj => ?_⟩⟩⟩, fun n hn => hwz n (List.mem_of_mem_take hn)⟩
    rw [hlen] at hj
    rw [hcell j (by omega)]
    congr 2
    rw [List.getD_eq_getElem?_getD, List.getD_eq_getElem?_getD, List.getElem?_take_of_lt hj]
theorem open_objS {H : Type} {enc : TypeId × Value → H} {P : Program} {w : World} {r : Reach} {b0 base : Nat} {spare : Nat → Bool} {held : Bool} {t t64 t8 : TypeId} {f0 f1 f2 f3 : Field} {v : Value} {d : DataW H} {ps : List MemPlace} (hsp : ∀ b, spare b = true)
    (hs : P.underlying t = some (.struct #[f0, f1, f2, f3])) (hone : Go.Deep.oneCellFields P #[f0, f1, f2, f3] = true) (hC : P.cellsOf t = 4)
    (u0 : P.underlying f0.type = some (.int .i64)) (u1 : P.underlying f1.type = some (.slice t64)) (u2 : P.underlying f2.type = some (.slice t8)) (u3 : P.underlying f3.type = some (.slice t64)) (e64 : P.underlying t64 = some (.int .u64)) (e8 : P.underlying t8 = some (.int .u8)) (c64 : P.cellsOf t64 = 1) (c8 : P.cellsOf t8 = 1)
    (hval : Value.okWide P w r b0 t v) (hd : DataW.Trod enc P w base spare held t v d ps) :
    ∃ (k : Int) (A1 A2 A3 : Option Addr) (ws raw it : List Int) (c1 c2 c3 : Nat), v = .agg #[.int .i64 k, .slice A1 ws.length c1, .slice A2 raw.length c2, .slice A3 it.length c3] ∧
      Rd w .u64 (.slice A1 ws.length c1) ws ∧ Rd w .u8 (.slice A2 raw.length c2) raw ∧ Rd w .u64 (.slice A3 it.length c3) it ∧ (Lit.int .i64 k).wf = true ∧ (∀ n ∈ ws, (Lit.int .u64 n).wf = true) ∧ (∀ n ∈ raw, (Lit.int .u8 n).wf = true) ∧ (∀ n ∈ it, (Lit.int .u64 n).wf = true) := by
  obtain ⟨v0, v1, v2, v3, y0, y1, y2, y3, m, rfl, _, _, h0, h1, h2, h3⟩ := Go.Joins.open_agg4 hs hone hC hval hd
  obtain ⟨k, hk, _, hw⟩ := DataW.trod_int u0 h0
  injection hk with hk
  subst hk
  obtain ⟨A1, ws, c1, rfl, r1, w1⟩ := slice_of hsp u1 e64 c64 h1
  obtain ⟨A2, raw, c2, rfl, r2, w2⟩ := slice_of hsp u2 e8 c8 h2
  obtain ⟨A3, it, c3, rfl, r3, w3⟩ := slice_of hsp u3 e64 c64 h3
  exact ⟨k, A1, A2, A3, ws, raw, it, c1, c2, c3, rfl, r1, r2, r3, hw, w1, w2, w3⟩
theorem wf_isW {xs : List Int} (h : ∀ x ∈ xs, (Lit.int .u64 x).wf = true) : isW xs := fun x hx => bounds_u64 (h x hx)
theorem wf_isB8 {xs : List Int} (h : ∀ x ∈ xs, (Lit.int .u8 x).wf = true) : isB xs := fun x hx => bounds_u8 (h x hx)
end Go.Proofs.Ytigdchfjcfljjaa
