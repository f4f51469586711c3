/- A slice of slices of bytes that is read; a law's parameter of that type, opened. -/
import Derived.Test.YtekbidjfddanhaaKp
import Derived.Test.YtekbidjfddanhaaLe2
import Derived.Deep.Matrix
namespace Go.Proofs.Ytekbidjfddanhaa
open Go.RowKit Go.ChangeShapes Go.WideShapes Go.Proofs.YtekbidjfddanhaaW.PrintWords
set_option linter.unusedVariables false

/-- The value v reads as rows of bytes. -/
def RdR (w : World) (v : Value) (rows : List (List Int)) : Prop := ∃ A c, v = .slice A rows.length c ∧ rows.length ≤ c ∧ rows.length ≤ 9223372036854775807 ∧ (0 < rows.length → ∃ ad, A = some ad ∧ ∀ i, i < rows.length → ∃ u, w.cell? (ad.add i) = some u ∧ Rd w .u8 u (rows.getD i []))
theorem RdR.le {w : World} {v : Value} {rows : List (List Int)} (h : RdR w v rows) : rows.length ≤ 9223372036854775807 := by
  obtain ⟨A, c, _, _, h, _⟩ := h
  exact h
theorem RdR.at {w : World} {A : Option Addr} {n c : Nat} {rows : List (List Int)} (h : RdR w (.slice A n c) rows) (i : Nat) (hi : i < rows.length) : ∃ ad, A = some ad ∧ ∃ u, w.cell? (ad.add i) = some u ∧ Rd w .u8 u (rows.getD i []) := by
  obtain ⟨A', c', e, _, _, h⟩ := h
  simp only [Value.slice.injEq] at e
  obtain ⟨rfl, rfl, rfl⟩ := e
  obtain ⟨ad, rfl, hc⟩ := h (by omega)
  exact ⟨ad, rfl, hc i hi⟩
theorem RdR.mem {rows : List (List Int)} (h : ∀ r ∈ rows, isB r) (i : Nat) : isB (rows.getD i []) := by
  rw [List.getD_eq_getElem?_getD]
  cases e : rows[i]? with
  | none => exact fun x hx => by simp at hx
  | some r => exact h r (List.mem_of_getElem? e)
theorem RdR.below {w w1 : World} {v : Value} {rows : List (List Int)} (h : RdR w v rows) (hb : Below w.heap.size w w1) : RdR w1 v rows := by
  obtain ⟨A, c, e, h1, h2, h3⟩ := h
  refine ⟨A, c, e, h1, h2, fun h0 => ?_⟩
  obtain ⟨ad, rfl, hc⟩ := h3 h0
  refine ⟨ad, rfl, fun i hi => ?_⟩
  obtain ⟨u, hu, hr⟩ := hc i hi
  exact ⟨u, pw_cell_below hb hu, hr.below hb⟩
theorem rows_snoc (rows : List (List Int)) (i : Nat) (h : i < rows.length) : (rows.take (i + 1)).flatten = (rows.take i).flatten ++ rows.getD i [] := by
  rw [List.take_succ_eq_append_getElem h, List.flatten_append, List.getD_eq_getElem?_getD, List.getElem?_eq_getElem h]
  simp
theorem open_rows8 {H : Type} {enc : TypeId × Value → H} {P : Program} {w : World} {base : Nat} {held : Bool} {t e q : TypeId} {fuel : Nat} {cs : List Value} {x : DataW H × List MemPlace} (ht : P.underlying t = some (.slice e)) (he : P.underlying e = some (.slice q)) (hq : P.underlying q = some (.int .u8))
    (ce : P.cellsOf e = 1) (cq : P.cellsOf q = 1) (h : DataW.trod enc P w base (fun _ => true) held fuel t cs = some x) :
    ∃ (A : Option Addr) (rows : List (List Int)) (c : Nat), cs = [.slice A rows.length c] ∧ RdR w (.slice A rows.length c) rows ∧ ∀ r ∈ rows, isB r := by
  rcases Go.Deep.open_int_rows ht he hq ce cq h with ⟨hcs, _⟩ | ⟨a, len, cap, A, L, C, Z, hcs, _, hl, hm, _, hx⟩
  · exact ⟨none, [], 0, hcs, ⟨none, 0, rfl, Nat.le_refl _, by simp, fun h => by simp at h⟩, fun r hr => by simp at hr⟩
  · have hlen : ((List.range len).map fun r => (Z r).take (L r)).length = len := by simp
    refine ⟨some a, (List.range len).map fun r => (Z r).take (L r), cap, by rw [hlen]; exact hcs, ⟨some a, cap, rfl, by rw [hlen]; exact hl, by rw [hlen]; unfold maxLen at hm; omega, fun _ => ⟨a, rfl, fun i hi => ?_⟩⟩, fun r hr => ?_⟩
    · rw [hlen] at hi
      obtain ⟨hc, hLC, hCm, hZ, hw, hnone, hsome⟩ := hx i (by omega)
      have hg : ((List.range len).map fun r => (Z r).take (L r)).getD i [] = (Z i).take (L i) := by
        rw [List.getD_eq_getElem?_getD, List.getElem?_map, List.getElem?_range hi]; rfl
      have hzl : ((Z i).take (L i)).length = L i := by rw [List.length_take]; omega
      refine ⟨_, hc, A i, C i, by rw [hg, hzl], by rw [hg, hzl]; exact hLC, ⟨by rw [hg, hzl], by rw [hg, hzl]; unfold maxLen at hCm; omega, fun hp => ?_⟩⟩
      rw [hg, hzl] at hp
      cases hA : A i with
      | none => have := hnone hA; omega
      | some a' =>
        refine ⟨a', rfl, fun j hj => ?_⟩
        rw [hg, hzl] at hj
        rw [(hsome a' hA).2 j (by omega), hg]
        congr 2
        rw [List.getD_eq_getElem?_getD, List.getD_eq_getElem?_getD, List.getElem?_take_of_lt hj]
    · obtain ⟨i, hi, rfl⟩ := List.mem_map.1 hr
      have hi := List.mem_range.1 hi
      obtain ⟨_, _, _, _, hw, _⟩ := hx i (by omega)
      exact fun n hn => bounds_u8 (hw n (List.mem_of_mem_take hn))
end Go.Proofs.Ytekbidjfddanhaa
