/- A law's parameter that is a struct of one-cell fields, opened field by field. -/
import Derived.Test.YtplmdgimodgekaaBase
import Derived.WideShapes
import Derived.ChangeShapes
import Derived.ChangeSlices
import Derived.Deep.Fields
namespace Go.Proofs.Ytplmdgimodgekaa
open Go.RowKit Go.ChangeShapes Go.WideShapes
set_option linter.unusedVariables false
theorem open_fields {H : Type} {enc : TypeId × Value → H} {P : Program} {w : World} {r : Reach} {b0 base : Nat} {spare : Nat → Bool} {held : Bool} {t : TypeId} {fs : Array Field} {v : Value} {d : DataW H} {ps : List MemPlace}
    (hs : P.underlying t = some (.struct fs)) (hone : Go.Deep.oneCellFields P fs = true) (hct : P.cellsOf t = fs.size) (hval : Value.okWide P w r b0 t v) (hd : DataW.Trod enc P w base spare held t v d ps) :
    ∃ cs : Array Value, v = .agg cs ∧ cs.size = fs.size ∧ ∀ (i : Nat) (f : Field) (c : Value), fs[i]? = some f → cs[i]? = some c → ∃ n y, DataW.trod enc P w base spare held n f.type [c] = some y := by
  obtain ⟨cs, rfl, hsz⟩ := okWide_struct hs hval
  rw [hct] at hsz
  obtain ⟨fuel, hf⟩ := hd
  obtain ⟨xs, m, _, _, _, hlen, hx⟩ := DataW.trod_struct hs hf
  refine ⟨cs, rfl, hsz, fun i f c hfi hci => ?_⟩
  obtain ⟨ho, hc1⟩ := Go.Deep.hone_of hone i f hfi
  have h := hx i f hfi
  rw [ho, hc1] at h
  have hi : i < cs.size := (Array.getElem?_eq_some_iff.1 hci).1
  have hxi : i < xs.length := by omega
  rw [List.getElem?_eq_getElem hxi] at h
  simp only [Value.cells] at h
  have hd : cs.toList.drop i = cs[i] :: cs.toList.drop (i + 1) := by
    rw [List.drop_eq_getElem_cons (by simpa using hi)]; simp
  rw [hd] at h
  rw [Array.getElem?_eq_getElem hi] at hci
  injection hci with hci
  rw [← hci]
  exact ⟨m, xs[i], by simpa using h⟩
theorem array5 {α : Type} {cs : Array α} (h : cs.size = 5) : ∃ c0 c1 c2 c3 c4, cs = #[c0, c1, c2, c3, c4] := by
  obtain ⟨l⟩ := cs
  match l, h with
  | [c0, c1, c2, c3, c4], _ => exact ⟨c0, c1, c2, c3, c4, rfl⟩
theorem one_string {H : Type} {enc : TypeId × Value → H} {P : Program} {w : World} {base : Nat} {spare : Nat → Bool} {held : Bool} {t : TypeId} {c : Value} (ht : P.underlying t = some .string) (h : ∃ n y, DataW.trod enc P w base spare held n t [c] = some y) : ∃ s : ByteArray, c = .string s ∧ s.size ≤ 9223372036854775807 := by
  obtain ⟨n, y, h⟩ := h
  obtain ⟨s, h, _, hs⟩ := DataW.trod_string ht h
  injection h with h
  exact ⟨s, h, by unfold maxLen at hs; exact hs⟩
theorem one_int {H : Type} {enc : TypeId × Value → H} {P : Program} {w : World} {base : Nat} {spare : Nat → Bool} {held : Bool} {t : TypeId} {k : IntKind} {c : Value} (ht : P.underlying t = some (.int k)) (h : ∃ n y, DataW.trod enc P w base spare held n t [c] = some y) : ∃ z : Int, c = .int k z ∧ (Lit.int k z).wf = true := by
  obtain ⟨n, y, h⟩ := h
  obtain ⟨z, h, _, hw⟩ := DataW.trod_int ht h
  injection h with h
  exact ⟨z, h, hw⟩
theorem open_msg {H : Type} {enc : TypeId × Value → H} {P : Program} {w : World} {r : Reach} {b0 base : Nat} {spare : Nat → Bool} {held : Bool} {t : TypeId} {f0 f1 f2 f3 f4 : Field} {v : Value} {d : DataW H} {ps : List MemPlace}
    (hs : P.underlying t = some (.struct #[f0, f1, f2, f3, f4])) (hone : Go.Deep.oneCellFields P #[f0, f1, f2, f3, f4] = true) (hct : P.cellsOf t = 5)
    (u0 : P.underlying f0.type = some (.int .i64)) (u1 : P.underlying f1.type = some (.int .i64)) (u2 : P.underlying f2.type = some .string) (u3 : P.underlying f3.type = some .string) (u4 : P.underlying f4.type = some .string)
    (hval : Value.okWide P w r b0 t v) (hd : DataW.Trod enc P w base spare held t v d ps) :
    ∃ (p f : Int) (a b c : ByteArray), v = .agg #[.int .i64 p, .int .i64 f, .string a, .string b, .string c] ∧ (Lit.int .i64 p).wf = true ∧ (Lit.int .i64 f).wf = true ∧ a.size ≤ 9223372036854775807 ∧ b.size ≤ 9223372036854775807 ∧ c.size ≤ 9223372036854775807 := by
  obtain ⟨cs, rfl, hsz, h⟩ := open_fields hs hone hct hval hd
  obtain ⟨c0, c1, c2, c3, c4, rfl⟩ := array5 hsz
  obtain ⟨p, rfl, w0⟩ := one_int u0 (h 0 f0 c0 rfl rfl)
  obtain ⟨f, rfl, w1⟩ := one_int u1 (h 1 f1 c1 rfl rfl)
  obtain ⟨a, rfl, w2⟩ := one_string u2 (h 2 f2 c2 rfl rfl)
  obtain ⟨b, rfl, w3⟩ := one_string u3 (h 3 f3 c3 rfl rfl)
  obtain ⟨c, rfl, w4⟩ := one_string u4 (h 4 f4 c4 rfl rfl)
  exact ⟨p, f, a, b, c, rfl, w0, w1, w2, w3, w4⟩
end Go.Proofs.Ytplmdgimodgekaa
