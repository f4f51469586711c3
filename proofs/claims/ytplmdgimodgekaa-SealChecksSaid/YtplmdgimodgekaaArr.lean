/- A law's parameter that is an array of whole numbers, opened. -/
import Derived.Test.YtplmdgimodgekaaRd
import Derived.WideShapes
import Derived.ChangeShapes
namespace Go.Proofs.Ytplmdgimodgekaa
open Go.RowKit Go.ChangeShapes Go.WideShapes
set_option linter.unusedVariables false

theorem open_arrInts {H : Type} {enc : TypeId × Value → H} {P : Program} {w : World} {r : Reach} {b0 base : Nat} {spare : Nat → Bool} {held : Bool} {t e : TypeId} {n : Nat} {k : IntKind} {v : Value} {d : DataW H} {ps : List MemPlace}
    (ht : P.underlying t = some (.array n e)) (he : P.underlying e = some (.int k)) (hce : P.cellsOf e = 1) (hct : P.cellsOf t = n) (hval : Value.okWide P w r b0 t v) (hd : DataW.Trod enc P w base spare held t v d ps) :
    ∃ zs : List Int, v = .agg (zs.map (Value.int k)).toArray ∧ zs.length = n ∧ ∀ z ∈ zs, (Lit.int k z).wf = true := by
  simp only [Value.okWide, ht] at hval
  obtain ⟨cs, rfl, hsz, _⟩ := hval
  rw [hct] at hsz
  obtain ⟨fuel, hf⟩ := hd
  obtain ⟨xs, m, _, _, _, hlen, hx⟩ := DataW.trod_array ht hf
  have key : ∀ i, i < n → ∃ z : Int, cs[i]? = some (.int k z) ∧ (Lit.int k z).wf = true := by
    intro i hi
    have h := hx i hi
    rw [hce, Nat.mul_one] at h
    have hxi : i < xs.length := by omega
    rw [List.getElem?_eq_getElem hxi] at h
    obtain ⟨z, hz, _, hw⟩ := DataW.trod_int he h
    refine ⟨z, ?_, hw⟩
    simp only [Value.cells] at hz
    have hc : i < cs.size := by omega
    have hd : cs.toList.drop i = cs[i] :: cs.toList.drop (i + 1) := by
      rw [List.drop_eq_getElem_cons (by simpa using hc)]; simp
    rw [hd] at hz
    simp at hz
    rw [Array.getElem?_eq_getElem hc, hz]
  refine ⟨cs.toList.map fun v => match v with | .int _ z => z | _ => 0, ?_, by simp [hsz], ?_⟩
  · congr 1
    apply Array.ext
    · simp
    · intro i h1 h2
      obtain ⟨z, hz, _⟩ := key i (by omega)
      rw [Array.getElem?_eq_getElem h1] at hz
      injection hz with hz
      simp [hz]
  · intro z hz
    simp only [List.mem_map] at hz
    obtain ⟨v, hv, rfl⟩ := hz
    obtain ⟨i, hi, rfl⟩ := List.getElem_of_mem hv
    have hi' : i < cs.size := by simpa using hi
    obtain ⟨z, hz, hw⟩ := key i (by omega)
    rw [Array.getElem?_eq_getElem hi'] at hz
    injection hz with hz
    simp [hz, hw]
theorem list7 {zs : List Int} (h : zs.length = 7) : ∃ a b c d e f g, zs = [a, b, c, d, e, f, g] := by
  match zs, h with
  | [a, b, c, d, e, f, g], _ => exact ⟨a, b, c, d, e, f, g, rfl⟩
theorem open_arr7 {H : Type} {enc : TypeId × Value → H} {P : Program} {w : World} {r : Reach} {b0 base : Nat} {spare : Nat → Bool} {held : Bool} {t e : TypeId} {v : Value} {d : DataW H} {ps : List MemPlace}
    (ht : P.underlying t = some (.array 7 e)) (he : P.underlying e = some (.int .i64)) (hce : P.cellsOf e = 1) (hct : P.cellsOf t = 7) (hval : Value.okWide P w r b0 t v) (hd : DataW.Trod enc P w base spare held t v d ps) :
    ∃ a b c d e f g : Int, v = .agg #[.int .i64 a, .int .i64 b, .int .i64 c, .int .i64 d, .int .i64 e, .int .i64 f, .int .i64 g] := by
  obtain ⟨zs, rfl, hl, _⟩ := open_arrInts ht he hce hct hval hd
  obtain ⟨a, b, c, d, e, f, g, rfl⟩ := list7 hl
  exact ⟨a, b, c, d, e, f, g, rfl⟩
/-- A struct of whole numbers by value: do its fields lie one behind the other, of these kinds? -/
def aggOk (P : Program) (fs : Array Field) (ks : List IntKind) : Bool :=
  decide (fs.size = ks.length) && (List.range ks.length).all fun i => match fs[i]?, ks[i]? with
    | some f, some k => decide (f.offset = i) && decide (P.cellsOf f.type = 1) && (match P.underlying f.type with | some (.int k') => decide (k' = k) | _ => false)
    | _, _ => false
theorem open_aggInts {H : Type} {enc : TypeId × Value → H} {P : Program} {w : World} {r : Reach} {b0 base : Nat} {spare : Nat → Bool} {held : Bool} {t : TypeId} {fs : Array Field} {v : Value} {d : DataW H} {ps : List MemPlace}
    (ks : List IntKind) (hs : P.underlying t = some (.struct fs)) (hok : aggOk P fs ks = true) (hct : P.cellsOf t = ks.length) (hval : Value.okWide P w r b0 t v) (hd : DataW.Trod enc P w base spare held t v d ps) :
    ∃ zs : List Int, v = .agg (List.zipWith Value.int ks zs).toArray ∧ zs.length = ks.length ∧ ∀ (i : Nat) (k : IntKind) (z : Int), ks[i]? = some k → zs[i]? = some z → (Lit.int k z).wf = true := by
  obtain ⟨cs, rfl, hsz⟩ := okWide_struct hs hval
  rw [hct] at hsz
  obtain ⟨fuel, hf⟩ := hd
  obtain ⟨xs, m, _, _, _, hlen, hx⟩ := DataW.trod_struct hs hf
  simp only [aggOk, Bool.and_eq_true, decide_eq_true_eq, List.all_eq_true, List.mem_range] at hok
  obtain ⟨hfs, hall⟩ := hok
  have key : ∀ (i : Nat) (k : IntKind), ks[i]? = some k → ∃ z : Int, cs[i]? = some (.int k z) ∧ (Lit.int k z).wf = true := by
    intro i k hk
    have hi : i < ks.length := (List.getElem?_eq_some_iff.1 hk).1
    have ha := hall i hi
    have hif : i < fs.size := by omega
    rw [hk, Array.getElem?_eq_getElem hif] at ha
    simp only [Bool.and_eq_true, decide_eq_true_eq] at ha
    obtain ⟨⟨ho, hc1⟩, hu⟩ := ha
    have hu' : P.underlying (fs[i]).type = some (.int k) := by
      revert hu
      split
      · rename_i k' e; intro hu; rw [e]; simpa using hu
      · intro hu; simp at hu
    have h := hx i fs[i] (Array.getElem?_eq_getElem hif)
    rw [ho, hc1] at h
    have hxi : i < xs.length := by omega
    rw [List.getElem?_eq_getElem hxi] at h
    obtain ⟨z, hz, _, hw⟩ := DataW.trod_int hu' h
    refine ⟨z, ?_, hw⟩
    simp only [Value.cells] at hz
    have hc : i < cs.size := by omega
    have hd : cs.toList.drop i = cs[i] :: cs.toList.drop (i + 1) := by
      rw [List.drop_eq_getElem_cons (by simpa using hc)]; simp
    rw [hd] at hz
    simp at hz
    rw [Array.getElem?_eq_getElem hc, hz]
  refine ⟨cs.toList.map fun v => match v with | .int _ z => z | _ => 0, ?_, by simp [hsz], ?_⟩
  · congr 1
    apply Array.ext
    · simp [hsz]
    · intro i h1 h2
      have hik : i < ks.length := by omega
      obtain ⟨z, hz, _⟩ := key i ks[i] (List.getElem?_eq_getElem hik)
      rw [Array.getElem?_eq_getElem h1] at hz
      injection hz with hz
      simp [hz]
  · intro i k z hk hz
    obtain ⟨z', hz', hw⟩ := key i k hk
    have hi : i < cs.size := (Array.getElem?_eq_some_iff.1 hz').1
    rw [Array.getElem?_eq_getElem hi] at hz'
    injection hz' with hz'
    simp [hi, hz'] at hz
    rw [← hz]; exact hw
theorem list5 {zs : List Int} (h : zs.length = 5) : ∃ a b c d e, zs = [a, b, c, d, e] := by
  match zs, h with
  | [a, b, c, d, e], _ => exact ⟨a, b, c, d, e, rfl⟩
theorem list6 {zs : List Int} (h : zs.length = 6) : ∃ a b c d e f, zs = [a, b, c, d, e, f] := by
  match zs, h with
  | [a, b, c, d, e, f], _ => exact ⟨a, b, c, d, e, f, rfl⟩
end Go.Proofs.Ytplmdgimodgekaa
