/- A slice of strings as a parameter. -/
import Derived.Test.YtplmdgimodgekaaAp
import Derived.SliceStrings
namespace Go.Proofs.Ytplmdgimodgekaa
open Go.RowKit Go.Proofs.YtplmdgimodgekaaW.PrintWords Go.Proofs.YtplmdgimodgekaaW.PrintLast Go.Proofs.YtplmdgimodgekaaW.PrintMore
set_option linter.unusedVariables false
set_option linter.unusedSimpArgs false

theorem oneS : ∀ x : ByteArray, (Value.string x).oneCell' = true := fun _ => rfl
theorem infoStr : (Try.prog.info? 9).map (fun i => (i.zero, i.size, i.bytes)) = some (some (.string ByteArray.empty), 1, 16) := by kernel_rfl
theorem appS {W : World} {base : Nat} {v : Value} {xs : List ByteArray} (y : ByteArray) {k : Nat} (HO : OwnO Value.string W base 9 v xs) (hk : xs.length = k) (hbase : base ≤ W.heap.size) (hl : k ≤ 1000000000000) :
    ∃ A1 c1 w1, (Builtin.append_ #[22, 22] 22 #[v, .slice (some ⟨W.heap.size, 0, none⟩) 1 1]).run Try.prog (W.alloc (.cells #[.string y] 9)) = .ok (.slice A1 (k + 1) c1) w1 ∧ OwnO Value.string w1 base 9 (.slice A1 (k + 1) c1) (xs ++ [y]) ∧ Kp (fun b => v.ownBlock = some b) W w1 ∧ ((Value.slice A1 (k + 1) c1).ownBlock = v.ownBlock ∨ ∃ b, (Value.slice A1 (k + 1) c1).ownBlock = some b ∧ W.heap.size ≤ b) :=
  app_lits (P := Try.prog) (d := ByteArray.empty) oneS Try.underlying22 infoStr rfl (by omega) [y] rfl HO hk rfl hbase (by omega)
theorem open_strs {H : Type} {enc : TypeId × Value → H} {P : Program} {w : World} {base : Nat} {held : Bool} {t e : TypeId} {fuel : Nat} {cs : List Value} {x : DataW H × List MemPlace} (ht : P.underlying t = some (.slice e)) (he : P.underlying e = some .string)
    (ce : P.cellsOf e = 1) (h : DataW.trod enc P w base (fun _ => true) held fuel t cs = some x) :
    ∃ (A : Option Addr) (ss : List ByteArray) (c : Nat), cs = [.slice A ss.length c] ∧ RdE Value.string ByteArray.empty w (.slice A ss.length c) ss ∧ ∀ s ∈ ss, s.size ≤ 9223372036854775807 := by
  rcases Go.ChangeShapes.open_strings ht he ce h with ⟨hcs, _⟩ | ⟨a, len, cap, ss, hcs, _, hl, hm, hz, _, hcell, hsz⟩
  · exact ⟨none, [], 0, hcs, ⟨none, 0, rfl, Nat.le_refl _, rfl, by simp, fun h => by simp at h⟩, fun s hs => by simp at hs⟩
  · have hz : ss.length = cap := by simpa using hz
    have hlen : (ss.take len).length = len := by rw [List.length_take]; omega
    refine ⟨some a, ss.take len, cap, by rw [hlen]; exact hcs, ⟨some a, cap, rfl, by rw [hlen]; exact hl, rfl, by rw [hlen]; unfold maxLen at hm; omega, fun _ => ⟨a, rfl, fun i hi => ?_⟩⟩, fun s hs => by have := hsz s (List.mem_of_mem_take hs); unfold maxLen at this; exact this⟩
    rw [hlen] at hi
    rw [hcell i (by omega)]
    congr 2
    rw [List.getD_eq_getElem?_getD, List.getD_eq_getElem?_getD, List.getElem?_take_of_lt hi]
end Go.Proofs.Ytplmdgimodgekaa
