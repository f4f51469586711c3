/- What is put down, taken again: small facts. -/
import Derived.Test.YtigdchfjcfljjaaReader2
import Derived.Lib.SlBytesConst
import Derived.Lib.SmallJoins
namespace Go.Proofs.Ytigdchfjcfljjaa
open Go.RowKit Go.Proofs.YtigdchfjcfljjaaW.PrintWords Go.Proofs.YtigdchfjcfljjaaW.PrintLast Go.Proofs.YtigdchfjcfljjaaW.PrintMore
attribute [local go_sem] max2_int min2_int max_two min_two max_three min_three max_four min_four   -- for this text's walks alone
set_option linter.unusedVariables false
set_option linter.unusedSimpArgs false

theorem WrS.next {w w1 w2 : World} {g : Nat} {v : Value} {l l' : List Int} (h : WrV w1 g w.heap.size v l) (hb : Below w.heap.size w w1) (hg : w.heap.size ≤ g) (hs : WrS w1 w2 g w.heap.size v l') : ∃ v', WrV w2 g w.heap.size v' l' ∧ Below w.heap.size w w2 := by
  obtain ⟨v', hv, hk, _⟩ := hs
  exact ⟨v', hv, Kp.from hb hk (fun k hh => by rcases hh with rfl | hh; exact hg; exact h.2.ge hh)⟩
theorem words8_drop : ∀ (l : List Int) (i : Nat), (words8 l).drop (8 * i) = words8 (l.drop i)
  | [], i => by simp [words8]
  | n :: r, 0 => by simp
  | n :: r, i + 1 => by
    rw [words8, List.drop_succ_cons, ← words8_drop r i, show 8 * (i + 1) = (leB n 8).length + 8 * i by rw [leB_len]; omega, List.drop_append]
    simp
theorem words8_isB' : ∀ l, isB (words8 l)
  | [] => fun x hx => by simp [words8] at hx
  | n :: r => (leB_isB n 8).app (words8_isB' r)
theorem getN_words (pre l : List Int) (hw : isW l) (i : Nat) (hi : i < l.length) : getN (pre ++ words8 l) ((pre.length : Int) + 8 * (i : Int)) 8 = l.getD i 0 := by
  have hf : fitsB (pre ++ words8 l).length ((pre.length : Int) + 8 * (i : Int)) 8 = true := fits_ok ⟨by omega, by omega, by rw [List.length_append, words8_len]; omega, by rw [List.length_append, words8_len]; omega⟩
  rw [getN, if_pos hf, show ((pre.length : Int) + 8 * (i : Int)).toNat = pre.length + 8 * i by omega, List.drop_append, show pre.length + 8 * i - pre.length = 8 * i by omega, List.drop_eq_nil_of_le (show pre.length ≤ pre.length + 8 * i by omega), List.nil_append, words8_drop, drop_cons' hi]
  rw [show (8 : Int).toNat = 8 from rfl, words8]
  have h := leN_leB 8 (l.getD i 0) (hw.getD i).1
  rw [List.take_append_of_le_length (by rw [leB_len]; exact Nat.le_refl 8), List.take_of_length_le (by rw [leB_len]; exact Nat.le_refl 8), h]
  have := hw.getD i
  omega
theorem words_back (pre l : List Int) (hw : isW l) : wordsAt (pre ++ words8 l) (pre.length : Int) l.length = l := by
  apply List.ext_getElem?
  intro i
  simp only [wordsAt, List.getElem?_map]
  rcases Nat.lt_or_ge i l.length with h | h
  · rw [List.getElem?_range h, Option.map_some, getN_words pre l hw i h, List.getD_eq_getElem?_getD, List.getElem?_eq_getElem h]; rfl
  · rw [List.getElem?_eq_none (by simpa using h), List.getElem?_eq_none h]; rfl
theorem raw_back1 (b r : List Int) : rawAt (b ++ r) 0 (b.length : Int) = b := by simp [rawAt]
theorem raw_back2 (b : List Int) (p : Nat) (r : List Int) : rawAt (b ++ List.replicate p (0 : Int) ++ r) (b.length : Int) (p : Int) = List.replicate p 0 := by
  rw [rawAt, show ((b.length : Int) + (p : Int)).toNat = (b ++ List.replicate p (0 : Int)).length by simp; omega, List.take_left]
  simp
/-- The bytes of a constant text. -/
theorem Rd.const (w : World) (k : IntKind) (e : TypeId) (fr : Nat × Nat) (xs : List Int) (hm : xs.length ≤ 9223372036854775807) : Rd (w.alloc (.cells (nums k xs).toArray e fr)) k (.slice (some ⟨w.heap.size, 0, none⟩) xs.length xs.length) xs :=
  ⟨_, _, rfl, Nat.le_refl _, rfl, hm, fun _ => ⟨_, rfl, fun j hj => by
    rw [add_plain, World.cell?_alloc_mark]
    simp [nums, List.getD_eq_getElem?_getD, hj]⟩⟩
theorem WrS.keep {w w1 : World} {g base b t : Nat} {v : Value} {l l' : List Int} {cs : Array Value} (hs : WrS w w1 g base v l') (hv : WrV w g base v l) (hb : w.heap[b]? = some (.cells cs t (0, 0))) (ht : 5 ≠ t) (hg : b ≠ g) : w1.heap[b]? = some (.cells cs t (0, 0)) := by
  obtain ⟨v', _, hk, _⟩ := hs
  exact hk.blk hb (fun hh => by rcases hh with rfl | hh; exact hg rfl; exact hv.2.ne hb ht hh)
end Go.Proofs.Ytigdchfjcfljjaa
