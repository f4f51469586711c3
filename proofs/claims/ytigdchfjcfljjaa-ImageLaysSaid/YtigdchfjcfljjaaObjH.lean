/- obj.Decode, all kinds. -/
import Derived.Test.YtigdchfjcfljjaaObjP
import Derived.Test.YtigdchfjcfljjaaObjG
namespace Go.Proofs.Ytigdchfjcfljjaa
open Go.RowKit Go.Proofs.YtigdchfjcfljjaaW.PrintWords Go.Proofs.YtigdchfjcfljjaaW.PrintLast Go.Proofs.YtigdchfjcfljjaaW.PrintMore
set_option linter.unusedVariables false
set_option linter.unusedSimpArgs false


/-- Does an object begin there. -/
def dG (l : List Int) (a : Int) : Bool := frOk l a && odG l a (getN l a 8) (getN l (a + 8) 8) (alignZ (getN l (a + 8) 8))
def dV (l : List Int) (a : Int) (u1 u2 u3 : Value) : Value := bif dG l a then .tuple #[.agg #[.int .i64 (getN l a 8), u1, u2, u3], .int .i64 (a + alignZ (getN l (a + 8) 8)), .bool true] else .tuple #[.agg #[.int .i64 0, .slice none 0 0, .slice none 0 0, .slice none 0 0], .int .i64 0, .bool false]
theorem alignZ_ge (S : Int) : S ≤ alignZ S := by unfold alignZ; split <;> omega
theorem obj_Decode_all (v : Value) (l : List Int) (a : Int) (w : World) (hr : Rd w .u8 v l) (hb : isB l) (hl : l.length ≤ 100000) (ha : a ≤ 100000) (ha0 : -9223372036854775808 ≤ a) : Calls Try.prog 33 #[v, .int .i64 a] w fun e w' => (∃ u1 u2 u3, e = .returned (dV l a u1 u2 u3) ∧ (dG l a = true → Rd w' .u64 u1 (odW l a (getN l a 8)) ∧ Rd w' .u8 u2 (odR l a (getN l a 8) (getN l (a + 8) 8)) ∧ Rd w' .u64 u3 (odI l a (getN l a 8) (getN l (a + 8) 8)))) ∧ Below w.heap.size w w' := by
  cases hfo : frOk l a
  · refine (obj_Decode_no v l a w hr hb hl ha ha0 hfo).mono ?_
    rintro e w1 ⟨rfl, hb1⟩
    exact ⟨⟨.slice none 0 0, .slice none 0 0, .slice none 0 0, by rw [dV, dG, hfo]; rfl, fun h => by rw [dG, hfo] at h; cases h⟩, hb1⟩
  · obtain ⟨a0, a1, a8, k0, k1, s1, s0, s2⟩ := of_decide_eq_true hfo
    have hfv : frV l a = .tuple #[.int .i64 (getN l a 8), .int .i64 (getN l (a + 8) 8), .bool true] := by rw [frV, hfo]; rfl
    have hdg : dG l a = odG l a (getN l a 8) (getN l (a + 8) 8) (alignZ (getN l (a + 8) 8)) := by rw [dG, hfo]; rfl
    have hdv : ∀ u1 u2 u3, dV l a u1 u2 u3 = bif odG l a (getN l a 8) (getN l (a + 8) 8) (alignZ (getN l (a + 8) 8)) then .tuple #[.agg #[.int .i64 (getN l a 8), u1, u2, u3], .int .i64 (a + alignZ (getN l (a + 8) 8)), .bool true] else .tuple #[.agg #[.int .i64 0, .slice none 0 0, .slice none 0 0, .slice none 0 0], .int .i64 0, .bool false] := fun u1 u2 u3 => by rw [dV, hdg]
    clear hfo
    obtain ⟨K, hK⟩ : ∃ x, getN l a 8 = x := ⟨_, rfl⟩
    obtain ⟨S, hS⟩ : ∃ x, getN l (a + 8) 8 = x := ⟨_, rfl⟩
    simp only [hK, hS] at *
    have hal := alignZ_ge S
    have hk : K = 1 ∨ K = 2 ∨ K = 3 ∨ K = 4 := by omega
    have w1 : wN 1 = 5 := rfl
    have w2 : wN 2 = 3 := rfl
    have w3 : wN 3 = 5 := rfl
    have w4 : wN 4 = 1 := rfl
    rcases hk with rfl | rfl | rfl | rfl
    · refine (obj_Decode_1 v l a w hr hb hl ha ha0 S (alignZ S) hfv rfl a0 (by omega) hal (by omega)).mono ?_
      rintro e w1 ⟨⟨u1, u2, u3, rfl, r1, r2, r3⟩, hb1⟩
      exact ⟨⟨u1, u2, u3, by rw [hdv], fun _ => ⟨r1, r2, r3⟩⟩, hb1⟩
    · refine (obj_Decode_2 v l a w hr hb hl ha ha0 S (alignZ S) hfv rfl a0 (by omega) hal (by omega)).mono ?_
      rintro e w1 ⟨⟨u1, u2, u3, rfl, r1, r2, r3⟩, hb1⟩
      exact ⟨⟨u1, u2, u3, by rw [hdv], fun _ => ⟨r1, r2, r3⟩⟩, hb1⟩
    · refine (obj_Decode_3 v l a w hr hb hl ha ha0 S (alignZ S) hfv rfl a0 (by omega) hal (by omega)).mono ?_
      rintro e w1 ⟨⟨u1, u2, u3, rfl, r1, r2, r3⟩, hb1⟩
      exact ⟨⟨u1, u2, u3, by rw [hdv], fun _ => ⟨r1, r2, r3⟩⟩, hb1⟩
    · refine (obj_Decode_4 v l a w hr hb hl ha ha0 S (alignZ S) hfv rfl a0 (by omega) hal (by omega)).mono ?_
      rintro e w1 ⟨⟨u1, u2, u3, rfl, r1, r2, r3⟩, hb1⟩
      exact ⟨⟨u1, u2, u3, by rw [hdv], fun _ => ⟨r1, r2, r3⟩⟩, hb1⟩

end Go.Proofs.Ytigdchfjcfljjaa
