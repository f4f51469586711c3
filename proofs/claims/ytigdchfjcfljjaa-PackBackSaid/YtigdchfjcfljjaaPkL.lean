/- Packed bytes: the law PackBack. -/
import Derived.Test.YtigdchfjcfljjaaPkD
import Derived.Test.YtigdchfjcfljjaaPkF
namespace Go.Proofs.Ytigdchfjcfljjaa
open Go.RowKit Go.Proofs.YtigdchfjcfljjaaW.PrintWords Go.Proofs.YtigdchfjcfljjaaW.PrintLast Go.Proofs.YtigdchfjcfljjaaW.PrintMore
attribute [local go_sem] max2_int min2_int max_two min_two max_three min_three max_four min_four   -- for this text's walks alone
set_option linter.unusedVariables false
set_option linter.unusedSimpArgs false

def tsA : List Tok := [⟨0, 0, [65]⟩, ⟨1, 6, []⟩]
theorem tsA_E : pkE tsA = [0, 65, 130, 1, 0] := by decide +kernel
theorem tsA_X : pkX tsA = [65, 65, 65, 65, 65, 65, 65] := by decide +kernel
theorem tsA_ok : pkOk tsA := fun i t h => by
  match i, h with
  | 0, h => cases h; exact .inl ⟨rfl, by decide, by decide⟩
  | 1, h => cases h; exact .inr ⟨by decide, by decide +kernel, by decide, by decide, by decide⟩
set_option maxHeartbeats 8000000 in
set_option maxRecDepth 100000 in
theorem pk_awake_calls (w : World) : Calls Try.prog 15 #[] w fun e w' => e = .returned (.bool true) ∧ Below w.heap.size w w' := by
  have HR := Aside0.mk (show Rd (w.alloc (.cells #[.int .u8 0, .int .u8 65, .int .u8 130, .int .u8 1, .int .u8 0] 5)) .u8 (.slice (some ⟨w.heap.size, 0, none⟩) 5 5) (pkE tsA) by rw [tsA_E]; exact lit_rdE (Value.int .u8) 0 w 5 [0, 65, 130, 1, 0] (by decide))
  have HB := Aside0.mk (below_alloc (Below.refl w.heap.size w) (.cells #[.int .u8 0, .int .u8 65, .int .u8 130, .int .u8 1, .int .u8 0] 5))
  have HI := Aside0.mk (show isB (pkE tsA) by rw [tsA_E]; intro x hx; simp at hx; omega)
  go_enter Try.func15, Try.ntmps15
  go_wp2_with fail
  have CU := Unpack_ok _ _ tsA 100 HR.out tsA_ok HI.out (by rw [tsA_X]; decide) (by decide) (by rw [tsA_E]; decide)
  rw [show (((100 : Nat) : Int)) = 100 from rfl] at CU
  with_reducible refine CU.mono ?_
  clear CU
  rintro e w1 ⟨u, rfl, ho, hb⟩
  rw [tsA_X] at ho
  obtain ⟨A1, c1, rfl⟩ := ho.slice
  rw [show ([65, 65, 65, 65, 65, 65, 65] : List Int).length = 7 from rfl] at ho ⊢
  have HO := Aside0.mk ho
  replace HB := Aside0.mk (below_step HB.out hb)
  clear hb ho HR HI
  have HR := Aside0.mk (show Rd (w1.alloc (.cells #[.int .u8 65, .int .u8 65, .int .u8 65, .int .u8 65, .int .u8 65, .int .u8 65, .int .u8 65] 5)) .u8 (.slice (some ⟨w1.heap.size, 0, none⟩) 7 7) [65, 65, 65, 65, 65, 65, 65] from lit_rdE (Value.int .u8) 0 w1 5 [65, 65, 65, 65, 65, 65, 65] (by decide))
  have HB2 := Aside0.mk (below_alloc (Below.refl w1.heap.size w1) (.cells #[.int .u8 65, .int .u8 65, .int .u8 65, .int .u8 65, .int .u8 65, .int .u8 65, .int .u8 65] 5))
  have HX := Aside0.mk (show isB [65, 65, 65, 65, 65, 65, 65] by intro x hx; simp at hx; omega)
  go_wp2_with fail
  with_reducible refine (Same_calls _ _ [65, 65, 65, 65, 65, 65, 65] [65, 65, 65, 65, 65, 65, 65] _ (HO.out.rd.below HB2.out) HR.out HX.out HX.out).mono ?_
  rintro e w2 ⟨rfl, hb⟩
  replace HB := Aside0.mk (below_step HB.out (below_step HB2.out hb))
  clear hb
  go_wp2_with fail
  go_ret
  exact ⟨rfl, HB.out⟩
set_option maxHeartbeats 8000000 in
set_option maxRecDepth 100000 in
theorem PackBack_calls (w : World) (vb : Value) (B : List Int) (hr : Rd w .u8 vb B) (hib : isB B) :
    Calls Try.prog 3 #[vb] w fun e w' => e = .returned (.bool true) ∧ Below w.heap.size w w' := by
  obtain ⟨N, hN⟩ : ∃ N, B.length = N := ⟨_, rfl⟩
  obtain ⟨A0, c0, ev, hcap, hm, _⟩ := hr.mid
  subst ev
  have HR := Aside0.mk hr
  have HIB := Aside0.mk hib
  have HN := Aside0.mk hN
  rw [hN] at hcap hm HR ⊢
  clear hr hib hN
  by_cases c : N ≤ 4000
  · have g1 : (4000 < (N : Int)) = False := by simp; omega
    go_enter Try.func3, Try.ntmps3
    go_wp2_with fail
    with_reducible refine (Pack_calls _ _ B HR.out HIB.out (by rw [HN.out]; exact c)).mono ?_
    rintro e w1 ⟨v1, ts, rfl, ho1, hok, hx, hl, hb⟩
    rw [HN.out] at hl
    have HE := Aside0.mk (show isB (pkE ts) from pkE_isB hok (by rw [hx]; exact HIB.out))
    have HOK := Aside0.mk hok
    have HXX := Aside0.mk hx
    have HO1 := Aside0.mk ho1
    have HB1 := Aside0.mk hb
    obtain ⟨M, hM⟩ : ∃ M, (pkE ts).length = M := ⟨_, rfl⟩
    obtain ⟨A1, c1, e1⟩ := ho1.slice
    subst e1
    rw [hM] at hl HO1 ⊢
    have HM := Aside0.mk hM
    clear ho1 hok hx hb hM g1
    go_wp2_with fail
    with_reducible refine (Unpack_ok _ _ ts N HO1.out.rd HOK.out HE.out (by rw [HXX.out, HN.out]; exact Nat.le_refl _) (by omega) (by rw [HM.out]; omega)).mono ?_
    rintro e w2 ⟨u2, rfl, ho2, hb⟩
    rw [HXX.out] at ho2
    have HO2 := Aside0.mk ho2
    have HB2 := Aside0.mk (below_step HB1.out hb)
    have HP2 := Aside0.mk (HO1.out.below hb)
    clear ho2 hb
    go_wp2_with fail
    with_reducible refine (refUnpack_ok _ _ ts N HP2.out.rd HOK.out HE.out (by rw [HXX.out, HN.out]; exact Nat.le_refl _) (by omega) (by rw [HM.out]; omega)).mono ?_
    rintro e w3 ⟨u3, rfl, ho3, hb⟩
    rw [HXX.out] at ho3
    have HO3 := Aside0.mk ho3
    have HB3 := Aside0.mk (below_step HB2.out hb)
    replace HO2 := Aside0.mk (HO2.out.below hb)
    clear ho3 hb
    go_wp2_with fail
    with_reducible refine (Same_calls _ _ B B _ HO2.out.rd (HR.out.below HB3.out) HIB.out HIB.out).mono ?_
    rintro e w4 ⟨rfl, hb⟩
    have HB4 := Aside0.mk (below_step HB3.out hb)
    replace HO3 := Aside0.mk (HO3.out.below hb)
    clear hb
    have ht : decide (B = B) = true := decide_eq_true rfl
    first | rw [ht] | skip
    clear ht
    go_wp2_with fail
    with_reducible refine (Same_calls _ _ B B _ HO3.out.rd (HR.out.below HB4.out) HIB.out HIB.out).mono ?_
    rintro e w5 ⟨rfl, hb⟩
    have HB5 := Aside0.mk (below_step HB4.out hb)
    clear hb
    have ht : decide (B = B) = true := decide_eq_true rfl
    first | rw [ht] | skip
    clear ht
    have w1' : IntKind.i64.wrap ((N : Int) + 127) = (N : Int) + 127 := by rw [IntKind.wrap_i64]; omega
    have w2' : ((N : Int) + 127).tdiv 128 = (((N + 127) / 128 : Nat) : Int) := by rw [Int.tdiv_eq_ediv_of_nonneg (by omega)]; omega
    obtain ⟨q, hq⟩ : ∃ q, (N + 127) / 128 = q := ⟨_, rfl⟩
    have hq2 : q ≤ 4127 := by omega
    rw [hq] at w2' hl
    have w3' : IntKind.i64.wrap (q : Int) = (q : Int) := by rw [IntKind.wrap_i64]; omega
    have w4' : IntKind.i64.wrap ((N : Int) + (q : Int)) = (N : Int) + (q : Int) := by rw [IntKind.wrap_i64]; omega
    have g2 : decide ((M : Int) ≤ (N : Int) + (q : Int)) = true := decide_eq_true (by omega)
    clear hq
    go_wp2_with fail
    with_reducible refine (pk_awake_calls _).mono ?_
    rintro e w6 ⟨rfl, hb⟩
    have HB6 := Aside0.mk (below_step HB5.out hb)
    clear hb
    go_wp2_with fail
    go_ret
    exact ⟨rfl, HB6.out⟩
  · have g1 : (4000 < (N : Int)) = True := by simp; omega
    go_enter Try.func3, Try.ntmps3
    go_wp2_with fail
    with_reducible refine (pk_awake_calls _).mono ?_
    rintro e w1 ⟨rfl, hb⟩
    have HB1 := Aside0.mk hb
    clear hb
    go_wp2_with fail
    go_ret
    exact ⟨rfl, HB1.out⟩
theorem PackBack_walk (a0 : Option Addr) (len0 cap0 : Nat) (z0 : List Int) (w : World) (w0 : (a0 = none ∧ len0 = 0 ∧ cap0 = 0 ∧ z0 = []) ∨ ∃ x, a0 = some x ∧ len0 ≤ cap0 ∧ cap0 ≤ maxLen ∧ z0.length = cap0 ∧ (∀ i, i < z0.length → w.cell? (x.add i) = some (.int .u8 (z0.getD i 0))) ∧ ∀ n ∈ z0, (Lit.int .u8 n).wf = true) (y0 : len0 * 1 ≤ 140737488351232) : Calls Try.prog 3 #[.slice a0 len0 cap0] w fun e w' => e = .returned (.bool true) ∧ Below w.heap.size w w' := by
  obtain ⟨l0, rfl, hr0, hm0, hw0, hc0⟩ := ReadsInt.ofRowC w0
  have hr : Rd w .u8 (.slice a0 l0.length cap0) l0 := ⟨_, _, rfl, hc0, hr0⟩
  have hb := wf_isB hw0
  exact PackBack_calls w _ l0 hr hb
end Go.Proofs.Ytigdchfjcfljjaa
