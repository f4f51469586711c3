/- Patterns: the law PatternQuotes. -/
import Derived.Test.YtplmdgimodgekaaPatK
namespace Go.Proofs.Ytplmdgimodgekaa
open Go.RowKit Go.Proofs.YtplmdgimodgekaaW.PrintWords Go.Proofs.YtplmdgimodgekaaW.PrintLast Go.Proofs.YtplmdgimodgekaaW.PrintMore
attribute [local go_sem] max2_int min2_int max_two min_two max_three min_three max_four min_four   -- for this text's walks alone
set_option linter.unusedVariables false
set_option linter.unusedSimpArgs false
theorem quoI {L : List Int} (h : L.length ≤ 64) (t : List Int) : (compP (quoP L)).isSome = true ∧ pvI (quoP L) false t = decide (t = L) := by
  unfold pvI
  rw [comp_quo L h]
  exact ⟨rfl, quo_is L t⟩
set_option maxHeartbeats 8000000 in
set_option maxRecDepth 100000 in
theorem PatternQuotes_calls (A B : List Int) (w : World) (ha : isB A) (hb : isB B) (la : A.length ≤ 140737488351232) (lb : B.length ≤ 140737488351232) :
    Calls Try.prog 5 #[.string (strOfNums A), .string (strOfNums B)] w fun e w' => e = .returned (.bool true) ∧ Below w.heap.size w w' := by
  obtain ⟨nA, hA⟩ : ∃ n, A.length = n := ⟨_, rfl⟩
  obtain ⟨nB, hB⟩ : ∃ n, B.length = n := ⟨_, rfl⟩
  have zA : (strOfNums A).size = nA := by rw [strOf_size]; exact hA
  have zB : (strOfNums B).size = nB := by rw [strOf_size]; exact hB
  rw [hA] at la
  rw [hB] at lb
  have IA := Aside0.mk ha
  have IB := Aside0.mk hb
  have NA := Aside0.mk hA
  have NB := Aside0.mk hB
  clear ha hb hA hB
  by_cases c1 : 64 < nA
  · have g1 : decide (64 < (nA : Int)) = true := decide_eq_true (by omega)
    have g1' : decide (64 < nA) = true := decide_eq_true c1
    go_enter Try.func5, Try.ntmps5
    go_wp2_with fail
    with_reducible refine (pat_awake_calls _).mono ?_
    rintro e w1 ⟨rfl, hb⟩
    have HB1 := Aside0.mk hb
    clear hb
    go_wp2_with fail
    go_ret
    exact ⟨rfl, HB1.out⟩
  · have g1 : decide (64 < (nA : Int)) = false := decide_eq_false (by omega)
    have g1' : decide (64 < nA) = false := decide_eq_false c1
    by_cases c2 : 300 < nB
    · have g2 : decide (300 < (nB : Int)) = true := decide_eq_true (by omega)
      have g2' : decide (300 < nB) = true := decide_eq_true c2
      go_enter Try.func5, Try.ntmps5
      go_wp2_with fail
      with_reducible refine (pat_awake_calls _).mono ?_
      rintro e w1 ⟨rfl, hb⟩
      have HB1 := Aside0.mk hb
      clear hb
      go_wp2_with fail
      go_ret
      exact ⟨rfl, HB1.out⟩
    · have g2 : decide (300 < (nB : Int)) = false := decide_eq_false (by omega)
      have g2' : decide (300 < nB) = false := decide_eq_false c2
      have HQA := Aside0.mk (show (compP (quoP A)).isSome = true ∧ pvI (quoP A) false A = true from ⟨(quoI (by rw [NA.out]; omega) A).1, by rw [(quoI (by rw [NA.out]; omega) A).2]; exact decide_eq_true rfl⟩)
      have HQB := Aside0.mk (quoI (L := A) (by rw [NA.out]; omega) B).2
      have HLQ := Aside0.mk (show (quoP A).length ≤ 100000 by have := quoP_len A; rw [NA.out] at this; omega)
      have HSE := Aside0.mk (same_iff IA.out IB.out)
      have HQI := Aside0.mk (quoP_isB IA.out)
      go_enter Try.func5, Try.ntmps5
      go_wp2_with fail
      with_reducible refine (pQuote_calls _ A IA.out (by rw [NA.out]; omega)).mono ?_
      rintro e w1 ⟨rfl, hb⟩
      have HB1 := Aside0.mk hb
      clear hb
      go_wp2_with fail
      refine (pCompile_any (quoP A) false _ _ rfl HQI.out HLQ.out).mono ?_
      rintro e w2 ⟨pv, ev, rfl, hc, hb⟩
      have he : ev = 0 := hc.err.1.2 HQA.out.1
      subst he
      have HC := Aside0.mk hc
      replace HB1 := Aside0.mk (below_step HB1.out hb)
      clear hc hb
      go_wp2_with fail
      with_reducible refine (rQuote_calls _ A IA.out (by rw [NA.out]; omega)).mono ?_
      rintro e w3 ⟨rfl, hb⟩
      replace HC := Aside0.mk (HC.out.below hb)
      replace HB1 := Aside0.mk (below_step HB1.out hb)
      clear hb
      go_wp2_with fail
      refine (pIs_any _ pv 0 (quoP A) false A _ HC.out rfl IA.out (by rw [NA.out]; omega)).mono ?_
      rintro e w4 ⟨rfl, hb⟩
      replace HC := Aside0.mk (HC.out.below hb)
      replace HB1 := Aside0.mk (below_step HB1.out hb)
      rw [HQA.out.2]
      clear hb
      go_wp2_with fail
      refine (pIs_any _ pv 0 (quoP A) false B _ HC.out rfl IB.out (by rw [NB.out]; omega)).mono ?_
      rintro e w5 ⟨rfl, hb⟩
      replace HB1 := Aside0.mk (below_step HB1.out hb)
      clear hb
      by_cases ce : A = B
      · subst ce
        rw [HQA.out.2]
        go_wp2_with fail
        with_reducible refine (pat_awake_calls _).mono ?_
        rintro e w6 ⟨rfl, hb⟩
        replace HB1 := Aside0.mk (below_step HB1.out hb)
        clear hb
        go_wp2_with fail
        go_ret
        exact ⟨rfl, HB1.out⟩
      · rw [show pvI (quoP A) false B = false from by rw [HQB.out]; exact decide_eq_false (fun e => ce e.symm)]
        have hse : ((strOfNums A).toList == (strOfNums B).toList) = false := by rw [HSE.out, decide_eq_false ce]
        clear ce
        go_wp2_with fail
        with_reducible refine (pat_awake_calls _).mono ?_
        rintro e w6 ⟨rfl, hb⟩
        replace HB1 := Aside0.mk (below_step HB1.out hb)
        clear hb
        go_wp2_with fail
        go_ret
        exact ⟨rfl, HB1.out⟩
theorem PatternQuotes_walk (a0 a1 : ByteArray) (w : World) (w0 : a0.size ≤ 140737488351232) (w1 : a1.size ≤ 140737488351232) :
    Calls Try.prog 5 #[.string a0, .string a1] w fun e w' => e = .returned (.bool true) ∧ Below w.heap.size w w' := by
  have key := PatternQuotes_calls (bytesOf a0) (bytesOf a1) w (bytesOf_isB _) (bytesOf_isB _) (by rw [bytesOf_length]; exact w0) (by rw [bytesOf_length]; exact w1)
  rw [strOf_bytesOf, strOf_bytesOf] at key
  exact key
end Go.Proofs.Ytplmdgimodgekaa
