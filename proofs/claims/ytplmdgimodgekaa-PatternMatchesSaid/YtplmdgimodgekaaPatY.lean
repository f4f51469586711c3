/- Patterns: the law PatternMatches. -/
import Derived.Test.YtplmdgimodgekaaPatX
namespace Go.Proofs.Ytplmdgimodgekaa
open Go.RowKit Go.Proofs.YtplmdgimodgekaaW.PrintWords Go.Proofs.YtplmdgimodgekaaW.PrintLast Go.Proofs.YtplmdgimodgekaaW.PrintMore
attribute [local go_sem] max2_int min2_int max_two min_two max_three min_three max_four min_four   -- for this text's walks alone
set_option linter.unusedVariables false
set_option linter.unusedSimpArgs false
theorem pvI_none {L : List Int} {fold : Bool} {s : List Int} (h : compP L = none) : pvI L fold s = false := by unfold pvI; rw [h]
set_option maxHeartbeats 8000000 in
set_option maxRecDepth 100000 in
theorem PatternMatches_calls (A : List Int) (T : Option Addr) (c1 : Nat) (ss : List ByteArray) (fold : Bool) (w : World) (ha : isB A) (la : A.length ≤ 140737488351232) (hr : RdE Value.string ByteArray.empty w (.slice T ss.length c1) ss) (hss : ∀ s ∈ ss, s.size ≤ 9223372036854775807) :
    Calls Try.prog 3 #[.string (strOfNums A), .slice T ss.length c1, .bool fold] w fun e w' => e = .returned (.bool true) ∧ Below w.heap.size w w' := by
  obtain ⟨nA, hA⟩ : ∃ n, A.length = n := ⟨_, rfl⟩
  have zA : (strOfNums A).size = nA := by rw [strOf_size]; exact hA
  rw [hA] at la
  have IA := Aside0.mk ha
  have NA := Aside0.mk hA
  have HT := Aside0.mk hr
  have HSS := Aside0.mk hss
  obtain ⟨K, hK⟩ : ∃ K, ss.length = K := ⟨_, rfl⟩
  have HK := Aside0.mk hK
  have hk9 : K ≤ 9223372036854775807 := by obtain ⟨_, _, _, _, hm⟩ := hr; rw [← hK]; exact hm.2.1
  rw [hK] at HT ⊢
  clear ha hA hr hss hK
  by_cases c1' : 500 < nA
  · have g1 : decide (500 < (nA : Int)) = true := decide_eq_true (by omega)
    have g1' : decide (500 < nA) = true := decide_eq_true c1'
    go_enter Try.func3, Try.ntmps3
    go_wp2_with fail
    with_reducible refine (pat_awake_calls _).mono ?_
    rintro e w1 ⟨rfl, hb⟩
    have HB1 := Aside0.mk hb
    clear hb
    go_wp2_with fail
    go_ret
    exact ⟨rfl, HB1.out⟩
  · have g1 : decide (500 < (nA : Int)) = false := decide_eq_false (by omega)
    have g1' : decide (500 < nA) = false := decide_eq_false c1'
    go_enter Try.func3, Try.ntmps3
    go_wp2_with fail
    refine (pCompile_any A fold _ _ rfl IA.out (by rw [NA.out]; omega)).mono ?_
    rintro e w1 ⟨pv, ev, rfl, hc, hb⟩
    have HC := Aside0.mk hc
    have HB := Aside0.mk hb
    clear hc hb
    go_wp2_with fail
    with_reducible refine (rCompile_any A _ IA.out (by rw [NA.out]; omega)).mono ?_
    rintro e w2 ⟨rv, ok, rfl, hr, hb⟩
    have HR := Aside0.mk hr
    replace HC := Aside0.mk (HC.out.below hb)
    replace HB := Aside0.mk (below_step HB.out hb)
    have hok : ok = (compP A).isSome := by
      rcases hr with ⟨h1, h2, h3⟩ | ⟨xs, h1, h2, h3⟩
      · rw [h1, h3]; rfl
      · rw [h1, h2]; rfl
    have HOK := Aside0.mk hok
    have HPE := Aside0.mk (show (ok = false ∧ pv = .pointer none ∧ ev = 29) ∨ (ok = true ∧ ev = 0) by
      rcases HC.out with ⟨h1, h2, h3⟩ | ⟨g, chs, h1, h2, h3, _⟩
      · exact .inl ⟨by rw [hok, h1]; rfl, h2, h3⟩
      · exact .inr ⟨by rw [hok, h1]; rfl, h3⟩)
    clear hr hb hok
    go_upto_region 5 with fail
    go_cut [8, 10, 42] (fun v8 v10 v42 wx => v8 = .int .i64 ev ∧ v10 = .bool ok ∧ v42 = .bool false ∧ w2 = wx)
    case first =>
      rcases HPE.out with ⟨rfl, rfl, rfl⟩ | ⟨rfl, rfl⟩
      · go_wp2_with fail
        go_meet
        exact ⟨rfl, rfl, rfl, rfl⟩
      · go_wp2_with fail
        go_meet
        exact ⟨rfl, rfl, rfl, rfl⟩
    case rest =>
    obtain ⟨rfl, rfl, rfl, rfl⟩ := hcut
    go_upto_block 0 with (fail)
    go_cut [] (fun wx => Aside0 (Below w.heap.size w wx))
    case first =>
      go_wp2_with fail
      go_loopg [11] 13 (fun kq v11 w' => ∃ i : Nat, v11 = .int .i64 (i : Int) ∧ i ≤ 12 ∧ 13 ≤ i + kq ∧ Aside0 (CpV w' pv ev A fold) ∧ Aside0 (RpV2 w' rv ok A) ∧ Aside0 (Below w.heap.size w w'))
      case atStart => exact ⟨0, rfl, by omega, by omega, HC, HR, HB⟩
      case round =>
        clear HC HR HB
        obtain ⟨i, rfl, hi, hik, HC, HR, HB⟩ := hrel
        by_cases c2 : i < K
        · have g2 : decide ((i : Int) < (K : Int)) = true := decide_eq_true (by omega)
          have g2' : decide (i < K) = true := decide_eq_true c2
          by_cases c3 : i < 12
          · have g3 : decide ((i : Int) < 12) = true := decide_eq_true (by omega)
            have g3' : decide (i < 12) = true := decide_eq_true c3
            obtain ⟨ad, eA, y0⟩ := rdE_at (HT.out.below HB.out) i (by rw [HK.out]; exact c2)
            subst eA
            obtain ⟨st, hst⟩ : ∃ st, ss.getD i ByteArray.empty = st := ⟨_, rfl⟩
            have HSZ := Aside0.mk (show st.size ≤ 9223372036854775807 by
              have hil : i < ss.length := by rw [HK.out]; exact c2
              rw [← hst, List.getD_eq_getElem?_getD, List.getElem?_eq_getElem hil]; exact HSS.out _ (List.getElem_mem hil))
            rw [hst] at y0
            clear hst
            obtain ⟨nS, hnS⟩ : ∃ n, st.size = n := ⟨_, rfl⟩
            have hs9 : nS ≤ 9223372036854775807 := by rw [← hnS]; exact HSZ.out
            by_cases c4 : 300 < nS
            · have g4 : decide (300 < (nS : Int)) = true := decide_eq_true (by omega)
              have g4' : decide (300 < nS) = true := decide_eq_true c4
              go_wp2_with fail
              with_reducible refine (pat_awake_calls _).mono ?_
              rintro e w3 ⟨rfl, hb⟩
              have HB3 := Aside0.mk (below_step HB.out hb)
              clear hb
              go_wp2_with fail
              go_ret
              exact ⟨rfl, HB3.out⟩
            · have g4 : decide (300 < (nS : Int)) = false := decide_eq_false (by omega)
              have g4' : decide (300 < nS) = false := decide_eq_false c4
              have HSL := Aside0.mk (show (bytesOf st).length ≤ 100000 by rw [bytesOf_length, hnS]; omega)
              have wi : IntKind.i64.wrap ((i : Int) + 1) = (i : Int) + 1 := by rw [IntKind.wrap_i64]; omega
              go_wp2_with fail
              refine (pIs_any _ pv ev A fold (bytesOf st) _ HC.out (strOf_bytesOf st).symm (bytesOf_isB st) HSL.out).mono ?_
              rintro e w3 ⟨rfl, hb⟩
              have HC3 := Aside0.mk (HC.out.below hb)
              have HR3 := Aside0.mk (HR.out.below hb)
              have HB3 := Aside0.mk (below_step HB.out hb)
              have y3 := pw_cell_below hb y0
              obtain ⟨bi, hbi⟩ : ∃ b, pvI A fold (bytesOf st) = b := ⟨_, rfl⟩
              have HBI := Aside0.mk hbi
              rw [hbi]
              clear hb hbi
              rcases HPE.out with ⟨rfl, hpv, hev⟩ | ⟨rfl, hev⟩
              · clear hpv hev
                have hbf : bi = false := by
                  rw [← HBI.out]
                  apply pvI_none
                  have := HOK.out
                  cases e : compP A with
                  | none => rfl
                  | some x => rw [e] at this; cases this
                subst hbf
                go_wp2_with fail
                go_roundg (gk - 1)
                case measure => omega
                case rel => exact ⟨i + 1, by go_num, by omega, by omega, HC3, HR3, HB3⟩
              · clear hev
                go_wp2_with fail
                refine (rIs_any _ rv A fold (bytesOf st) _ HR3.out (strOf_bytesOf st).symm (bytesOf_isB st) HSL.out).mono ?_
                rintro e w4 ⟨rfl, hb⟩
                have HC4 := Aside0.mk (HC3.out.below hb)
                have HR4 := Aside0.mk (HR3.out.below hb)
                have HB4 := Aside0.mk (below_step HB3.out hb)
                rw [HBI.out]
                clear hb
                cases bi with
                | _ =>
                  go_wp2_with fail
                  go_roundg (gk - 1)
                  case measure => omega
                  case rel => exact ⟨i + 1, by go_num, by omega, by omega, HC4, HR4, HB4⟩
          · have g3 : decide ((i : Int) < 12) = false := decide_eq_false (by omega)
            have g3' : decide (i < 12) = false := decide_eq_false c3
            go_wp2_with fail
            go_meet
            exact HB
        · have g2 : decide ((i : Int) < (K : Int)) = false := decide_eq_false (by omega)
          have g2' : decide (i < K) = false := decide_eq_false c2
          go_wp2_with fail
          go_meet
          exact HB
    case rest =>
    have HB := hcut
    go_wp2_with fail
    with_reducible refine (pat_awake_calls _).mono ?_
    rintro e w3 ⟨rfl, hb⟩
    have HB3 := Aside0.mk (below_step HB.out hb)
    clear hb
    go_wp2_with fail
    go_ret
    exact ⟨rfl, HB3.out⟩
theorem PatternMatches_walk (a0 : ByteArray) (A1 : Option Addr) (c1 : Nat) (ss1 : List ByteArray) (a2 : Bool) (w : World) (w0 : a0.size ≤ 140737488351232) (r1 : RdE Value.string ByteArray.empty w (.slice A1 ss1.length c1) ss1) (b1 : ∀ s ∈ ss1, s.size ≤ 9223372036854775807) :
    Calls Try.prog 3 #[.string a0, .slice A1 ss1.length c1, .bool a2] w fun e w' => e = .returned (.bool true) ∧ Below w.heap.size w w' := by
  have key := PatternMatches_calls (bytesOf a0) A1 c1 ss1 a2 w (bytesOf_isB _) (by rw [bytesOf_length]; exact w0) r1 b1
  rw [strOf_bytesOf] at key
  exact key
end Go.Proofs.Ytplmdgimodgekaa
