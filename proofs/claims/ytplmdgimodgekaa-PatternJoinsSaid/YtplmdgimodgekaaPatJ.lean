/- Patterns: the law PatternJoins. -/
import Derived.Test.YtplmdgimodgekaaPatI
namespace Go.Proofs.Ytplmdgimodgekaa
open Go.RowKit Go.Proofs.YtplmdgimodgekaaW.PrintWords Go.Proofs.YtplmdgimodgekaaW.PrintLast Go.Proofs.YtplmdgimodgekaaW.PrintMore
attribute [local go_sem] max2_int min2_int max_two min_two max_three min_three max_four min_four   -- for this text's walks alone
set_option linter.unusedVariables false
set_option linter.unusedSimpArgs false
theorem joinI {A B : List Int} {fold : Bool} {s : List Int} (ha : (compP A).isSome = true) (hb : (compP B).isSome = true) (hc : (compP (A ++ 124 :: B)).isSome = true) : pvI (A ++ 124 :: B) fold s = (pvI A fold s || pvI B fold s) := by
  obtain ⟨p, hp⟩ := Option.isSome_iff_exists.1 ha
  obtain ⟨q, hq⟩ := Option.isSome_iff_exists.1 hb
  obtain ⟨r, hr⟩ := Option.isSome_iff_exists.1 hc
  unfold pvI
  rw [hp, hq, hr, comp_join hp hq hr]
  exact patIs_app _ _ _ _
theorem starI {A : List Int} {s t : List Int} (hb : ∀ x ∈ A, x ≠ 124) (hc : (compP (42 :: A)).isSome = true) (h : pvI A false s = true) : pvI (42 :: A) false (t ++ s) = true := by
  obtain ⟨r, hr⟩ := Option.isSome_iff_exists.1 hc
  unfold pvI at h ⊢
  cases hp : compP A with
  | none => rw [hp] at h; cases h
  | some p =>
    rw [hp] at h
    rw [hr]
    exact comp_star hb hp hr s t h
set_option maxHeartbeats 8000000 in
set_option maxRecDepth 100000 in
theorem PatternJoins_calls (A B s t : List Int) (w : World) (ha : isB A) (hb : isB B) (hs : isB s) (ht : isB t) (la : A.length ≤ 140737488351232) (lb : B.length ≤ 140737488351232) (ls : s.length ≤ 140737488351232) (lt : t.length ≤ 140737488351232) :
    Calls Try.prog 4 #[.string (strOfNums A), .string (strOfNums B), .string (strOfNums s), .string (strOfNums t)] w fun e w' => e = .returned (.bool true) ∧ Below w.heap.size w w' := by
  obtain ⟨nA, hA⟩ : ∃ n, A.length = n := ⟨_, rfl⟩
  obtain ⟨nB, hB⟩ : ∃ n, B.length = n := ⟨_, rfl⟩
  obtain ⟨nS, hS⟩ : ∃ n, s.length = n := ⟨_, rfl⟩
  obtain ⟨nT, hT⟩ : ∃ n, t.length = n := ⟨_, rfl⟩
  have zA : (strOfNums A).size = nA := by rw [strOf_size]; exact hA
  have zB : (strOfNums B).size = nB := by rw [strOf_size]; exact hB
  have zS : (strOfNums s).size = nS := by rw [strOf_size]; exact hS
  have zT : (strOfNums t).size = nT := by rw [strOf_size]; exact hT
  rw [hA] at la
  rw [hB] at lb
  rw [hS] at ls
  rw [hT] at lt
  have IA := Aside0.mk ha
  have IB := Aside0.mk hb
  have IS := Aside0.mk hs
  have IT := Aside0.mk ht
  have NA := Aside0.mk hA
  have NB := Aside0.mk hB
  have NS := Aside0.mk hS
  have NT := Aside0.mk hT
  clear ha hb hs ht hA hB hS hT
  obtain ⟨bb, hbb⟩ : ∃ bb, (decide (60 < nA) || (decide (60 < nB) || (decide (200 < nS) || decide (200 < nT)))) = bb := ⟨_, rfl⟩
  have HBB := Aside0.mk hbb
  clear hbb
  go_enter Try.func4, Try.ntmps4
  go_upto_region 1 with fail
  go_cut [35] (fun v35 wx => v35 = .bool bb ∧ w = wx)
  case first =>
    by_cases c1 : 60 < nA
    · have g1 : decide (60 < (nA : Int)) = true := decide_eq_true (by omega)
      have g1' : decide (60 < nA) = true := decide_eq_true c1
      go_wp2_with fail
      go_meet
      exact ⟨by rw [← HBB.out]; simp [g1'], rfl⟩
    · have g1 : decide (60 < (nA : Int)) = false := decide_eq_false (by omega)
      have g1' : decide (60 < nA) = false := decide_eq_false c1
      by_cases c2 : 60 < nB
      · have g2 : decide (60 < (nB : Int)) = true := decide_eq_true (by omega)
        have g2' : decide (60 < nB) = true := decide_eq_true c2
        go_wp2_with fail
        go_meet
        exact ⟨by rw [← HBB.out]; simp [g1', g2'], rfl⟩
      · have g2 : decide (60 < (nB : Int)) = false := decide_eq_false (by omega)
        have g2' : decide (60 < nB) = false := decide_eq_false c2
        by_cases c3 : 200 < nS
        · have g3 : decide (200 < (nS : Int)) = true := decide_eq_true (by omega)
          have g3' : decide (200 < nS) = true := decide_eq_true c3
          go_wp2_with fail
          go_meet
          exact ⟨by rw [← HBB.out]; simp [g1', g2', g3'], rfl⟩
        · have g3 : decide (200 < (nS : Int)) = false := decide_eq_false (by omega)
          have g3' : decide (200 < nS) = false := decide_eq_false c3
          by_cases c4 : 200 < nT
          · have g4 : decide (200 < (nT : Int)) = true := decide_eq_true (by omega)
            have g4' : decide (200 < nT) = true := decide_eq_true c4
            go_wp2_with fail
            go_meet
            exact ⟨by rw [← HBB.out]; simp [g1', g2', g3', g4'], rfl⟩
          · have g4 : decide (200 < (nT : Int)) = false := decide_eq_false (by omega)
            have g4' : decide (200 < nT) = false := decide_eq_false c4
            go_wp2_with fail
            go_meet
            exact ⟨by rw [← HBB.out]; simp [g1', g2', g3', g4'], rfl⟩
  case rest =>
  obtain ⟨rfl, rfl⟩ := hcut
  cases bb with
  | true =>
    go_wp2_with fail
    with_reducible refine (pat_awake_calls _).mono ?_
    rintro e w1 ⟨rfl, hb⟩
    have HB1 := Aside0.mk hb
    clear hb
    go_wp2_with fail
    go_ret
    exact ⟨rfl, HB1.out⟩
  | false =>
    have hbb := HBB.out
    simp only [Bool.or_eq_false_iff, decide_eq_false_iff_not] at hbb
    obtain ⟨c1, c2, c3, c4⟩ := hbb
    go_wp2_with fail
    refine (pCompile_any A false _ _ rfl IA.out (by rw [NA.out]; omega)).mono ?_
    rintro e w1 ⟨p1, e1, rfl, hc1, hb⟩
    have HC1 := Aside0.mk hc1
    have HB1 := Aside0.mk hb
    clear hc1 hb
    go_wp2_with fail
    refine (pCompile_any B false _ _ rfl IB.out (by rw [NB.out]; omega)).mono ?_
    rintro e w2 ⟨p2, e2, rfl, hc2, hb⟩
    have HC2 := Aside0.mk hc2
    replace HC1 := Aside0.mk (HC1.out.below hb)
    replace HB1 := Aside0.mk (below_step HB1.out hb)
    clear hc2 hb
    have k1 : (9223372036854775807 < (strOfNums A).size + 1) = False := by simp; omega
    have k2 : (9223372036854775807 < (strOfNums A).size + 1 + (strOfNums B).size) = False := by simp; omega
    go_wp2_with fail
    refine (pCompile_any (A ++ 124 :: B) false _ _ (by rw [show (⟨#[124]⟩ : ByteArray) = strOfNums [124] from rfl, strOf_append, strOf_append, List.append_assoc]; rfl) (IA.out.app (fun x hx => by
      rcases List.mem_cons.1 hx with rfl | hx
      · omega
      · exact IB.out x hx)) (by rw [List.length_append, List.length_cons, NA.out, NB.out]; omega)).mono ?_
    rintro e w3 ⟨p3, e3, rfl, hc3, hb⟩
    have HC3 := Aside0.mk hc3
    replace HC1 := Aside0.mk (HC1.out.below hb)
    replace HC2 := Aside0.mk (HC2.out.below hb)
    replace HB1 := Aside0.mk (below_step HB1.out hb)
    clear hc3 hb k1 k2
    obtain ⟨bz, hbz⟩ : ∃ bz, (e1 != 0 || (e2 != 0 || e3 != 0)) = bz := ⟨_, rfl⟩
    have HBZ := Aside0.mk hbz
    clear hbz
    go_upto_region 6 with fail
    go_cut [10, 12, 14, 64] (fun v10 v12 v14 v64 wx => v10 = .int .i64 e1 ∧ v12 = .int .i64 e2 ∧ v14 = .int .i64 e3 ∧ v64 = .bool bz ∧ w3 = wx)
    case first =>
      cases g1 : (e1 != 0) with
      | true =>
        go_wp2_with fail
        go_meet
        exact ⟨rfl, rfl, rfl, by rw [← HBZ.out]; simp [g1], rfl⟩
      | false =>
        cases g2 : (e2 != 0) with
        | true =>
          go_wp2_with fail
          go_meet
          exact ⟨rfl, rfl, rfl, by rw [← HBZ.out]; simp [g1, g2], rfl⟩
        | false =>
          cases g3 : (e3 != 0) with
          | _ =>
            go_wp2_with fail
            go_meet
            exact ⟨rfl, rfl, rfl, by rw [← HBZ.out]; simp [g1, g2, g3], rfl⟩
    case rest =>
    obtain ⟨rfl, rfl, rfl, rfl, rfl⟩ := hcut
    cases bz with
    | true =>
      go_wp2_with fail
      with_reducible refine (pat_awake_calls _).mono ?_
      rintro e w4 ⟨rfl, hb⟩
      have HB4 := Aside0.mk (below_step HB1.out hb)
      clear hb
      go_wp2_with fail
      go_ret
      exact ⟨rfl, HB4.out⟩
    | false =>
      have hz := HBZ.out
      simp only [Bool.or_eq_false_iff, bne_eq_false_iff_eq] at hz
      obtain ⟨rfl, rfl, rfl⟩ := hz
      have HJ := Aside0.mk (joinI (fold := false) (s := s) (HC1.out.err.1.1 rfl) (HC2.out.err.1.1 rfl) (HC3.out.err.1.1 rfl))
      obtain ⟨b3, hb3⟩ : ∃ b, pvI (A ++ 124 :: B) false s = b := ⟨_, rfl⟩
      obtain ⟨b1, hb1⟩ : ∃ b, pvI A false s = b := ⟨_, rfl⟩
      obtain ⟨b2, hb2⟩ : ∃ b, pvI B false s = b := ⟨_, rfl⟩
      rw [hb3, hb1, hb2] at HJ
      have H1 := Aside0.mk hb1
      have H2 := Aside0.mk hb2
      have H3 := Aside0.mk hb3
      clear hb1 hb2 hb3 HBZ HBB
      go_upto_region 8 with fail
      go_cut [77] (fun v77 wx => v77 = .bool false ∧ Aside0 (CpV wx p1 0 A false) ∧ Aside0 (Below w.heap.size w wx))
      case first =>
        go_wp2_with fail
        refine (pIs_any _ p3 0 (A ++ 124 :: B) false s _ HC3.out rfl IS.out (by rw [NS.out]; omega)).mono ?_
        rintro e w4 ⟨rfl, hb⟩
        replace HC1 := Aside0.mk (HC1.out.below hb)
        replace HC2 := Aside0.mk (HC2.out.below hb)
        replace HB1 := Aside0.mk (below_step HB1.out hb)
        rw [H3.out]
        clear hb
        go_wp2_with fail
        refine (pIs_any _ p1 0 A false s _ HC1.out rfl IS.out (by rw [NS.out]; omega)).mono ?_
        rintro e w5 ⟨rfl, hb⟩
        replace HC1 := Aside0.mk (HC1.out.below hb)
        replace HC2 := Aside0.mk (HC2.out.below hb)
        replace HB1 := Aside0.mk (below_step HB1.out hb)
        rw [H1.out]
        clear hb
        cases b1 with
        | true =>
          have hj : b3 = true := by have := HJ.out; simpa using this
          subst hj
          go_wp2_with fail
          go_meet
          exact ⟨rfl, HC1, HB1⟩
        | false =>
          have hj : b3 = b2 := by have := HJ.out; simpa using this
          subst hj
          go_wp2_with fail
          refine (pIs_any _ p2 0 B false s _ HC2.out rfl IS.out (by rw [NS.out]; omega)).mono ?_
          rintro e w6 ⟨rfl, hb⟩
          replace HC1 := Aside0.mk (HC1.out.below hb)
          replace HB1 := Aside0.mk (below_step HB1.out hb)
          rw [H2.out]
          clear hb
          cases b3 with
          | _ =>
            go_wp2_with fail
            go_meet
            exact ⟨rfl, HC1, HB1⟩
      case rest =>
      obtain ⟨rfl, HC1, HB1⟩ := hcut
      have k1 : (9223372036854775807 < 1 + (strOfNums A).size) = False := by simp; omega
      go_wp2_with fail
      refine (pCompile_any (42 :: A) false _ _ (by rw [show (⟨#[42]⟩ : ByteArray) = strOfNums [42] from rfl, strOf_append]; rfl) (fun x hx => by
        rcases List.mem_cons.1 hx with rfl | hx
        · omega
        · exact IA.out x hx) (by rw [List.length_cons, NA.out]; omega)).mono ?_
      rintro e w4 ⟨p4, e4, rfl, hc4, hb⟩
      have HC4 := Aside0.mk hc4
      replace HC1 := Aside0.mk (HC1.out.below hb)
      replace HB1 := Aside0.mk (below_step HB1.out hb)
      clear hc4 hb k1 HC2 HC3
      go_upto_block 0 with (fail)
      go_cut [] (fun wx => Aside0 (∀ x ∈ A, x ≠ 124) ∧ w4 = wx)
      case first =>
        go_wp2_with fail
        go_loopg [17] (nA + 1) (fun kq v17 w' => ∃ i : Nat, v17 = .int .i64 (i : Int) ∧ i ≤ nA ∧ nA + 1 ≤ i + kq ∧ Aside0 (∀ j, j < i → A.getD j 0 ≠ 124) ∧ w4 = w')
        case atStart => exact ⟨0, rfl, Nat.zero_le _, by omega, Aside0.mk (fun j hj => by omega), rfl⟩
        case round =>
          obtain ⟨i, rfl, hi, hik, HF, rfl⟩ := hrel
          by_cases c5 : i < nA
          · have g1 : decide ((i : Int) < (nA : Int)) = true := decide_eq_true (by omega)
            have g1' : decide (i < nA) = true := decide_eq_true c5
            have hix := fun (W : World) => str_at A IA.out i (i : Int) rfl (by rw [NA.out]; exact c5) W
            obtain ⟨c, hc⟩ : ∃ c, A.getD i 0 = c := ⟨_, rfl⟩
            have HC := Aside0.mk hc
            rw [hc] at hix
            clear hc
            have wi : IntKind.i64.wrap ((i : Int) + 1) = (i : Int) + 1 := by rw [IntKind.wrap_i64]; omega
            by_cases c6 : c = 124
            · subst c6
              go_wp2_with fail
              with_reducible refine (pat_awake_calls _).mono ?_
              rintro e w5 ⟨rfl, hb⟩
              have HB5 := Aside0.mk (below_step HB1.out hb)
              clear hb
              go_wp2_with fail
              go_ret
              exact ⟨rfl, HB5.out⟩
            · have g2 : (c == 124) = false := by simpa using c6
              have HC6 := Aside0.mk c6
              clear c6
              go_wp2_with fail
              go_roundg (gk - 1)
              case measure => omega
              case rel => exact ⟨i + 1, by go_num, c5, by omega, Aside0.mk (fun j hj => by
                by_cases e : j < i
                · exact HF.out j e
                · obtain rfl : j = i := by omega
                  rw [HC.out]; exact HC6.out), rfl⟩
          · have g1 : decide ((i : Int) < (nA : Int)) = false := decide_eq_false (by omega)
            have g1' : decide (i < nA) = false := decide_eq_false c5
            go_wp2_with fail
            go_meet
            exact ⟨Aside0.mk (fun x hx => by
              obtain ⟨j, hj, rfl⟩ := List.getElem_of_mem hx
              have := HF.out j (by rw [NA.out] at hj; omega)
              rwa [List.getD_eq_getElem?_getD, List.getElem?_eq_getElem hj] at this), rfl⟩
      case rest =>
      obtain ⟨HNB, rfl⟩ := hcut
      rcases HC4.out.err.2 with he | he
      · subst he
        have HST := Aside0.mk (fun h => starI (s := s) (t := t) HNB.out (HC4.out.err.1.1 rfl) h)
        rw [H1.out] at HST
        go_wp2_with fail
        refine (pIs_any _ p1 0 A false s _ HC1.out rfl IS.out (by rw [NS.out]; omega)).mono ?_
        rintro e w5 ⟨rfl, hb⟩
        have HC5 := Aside0.mk (HC4.out.below hb)
        replace HB1 := Aside0.mk (below_step HB1.out hb)
        rw [H1.out]
        clear hb
        cases b1 with
        | false =>
          go_wp2_with fail
          with_reducible refine (pat_awake_calls _).mono ?_
          rintro e w6 ⟨rfl, hb⟩
          replace HB1 := Aside0.mk (below_step HB1.out hb)
          clear hb
          go_wp2_with fail
          go_ret
          exact ⟨rfl, HB1.out⟩
        | true =>
          have k1 : (9223372036854775807 < (strOfNums t).size + (strOfNums s).size) = False := by simp; omega
          go_wp2_with fail
          refine (pIs_any _ p4 0 (42 :: A) false (t ++ s) _ HC5.out (strOf_append _ _) (IT.out.app IS.out) (by rw [List.length_append, NS.out, NT.out]; omega)).mono ?_
          rintro e w6 ⟨rfl, hb⟩
          replace HB1 := Aside0.mk (below_step HB1.out hb)
          rw [HST.out (by simp)]
          clear hb
          go_wp2_with fail
          with_reducible refine (pat_awake_calls _).mono ?_
          rintro e w7 ⟨rfl, hb⟩
          replace HB1 := Aside0.mk (below_step HB1.out hb)
          clear hb
          go_wp2_with fail
          go_ret
          exact ⟨rfl, HB1.out⟩
      · subst he
        go_wp2_with fail
        with_reducible refine (pat_awake_calls _).mono ?_
        rintro e w6 ⟨rfl, hb⟩
        replace HB1 := Aside0.mk (below_step HB1.out hb)
        clear hb
        go_wp2_with fail
        go_ret
        exact ⟨rfl, HB1.out⟩
theorem PatternJoins_walk (a0 a1 a2 a3 : ByteArray) (w : World) (w0 : a0.size ≤ 140737488351232) (w1 : a1.size ≤ 140737488351232) (w2 : a2.size ≤ 140737488351232) (w3 : a3.size ≤ 140737488351232) :
    Calls Try.prog 4 #[.string a0, .string a1, .string a2, .string a3] w fun e w' => e = .returned (.bool true) ∧ Below w.heap.size w w' := by
  have key := PatternJoins_calls (bytesOf a0) (bytesOf a1) (bytesOf a2) (bytesOf a3) w (bytesOf_isB _) (bytesOf_isB _) (bytesOf_isB _) (bytesOf_isB _) (by rw [bytesOf_length]; exact w0) (by rw [bytesOf_length]; exact w1) (by rw [bytesOf_length]; exact w2) (by rw [bytesOf_length]; exact w3)
  rw [strOf_bytesOf, strOf_bytesOf, strOf_bytesOf, strOf_bytesOf] at key
  exact key
end Go.Proofs.Ytplmdgimodgekaa
