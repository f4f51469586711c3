/- The document's Span. -/
import Derived.Test.YtplmdgimodgekaaSinS
namespace Go.Proofs.Ytplmdgimodgekaa
open Go.RowKit Go.Proofs.YtplmdgimodgekaaW.PrintWords Go.Proofs.YtplmdgimodgekaaW.PrintLast Go.Proofs.YtplmdgimodgekaaW.PrintMore
attribute [local go_sem] max2_int min2_int max_two min_two max_three min_three max_four min_four   -- for this text's walks alone
set_option linter.unusedVariables false
set_option linter.unusedSimpArgs false

theorem SpI.done {l : List Int} {s : Int} (h : SpI l [] s) : spanP l = some s := by
  obtain ⟨f, _, h⟩ := h
  rw [if_pos rfl] at h
  exact h.symm
set_option maxHeartbeats 8000000 in
set_option maxRecDepth 100000 in
theorem ref_Span_calls (l : List Int) (w : World) (hl : isB l) (hm : l.length ≤ 1000) :
    Calls Try.prog 28 #[.string (strOfNums l)] w fun e w' => e = .returned (spV l) ∧ Below w.heap.size w w' := by
  have hs := strOf_size l
  obtain ⟨n, hn⟩ : ∃ n, l.length = n := ⟨_, rfl⟩
  rw [hn] at hm hs
  have HI := Aside0.mk hl
  have HN := Aside0.mk hn
  have H0 := Aside0.mk (show l ≠ [] → SpI l (l.drop 0) 0 from fun h => ⟨l.length, Nat.le_refl _, by rw [List.drop_zero, if_neg h, spanP, if_neg h]⟩)
  obtain ⟨S, hS⟩ : ∃ S, strOfNums l = S := ⟨_, rfl⟩
  rw [hS] at hs ⊢
  have HS := Aside0.mk hS
  clear hl hn hS
  by_cases h0 : n = 0
  · have HV := Aside0.mk (spV_none (l := l) (by rw [spanP, if_pos (List.eq_nil_of_length_eq_zero (by rw [HN.out, h0]))]))
    subst h0
    go_enter Try.func28, Try.ntmps28
    go_wp2_with fail
    go_loop [6] (fun v6 => v6 = .int .i64 0) (fun _ => 0)
    case atStart => rfl
    case round =>
      subst hrel
      go_wp2_with fail
      go_ret2
      exact ⟨congrArg Ending.returned HV.out.symm, Below.refl _ _⟩
  · have HNZ := Aside0.mk (show l ≠ [] from fun e => h0 (by rw [← HN.out, e]; rfl))
    have hn0 : 0 < n := by omega
    clear h0
    go_enter Try.func28, Try.ntmps28
    go_wp2_with fail
    go_loopw [4, 5, 6] (fun v4 v5 v6 w' => ∃ (i p : Nat) (s : Int), i ≤ p ∧ p < n ∧ 0 ≤ s ∧ s ≤ 1152921504606846976 ∧ v4 = .int .u64 s ∧ v5 = .int .i64 p ∧ v6 = .int .i64 i ∧ Aside0 (SpI l (l.drop p) s) ∧ Aside0 (Below w.heap.size w w')) (fun _ _ v6 _ => n - (intOf v6).toNat)
    case atStart => exact ⟨0, 0, 0, by omega, hn0, by omega, by decide, rfl, rfl, rfl, ⟨H0.out HNZ.out⟩, ⟨Below.refl _ _⟩⟩
    case round =>
      clear H0
      obtain ⟨i, p, s, hip, hpn, s0, s1, rfl, rfl, rfl, HT, HB⟩ := hrel
      have hi : i < n := by omega
      obtain ⟨E1, e1⟩ : ∃ E, E = p + tw dgt (l.drop p) := ⟨_, rfl⟩
      obtain ⟨hB1, hE1, fa1, fe1⟩ := tw_abs dgt l p n E1 HN.out (by omega) e1
      obtain ⟨E2, e2⟩ : ∃ E, E = E1 + tw ltr (l.drop E1) := ⟨_, rfl⟩
      obtain ⟨hB2, hE2, fa2, fe2⟩ := tw_abs ltr l E1 n E2 HN.out hE1 e2
      have HA := Aside0.mk (show aL (l.drop p) = (l.take E1).drop p by rw [aL, List.drop_take, e1, Nat.add_sub_cancel_left])
      have hd1 : (l.drop p).drop (tw dgt (l.drop p)) = l.drop E1 := by rw [List.drop_drop, e1]
      have HTL := Aside0.mk (show tL (l.drop p) = (l.take E2).drop E1 by rw [tL, hd1, List.drop_take, e2, Nat.add_sub_cancel_left])
      have HRL := Aside0.mk (show rL (l.drop p) = l.drop E2 by rw [rL, hd1, List.drop_drop, e2])
      have x1 : S.extract p E1 = strOfNums (aL (l.drop p)) := by rw [← HS.out, strOf_extract, HA.out]
      have x2 : S.extract E1 E2 = strOfNums (tL (l.drop p)) := by rw [← HS.out, strOf_extract, HTL.out]
      have FA1 := Aside0.mk fa1
      have FE1 := Aside0.mk fe1
      have FA2 := Aside0.mk fa2
      have FE2 := Aside0.mk fe2
      have HIR := Aside0.mk (show isB (l.drop p) from HI.out.drop _)
      have HNE := Aside0.mk (show l.drop p ≠ [] from fun e => by have := congrArg List.length e; rw [List.length_drop, HN.out, List.length_nil] at this; omega)
      have HLR := Aside0.mk (show (l.drop p).length ≤ 1000 by rw [List.length_drop, HN.out]; omega)
      have HLT := Aside0.mk (show (tL (l.drop p) = [] ↔ E1 = E2) ∧ (rL (l.drop p) = [] ↔ E2 = n) by
        rw [HTL.out, HRL.out]
        refine ⟨⟨fun h => ?_, fun h => ?_⟩, ⟨fun h => ?_, fun h => ?_⟩⟩
        · have := congrArg List.length h; rw [List.length_drop, List.length_take, HN.out, List.length_nil] at this; omega
        · rw [h]; exact List.drop_eq_nil_of_le (List.length_take_le _ _)
        · have := congrArg List.length h; rw [List.length_drop, HN.out, List.length_nil] at this; omega
        · exact List.drop_eq_nil_of_le (by rw [HN.out, h]; exact Nat.le_refl _))
      obtain ⟨r, er⟩ : ∃ r, l.drop p = r := ⟨_, rfl⟩
      rw [er] at HT x1 x2 HIR HNE HLR HLT HRL
      have HRR := Aside0.mk (show r.length = n - p by rw [← er, List.length_drop, HN.out])
      have C2 := Aside0.mk (fun w => ref_DNumber_calls (aL r) w (aL_isB HIR.out) (by have := aL_len r; have := HLR.out; omega))
      have C3 := Aside0.mk (fun w => ref_unit_calls (tL r) w (tL_isB HIR.out))
      obtain ⟨S1, hS1⟩ : ∃ S, strOfNums (aL r) = S := ⟨_, rfl⟩
      obtain ⟨S2, hS2⟩ : ∃ S, strOfNums (tL r) = S := ⟨_, rfl⟩
      rw [hS1] at C2 x1
      rw [hS2] at C3 x2
      obtain ⟨x, b, hxb, hxn⟩ : ∃ (x : Int) (b : Bool), nuV (aL r) = .tuple #[.int .u64 x, .bool b] ∧ ((b = true ∧ numG (aL r) = some x) ∨ (b = false ∧ numG (aL r) = none)) := by
        cases h : numG (aL r) with
        | none => exact ⟨0, false, nuV_none h, .inr ⟨rfl, rfl⟩⟩
        | some v => exact ⟨v, true, nuV_some h, .inl ⟨rfl, rfl⟩⟩
      rw [hxb] at C2
      have HXN := Aside0.mk hxn
      obtain ⟨u2, hu2⟩ : ∃ u, unitP (tL r) = u := ⟨_, rfl⟩
      rw [hu2] at C3
      have HU2 := Aside0.mk hu2
      have HUB := Aside0.mk (unit_bd (tL r))
      clear e1 e2 hd1 fa1 fe1 fa2 fe2 er hS1 hS2 hxb hxn hu2 HA HTL
      go_upto_block 2 with (fail)
      go_cut [5] (fun v wx => v = .int .i64 (E1 : Nat) ∧ wr = wx)
      case first =>
        go_wp2_with fail
        go_loop [5] (fun v => ∃ jj : Nat, p ≤ jj ∧ jj ≤ E1 ∧ v = .int .i64 jj) (fun v => n - (intOf v).toNat)
        case atStart => exact ⟨p, by omega, by omega, rfl⟩
        case round =>
          obtain ⟨jj, hpB, hpE, rfl⟩ := hrel
          by_cases d1 : jj < E1
          · have hx := FA1.out jj hpB d1
            have hix := str_at l HI.out jj jj rfl (by rw [HN.out]; omega)
            rw [HS.out] at hix
            obtain ⟨x, ex⟩ : ∃ x, l.getD jj 0 = x := ⟨_, rfl⟩
            rw [ex] at hix hx
            obtain ⟨x0, x1⟩ := (of_decide_eq_true hx : 48 ≤ x ∧ x ≤ 57)
            have hpl : jj < n := by omega
            clear hx ex
            go_wp2_with fail
            go_round
            case rel => exact ⟨jj + 1, by omega, by omega, by go_num⟩
            case measure => simp [intOf] <;> omega
          · have hpe : jj = E1 := by omega
            subst hpe
            by_cases d2 : jj < n
            · have hx := FE1.out d2
              have hix := str_at l HI.out jj jj rfl (by rw [HN.out]; omega)
              rw [HS.out] at hix
              obtain ⟨x, ex⟩ : ∃ x, l.getD jj 0 = x := ⟨_, rfl⟩
              rw [ex] at hix hx
              have hx2 : x < 48 ∨ (¬ x < 48 ∧ 57 < x) := by have := of_decide_eq_false hx; omega
              clear hx ex
              rcases hx2 with x0 | ⟨x0, x1⟩
              · go_wp2_with fail
                go_meet
                exact ⟨rfl, rfl⟩
              · go_wp2_with fail
                go_meet
                exact ⟨rfl, rfl⟩
            · go_wp2_with fail
              go_meet
              exact ⟨rfl, rfl⟩
      obtain ⟨rfl, rfl⟩ := hcut
      have k0 : (0 : Int) ≤ (p : Int) := by omega
      have k1 : (p : Int) ≤ (E1 : Int) := by omega
      have k2 : (E1 : Int) ≤ (n : Int) := by omega
      go_wp2_with fail
      with_reducible refine (C2.out _).mono ?_
      rintro _ w1 ⟨rfl, hb⟩
      have HB1 := Aside0.mk (below_step HB.out hb)
      clear hb
      go_upto_block 4 with (fail)
      go_cut [5] (fun v wx => v = .int .i64 (E2 : Nat) ∧ w1 = wx)
      case first =>
        go_wp2_with fail
        go_loop [5] (fun v => ∃ jj : Nat, E1 ≤ jj ∧ jj ≤ E2 ∧ v = .int .i64 jj) (fun v => n - (intOf v).toNat)
        case atStart => exact ⟨E1, by omega, by omega, rfl⟩
        case round =>
          obtain ⟨jj, hpB, hpE, rfl⟩ := hrel
          by_cases d1 : jj < E2
          · have hx := FA2.out jj hpB d1
            have hix := str_at l HI.out jj jj rfl (by rw [HN.out]; omega)
            rw [HS.out] at hix
            obtain ⟨x, ex⟩ : ∃ x, l.getD jj 0 = x := ⟨_, rfl⟩
            rw [ex] at hix hx
            obtain ⟨x0, x1⟩ := (of_decide_eq_true hx : 97 ≤ x ∧ x ≤ 122)
            have hpl : jj < n := by omega
            clear hx ex
            go_wp2_with fail
            go_round
            case rel => exact ⟨jj + 1, by omega, by omega, by go_num⟩
            case measure => simp [intOf] <;> omega
          · have hpe : jj = E2 := by omega
            subst hpe
            by_cases d2 : jj < n
            · have hx := FE2.out d2
              have hix := str_at l HI.out jj jj rfl (by rw [HN.out]; omega)
              rw [HS.out] at hix
              obtain ⟨x, ex⟩ : ∃ x, l.getD jj 0 = x := ⟨_, rfl⟩
              rw [ex] at hix hx
              have hx2 : x < 97 ∨ (¬ x < 97 ∧ 122 < x) := by have := of_decide_eq_false hx; omega
              clear hx ex
              rcases hx2 with x0 | ⟨x0, x1⟩
              · go_wp2_with fail
                go_meet
                exact ⟨rfl, rfl⟩
              · go_wp2_with fail
                go_meet
                exact ⟨rfl, rfl⟩
            · go_wp2_with fail
              go_meet
              exact ⟨rfl, rfl⟩
      obtain ⟨rfl, rfl⟩ := hcut
      have k3 : (0 : Int) ≤ (E1 : Int) := by omega
      have k4 : (E1 : Int) ≤ (E2 : Int) := by omega
      have k5 : (E2 : Int) ≤ (n : Int) := by omega
      go_wp2_with fail
      with_reducible refine (C3.out _).mono ?_
      rintro _ w2 ⟨rfl, hb⟩
      have HB2 := Aside0.mk (below_step HB1.out hb)
      clear hb C2 C3 x1 x2
      go_upto_region 14 with (fail)
      go_cut [76] (fun v wx => v = .bool (decide (E1 = E2 ∧ E2 = n)) ∧ w2 = wx)
      case first =>
        by_cases g1 : E1 = E2
        · subst g1
          by_cases g2 : E1 = n
          · subst g2
            have hd := Aside0.mk (show decide (E1 = E1 ∧ E1 = E1) = true by simp)
            go_wp2_with fail
            go_meet
            exact ⟨congrArg Value.bool hd.out.symm, rfl⟩
          · have q1 : ((E1 : Int) == (n : Int)) = false := by rw [beq_eq_false_iff_ne]; omega
            have hd := Aside0.mk (show decide (E1 = E1 ∧ E1 = n) = false by rw [decide_eq_false_iff_not]; exact fun h => g2 h.2)
            go_wp2_with fail
            go_meet
            exact ⟨congrArg Value.bool hd.out.symm, rfl⟩
        · have q1 : ((E1 : Int) == (E2 : Int)) = false := by rw [beq_eq_false_iff_ne]; omega
          have hd := Aside0.mk (show decide (E1 = E2 ∧ E2 = n) = false by rw [decide_eq_false_iff_not]; exact fun h => g1 h.1)
          go_wp2_with fail
          go_meet
          exact ⟨congrArg Value.bool hd.out.symm, rfl⟩
      obtain ⟨rfl, rfl⟩ := hcut
      have HDD := Aside0.mk (show uOf r = if decide (E1 = E2 ∧ E2 = n) then 1000000 else u2 by
        by_cases g : E1 = E2 ∧ E2 = n
        · rw [decide_eq_true g, if_pos rfl, uOf, if_pos (HLT.out.1.2 g.1), if_pos (HLT.out.2.2 g.2)]
        · rw [decide_eq_false g, if_neg (by decide), uOf]
          by_cases g1 : tL r = []
          · rw [if_pos g1, if_neg (fun e => g ⟨HLT.out.1.1 g1, HLT.out.2.1 e⟩), ← HU2.out, g1]; rfl
          · rw [if_neg g1, HU2.out])
      obtain ⟨bd, hbd⟩ : ∃ b, decide (E1 = E2 ∧ E2 = n) = b := ⟨_, rfl⟩
      rw [hbd] at HDD ⊢
      clear hbd
      go_upto_if 76 with (fail)
      go_cut [10] (fun v wx => v = .int .u64 (uOf r) ∧ w2 = wx)
      case first =>
        cases bd with
        | true =>
          go_wp2_with fail
          go_meet
          exact ⟨by rw [HDD.out]; rfl, rfl⟩
        | false =>
          go_wp2_with fail
          go_meet
          exact ⟨by rw [HDD.out]; rfl, rfl⟩
      obtain ⟨rfl, rfl⟩ := hcut
      have HUU := Aside0.mk (show 0 ≤ uOf r ∧ uOf r ≤ 604800000000 by
        unfold uOf
        split
        · split <;> omega
        · exact HUB.out)
      obtain ⟨u, hu⟩ : ∃ u, uOf r = u := ⟨_, rfl⟩
      rw [hu] at HUU ⊢
      obtain ⟨u0, u1⟩ := HUU.out
      have HUO := Aside0.mk hu
      clear hu
      rcases hbx : HXN.out with ⟨rfl, hg⟩ | ⟨rfl, hg⟩
      · obtain ⟨x0, x1⟩ := numG_bd hg
        have HSP := Aside0.mk (fun f => spF_some f r s hg)
        rw [HUO.out] at HSP
        have HLL := Aside0.mk (rL_len hg)
        clear hg hbx
        by_cases g1 : u = 0
        · have HV := Aside0.mk (spV_none (HT.out.none HNE.out (fun f => by rw [HSP.out f, if_pos (.inl g1)])))
          subst g1
          clear x1
          go_wp2_with fail
          go_ret2
          exact ⟨congrArg Ending.returned HV.out.symm, HB2.out⟩
        · have g2 : 1 ≤ u := by omega
          have g3 : (u == 0) = false := by rw [beq_eq_false_iff_ne]; exact g1
          obtain ⟨q, hq⟩ : ∃ q, (1152921504606846976 - s) / u = q := ⟨_, rfl⟩
          obtain ⟨m, hm'⟩ : ∃ m, x * u = m := ⟨_, rfl⟩
          have HNQ := Aside0.mk (show x ≤ q ↔ ¬ 1152921504606846976 - s < m by
            have := ndec (s := s) x0 g2 s1
            unfold most at this
            rw [hq, hm'] at this
            exact this)
          have hm0 : x ≤ m := by rw [← hm']; have := Int.mul_le_mul_of_nonneg_left g2 x0; rwa [Int.mul_one] at this
          have HM := Aside0.mk hm'
          have hq2 : (1152921504606846976 - s).tdiv u = q := by rw [Int.tdiv_eq_ediv_of_nonneg (by omega)]; exact hq
          have hq0 : 0 ≤ q := by rw [← hq]; exact Int.ediv_nonneg (by omega) u0
          have hq1 : q ≤ 1152921504606846976 := by rw [← hq]; have := Int.ediv_le_self (a := 1152921504606846976 - s) u (by omega); omega
          have hwq : IntKind.u64.wrap q = q := by rw [IntKind.wrap_u64]; omega
          have hws : IntKind.u64.wrap (1152921504606846976 - s) = 1152921504606846976 - s := by rw [IntKind.wrap_u64]; omega
          clear x1
          by_cases g4 : 1152921504606846976 < x
          · have HV := Aside0.mk (spV_none (HT.out.none HNE.out (fun f => by rw [HSP.out f, if_pos (.inr (by rw [HM.out]; unfold most; omega))])))
            go_wp2_with fail
            go_ret2
            exact ⟨congrArg Ending.returned HV.out.symm, HB2.out⟩
          · by_cases g5 : q < x
            · have HV := Aside0.mk (spV_none (HT.out.none HNE.out (fun f => by rw [HSP.out f, if_pos (.inr (by rw [HM.out]; unfold most; have := HNQ.out; omega))])))
              go_wp2_with fail
              go_ret2
              exact ⟨congrArg Ending.returned HV.out.symm, HB2.out⟩
            · have hm1 : m ≤ 1152921504606846976 - s := by have := HNQ.out; omega
              have hwm : IntKind.u64.wrap m = m := by rw [IntKind.wrap_u64]; omega
              have hwt : IntKind.u64.wrap (s + m) = s + m := by rw [IntKind.wrap_u64]; omega
              have HNX := Aside0.mk (show SpI l (rL r) (s + m) from HT.out.next HNE.out HLL.out (fun f => by
                rw [HSP.out f, HM.out, if_neg (by unfold most; omega)]))
              by_cases g6 : E2 = n
              · have HV := Aside0.mk (spV_some (l := l) (v := s + m) (by have := HNX.out; rw [HLT.out.2.2 g6] at this; exact this.done))
                subst g6
                go_wp2_with fail
                go_ret2
                exact ⟨congrArg Ending.returned HV.out.symm, HB2.out⟩
              · have q1 : ((E2 : Int) == (n : Int)) = false := by rw [beq_eq_false_iff_ne]; omega
                have hpe : p < E2 := by
                  have := HLL.out
                  rw [HRL.out, List.length_drop, HRR.out, HN.out] at this
                  omega
                have HNY := Aside0.mk (show SpI l (l.drop E2) (s + m) by rw [← HRL.out]; exact HNX.out)
                go_wp2_with fail
                go_roundw
                case rel => exact ⟨i + 1, E2, s + m, by omega, by omega, by omega, by omega, rfl, rfl, by go_num, HNY, HB2⟩
                case measure => simp [intOf] <;> omega
      · have HV := Aside0.mk (spV_none (HT.out.none HNE.out (fun f => spF_none f r s hg)))
        clear hg hbx
        go_wp2_with fail
        go_ret2
        exact ⟨congrArg Ending.returned HV.out.symm, HB2.out⟩
end Go.Proofs.Ytplmdgimodgekaa
