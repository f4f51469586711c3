/- LeTakes: what is taken from every place on. (Printed by wip/takes.py.) -/
import Derived.Test.YtmcgpaikmmecoaaReader2
namespace Go.Proofs.Ytmcgpaikmmecoaa
open Go.RowKit Go.Proofs.YtmcgpaikmmecoaaW.PrintWords Go.Proofs.YtmcgpaikmmecoaaW.PrintLast Go.Proofs.YtmcgpaikmmecoaaW.PrintMore
attribute [local go_sem] max2_int min2_int max_two min_two max_three min_three max_four min_four   -- for this text's walks alone
set_option linter.unusedVariables false
set_option linter.unusedSimpArgs false

theorem rOk_true {bad : Bool} {n a w : Int} (h : rOk bad n a w = true) : bad = false ∧ fitsB n a w = true := by simpa [rOk] using h
theorem oneU64 : ∀ x : Int, (Value.int .u64 x).oneCell' = true := fun _ => rfl
theorem app64 {W : World} {base : Nat} {v u : Value} {xs ys : List Int} (HO : Own (Value.int .u64) W base 22 v xs) (HR : Rd W .u64 u ys) (hbase : base ≤ W.heap.size) (hl : xs.length + ys.length ≤ 17592186044416) :
    ∃ A1 c1 w1, (Builtin.append_ #[40, 40] 40 #[v, u]).run Try.prog W = .ok (.slice A1 (xs ++ ys).length c1) w1 ∧ Own (Value.int .u64) w1 base 22 (.slice A1 (xs ++ ys).length c1) (xs ++ ys) ∧ W.grownBy w1 v.ownBlock ∧ ((Value.slice A1 (xs ++ ys).length c1).ownBlock = v.ownBlock ∨ ∃ b, (Value.slice A1 (xs ++ ys).length c1).ownBlock = some b ∧ W.heap.size ≤ b) := by
  obtain ⟨v1, w1, hr, hO, hg, hat⟩ := app_run (P := Try.prog) (Value.int .u64) (0 : Int) oneU64 40 40 22 (.int .u64 0) 8 Try.underlying40 infoU64 rfl (by omega) HO HR hbase (by omega)
  obtain ⟨A1, c1, rfl⟩ := own_slice hO
  exact ⟨A1, c1, w1, hr, hO, hg, hat⟩
theorem wordsAt_snoc (l : List Int) (a : Int) (k : Nat) : wordsAt l a (k + 1) = wordsAt l a k ++ [getN l (a + 8 * (k : Int)) 8] := by simp [wordsAt, List.range_succ]
theorem num_eq {bad : Bool} {lr lb : List Int} (h : bad = false → lr = lb) (a w : Int) : (bif rOk bad lr.length a w then getN lr a w else 0) = (bif rOk bad lb.length a w then getN lb a w else 0) ∧ rOk bad lr.length a w = rOk bad lb.length a w := by
  cases bad with
  | false => rw [h rfl]; exact ⟨rfl, rfl⟩
  | true => simp [rOk]
theorem wrd_eq {bad : Bool} {lr lb : List Int} (h : bad = false → lr = lb) (a k : Int) (n : Nat) : (bif wOk bad lr.length a k then wordsAt lr a n else []) = (bif wOk bad lb.length a k then wordsAt lb a n else []) ∧ wOk bad lr.length a k = wOk bad lb.length a k := by
  cases bad with
  | false => rw [h rfl]; exact ⟨rfl, rfl⟩
  | true => simp [wOk]
theorem raw_eq {bad : Bool} {lr lb : List Int} (h : bad = false → lr = lb) (a k : Int) : (bif kOk bad lr.length a k then rawAt lr a k else []) = (bif kOk bad lb.length a k then rawAt lb a k else []) ∧ kOk bad lr.length a k = kOk bad lb.length a k := by
  cases bad with
  | false => rw [h rfl]; exact ⟨rfl, rfl⟩
  | true => simp [kOk]
set_option maxHeartbeats 40000000 in
set_option maxRecDepth 100000 in
theorem LeTakes_calls (v : Value) (lb : List Int) (a0 : Int) (A : Option Addr) (n c : Nat) (acts : List ActR) (w : World) (hv : Rd w .u8 v lb) (hib : isB lb) (hn : acts.length = n) (hm : n ≤ 9223372036854775807) (hnc : n ≤ c)
    (hA : 0 < n → ∃ ad, A = some ad ∧ ∀ i x, acts[i]? = some x → ∃ vL vB, ActAt w ad i x vL vB) :
    Calls Try.prog 8 #[v, .int .i64 a0, .slice A n c] w fun e w' => e = .returned (.bool true) ∧ Below w.heap.size w w' := by
  have HV := Aside0.mk hv
  have HIB := Aside0.mk hib
  have HN := Aside0.mk hn
  have HA := Aside0.mk hA
  have HCELL : ∀ {W : World} {i : Nat} {ad : Addr} {x : ActR} {vL vB : Value}, Below w.heap.size w W → ActAt w ad i x vL vB → ActAt W ad i x vL vB := fun hb h => ⟨pw_cell_below hb h.c0, pw_cell_below hb h.c1, pw_cell_below hb h.c2, pw_cell_below hb h.c3, pw_cell_below hb h.c4, h.rl.below hb, h.rb.below hb, h.kb, h.nb, h.wb, h.lw, h.bb⟩
  have HC := Aside0.mk (@HCELL)
  clear HCELL
  have HFAR : Aside0 (∀ (A : Addr) n c, v = .slice (some A) n c → 0 < lb.length → A.block ≠ w.heap.size) := ⟨fun A n c e hp => by have := rd_old hv e hp; omega⟩
  obtain ⟨Av, cv, ev, hcv, hmv, hrv⟩ := hv.mid
  clear hA hn hib hv hrv
  subst ev
  by_cases hlen : 2000 < lb.length
  · go_enter Try.func8, Try.ntmps8
    go_wp2_with fail
    refine (le_awake_calls _).mono ?_
    rintro e w1 ⟨rfl, hb⟩
    have HB1 := Aside0.mk hb
    clear hb
    go_wp2_with fail
    go_ret
    exact ⟨rfl, HB1.out⟩
  · go_enter Try.func8, Try.ntmps8
    go_wp2_with fail
    refine (le_Read_calls _ lb a0 _ HV.out (by omega)).mono ?_
    rintro e w1 ⟨rfl, hb0, hr0⟩
    have HB0 := Aside0.mk hb0
    have HR0 := Aside0.mk hr0
    clear hb0 hr0
    go_upto_region 4 with fail
    go_cut [8] (fun v8 wx => v8 = .bool (decide (a0 < 0 ∨ (lb.length : Int) < a0)) ∧ wx = w1)
    case first =>
      by_cases c00 : a0 < 0
      · go_wp2_with fail
        go_meet
        exact ⟨by rw [decide_eq_true (Or.inl c00)], rfl⟩
      · by_cases c01 : (lb.length : Int) < a0
        · go_wp2_with fail
          go_meet
          exact ⟨by rw [decide_eq_true (Or.inr c01)], rfl⟩
        · go_wp2_with fail
          go_meet
          exact ⟨by rw [decide_eq_false (by omega)], rfl⟩
    case rest =>
    obtain ⟨rfl, rfl⟩ := hcut
    obtain ⟨badS, hbadS⟩ : ∃ b, decide (a0 < 0 ∨ (lb.length : Int) < a0) = b := ⟨_, rfl⟩
    have HBADS := Aside0.mk hbadS
    rw [hbadS]
    clear hbadS
    go_upto_if 37 with fail
    go_cut [1] (fun v1 wx => ∃ (a : Int) (vr : Value) (lr : List Int), v1 = .int .i64 a ∧ 0 ≤ a ∧ a ≤ (lb.length : Int) ∧ Aside0 (a ≤ (lr.length : Int)) ∧ Aside0 (badS = false → lr = lb) ∧ Aside0 (RrV wx w.heap.size vr a badS) ∧ Aside0 (Below w.heap.size w wx) ∧ Aside0 (Rd w .u8 vr lr) ∧ Aside0 (isB lr) ∧ Aside0 (∀ (A : Addr) n c, vr = .slice (some A) n c → 0 < lr.length → A.block ≠ w.heap.size) ∧ Aside0 (lr.length ≤ 140737488355328))
    case first =>
      cases badS with
      | true =>
        have c01 := Aside0.mk (of_decide_eq_true HBADS.out)
        go_wp2_with fail
        go_meet
        exact ⟨0, .slice none 0 0, [], rfl, by omega, by omega, ⟨by simp⟩, ⟨fun h => by cases h⟩, ⟨by have := HR0.out; have h := c01.out; rwa [if_neg (by omega)] at this⟩, HB0, ⟨Rd.nil _ _⟩, ⟨fun x hx => by simp at hx⟩, ⟨fun A n c e => by simp at e⟩, ⟨by simp⟩⟩
      | false =>
        have c01 := Aside0.mk (of_decide_eq_false HBADS.out)
        go_wp2_with fail
        go_meet
        exact ⟨a0, .slice Av lb.length cv, lb, rfl, by have := c01.out; omega, by have := c01.out; omega, ⟨by have := c01.out; omega⟩, ⟨fun _ => rfl⟩, ⟨by have := HR0.out; have h := c01.out; rwa [if_pos (by omega)] at this⟩, HB0, HV, HIB, HFAR, ⟨by omega⟩⟩
    case rest =>
      obtain ⟨aS, vr, lr, rfl, has0, has1, HARS, HQS, HRS, HBS, HVR, HIR, HFR, HLR⟩ := hcut
      go_wp2_with fail
      go_loopg [1, 8, 9, 10, 11, 12, 13, 14, 15, 16, 17, 18, 19] n (fun kq v1 v8 v9 v10 v11 v12 v13 v14 v15 v16 v17 v18 v19 w' => ∃ (i : Nat) (a : Int) (bad : Bool), i + kq = n ∧ i ≤ 40 ∧ v9 = .int .i64 i ∧ v1 = .int .i64 a ∧ v8 = .bool bad ∧ 0 ≤ a ∧ a ≤ (lb.length : Int) ∧ Aside0 (a ≤ (lr.length : Int)) ∧ Aside0 (bad = false → lr = lb) ∧ Aside0 (RrV w' w.heap.size vr a bad) ∧ Aside0 (Below w.heap.size w w'))
      case atStart => exact ⟨0, aS, badS, by omega, by omega, rfl, rfl, rfl, by omega, by omega, HARS, HQS, HRS, HBS⟩
      case round =>
        clear HARS HQS HRS HBS HB0 HR0 has0 has1 HBADS
        obtain ⟨i, a, bad, hin, hi40, rfl, rfl, rfl, ha0, ha1, HAR, HQ, HR, HB⟩ := hrel
        by_cases c1 : i < n
        · by_cases c2 : i < 40
          · obtain ⟨ad, e, hacts⟩ := HA.out (by omega)
            cases e
            obtain ⟨x, hx⟩ : ∃ x, acts[i]? = some x := ⟨_, List.getElem?_eq_getElem (by rw [HN.out]; exact c1)⟩
            obtain ⟨vL, vB, hact⟩ := hacts i x hx
            obtain ⟨k0, n0, d0, l0, b0⟩ := x
            obtain ⟨AL, cL, eL, _, hmL, _⟩ := hact.rl.mid
            obtain ⟨AB, cB, eB, _, hmB, _⟩ := hact.rb.mid
            subst eL eB
            simp only at hmL hmB
            obtain ⟨hn0, hn1⟩ : 0 ≤ n0 ∧ n0 ≤ 18446744073709551615 := hact.nb
            have HACT := Aside0.mk hact
            clear hx hacts hact
            have hp1 : 0 ≤ n0 % 100 := Int.emod_nonneg _ (by omega)
            have hp2 : n0 % 100 < 100 := Int.emod_lt_of_pos _ (by omega)
            have q0a := (HC.out HB.out HACT.out).c0
            have q1a := (HC.out HB.out HACT.out).c1
            have q2a := (HC.out HB.out HACT.out).c2
            have q3a := (HC.out HB.out HACT.out).c3
            have q4a := (HC.out HB.out HACT.out).c4
            simp only at q0a q1a q2a q3a q4a
            have HE := num_eq HQ.out a d0
            have HEN := Aside0.mk HE.1
            have HEO := Aside0.mk HE.2
            clear HE
            obtain ⟨ok, hok⟩ : ∃ ok, rOk bad lb.length a d0 = ok := ⟨_, rfl⟩
            obtain ⟨x, hx⟩ : ∃ x, (bif ok then getN lb a d0 else 0) = x := ⟨_, rfl⟩
            have HOK := Aside0.mk hok
            have HX := Aside0.mk hx
            clear hok hx
            go_wp2_with fail
            refine (Reader_Num_calls d0 _ w.heap.size vr lr a bad HR.out (HVR.out.below HB.out) HIR.out).mono ?_
            rintro e w2 ⟨rfl, hr2, hk2⟩
            rw [HEN.out]
            rw [HEO.out] at hr2
            rw [HOK.out] at hr2 ⊢
            rw [HX.out]
            have HB2 := Aside0.mk (Kp.from HB.out hk2 (fun k hk => by omega))
            have HR2 := Aside0.mk hr2
            have HB2' := Aside0.mk (below_alloc (below_alloc HB2.out (.cells #[] 22)) (.cells #[] 5))
            clear hr2 hk2
            have q0b := (HC.out HB2'.out HACT.out).c0
            have q1b := (HC.out HB2'.out HACT.out).c1
            have q2b := (HC.out HB2'.out HACT.out).c2
            have q3b := (HC.out HB2'.out HACT.out).c3
            have q4b := (HC.out HB2'.out HACT.out).c4
            simp only at q0b q1b q2b q3b q4b
            obtain ⟨gx, hgx⟩ : ∃ gx, getN lb a d0 = gx := ⟨_, rfl⟩
            obtain ⟨gf, hgf⟩ : ∃ gf, fitsB lb.length a d0 = gf := ⟨_, rfl⟩
            have HGX := Aside0.mk hgx
            have HGF := Aside0.mk hgf
            clear hgx hgf
            go_wp2_with fail
            refine (ref_Get_calls _ lb a d0 _ (HV.out.below HB2'.out) HIB.out).mono ?_
            rintro e w3 ⟨rfl, hb⟩
            rw [HGX.out, HGF.out]
            have HB3 := Aside0.mk (below_step HB2'.out hb)
            have HR3 := Aside0.mk (HR2.out.below (below_step (below_alloc (below_alloc (Below.refl _ _) (.cells #[] 22)) (.cells #[] 5)) hb))
            clear hb
            go_upto_region 12 with fail
            go_cut [72] (fun v72 wx => v72 = .bool (!ok) ∧ wx = w3)
            case first =>
              have hor := Aside0.mk (show ok = (!bad && gf) by rw [← HOK.out, rOk, HGF.out])
              cases bad with
              | true =>
                obtain rfl : ok = false := hor.out
                go_wp2_with fail
                go_meet
                exact ⟨rfl, rfl⟩
              | false =>
                obtain rfl : ok = gf := by rw [hor.out]; rfl
                clear hor
                go_wp2_with fail
                go_meet
                exact ⟨rfl, rfl⟩
            case rest =>
            obtain ⟨rfl, rfl⟩ := hcut
            go_upto_if 72 with fail
            go_cut [1, 8, 13] (fun v1 v8 v13 wx => ∃ (a1 : Int) (bad1 : Bool), v1 = .int .i64 a1 ∧ v8 = .bool bad1 ∧ v13 = .int .u64 x ∧ 0 ≤ a1 ∧ a1 ≤ (lb.length : Int) ∧ Aside0 (a1 ≤ (lr.length : Int)) ∧ Aside0 (bad1 = false → lr = lb) ∧ Aside0 (RrV wx w.heap.size vr a1 bad1) ∧ Aside0 (Below w.heap.size w wx))
            case first =>
              have q0c := (HC.out HB3.out HACT.out).c0
              have q1c := (HC.out HB3.out HACT.out).c1
              have q2c := (HC.out HB3.out HACT.out).c2
              have q3c := (HC.out HB3.out HACT.out).c3
              have q4c := (HC.out HB3.out HACT.out).c4
              simp only at q0c q1c q2c q3c q4c
              cases ok with
              | true =>
                obtain ⟨hbf, hfit⟩ : bad = false ∧ fitsB lb.length a d0 = true := rOk_true HOK.out
                obtain ⟨hd, _, hd1, hd2⟩ := fits_yes hfit
                obtain ⟨hd3, hd4⟩ : 1 ≤ d0 ∧ d0 ≤ 8 := by omega
                have HBF := Aside0.mk hbf
                have hsum : wrap64 (a + d0) = a + d0 := by unfold wrap64; omega
                have HAR1 := Aside0.mk (show a + d0 ≤ (lr.length : Int) by rw [HQ.out hbf]; omega)
                have HX2 := Aside0.mk (show gx = x by rw [← HX.out, ← HGX.out]; rfl)
                clear hfit hd hbf
                rw [HX2.out, HBF.out]
                go_wp2_with fail
                go_meet
                exact ⟨a + d0, false, rfl, rfl, rfl, by omega, by omega, HAR1, ⟨fun _ => HQ.out HBF.out⟩, HR3, HB3⟩
              | false =>
                have HX2 := Aside0.mk (show x = 0 by rw [← HX.out]; rfl)
                go_wp2_with fail
                go_meet
                exact ⟨a, true, rfl, rfl, by rw [HX2.out], by omega, by omega, HAR, ⟨fun h => by cases h⟩, HR3, HB3⟩
            case rest =>
              clear ha0 ha1 HAR HQ HR HB HR3 HB3 HB2 HR2 HB2'
              obtain ⟨a1, bad1, rfl, rfl, rfl, ha0, ha1, HAR1, HQ1, HR3, HB3⟩ := hcut
              have hxx : (x != x) = false := by simp
              have q0c := (HC.out HB3.out HACT.out).c0
              have q1c := (HC.out HB3.out HACT.out).c1
              have q2c := (HC.out HB3.out HACT.out).c2
              have q3c := (HC.out HB3.out HACT.out).c3
              have q4c := (HC.out HB3.out HACT.out).c4
              simp only at q0c q1c q2c q3c q4c
              by_cases k1e : k0 = 1
              · subst k1e
                have hsub : wrap64 ((lb.length : Int) - a1) = (lb.length : Int) - a1 := by unfold wrap64; omega
                have hquo : ((lb.length : Int) - a1).tdiv 8 = ((lb.length : Int) - a1) / 8 := Int.tdiv_eq_ediv_of_nonneg (by omega)
                cases hok2 : wOk bad1 lb.length a1 (l0.length : Int) with
                | true =>
                  have HOK2 := Aside0.mk hok2
                  obtain ⟨rfl, hw0, hw1⟩ : bad1 = false ∧ 0 ≤ (l0.length : Int) ∧ (l0.length : Int) ≤ (lb.length - a1) / 8 := by simpa [wOk] using hok2
                  have HQL := Aside0.mk (show lr = lb from HQ1.out (by simp))
                  have dgt : decide (((lb.length : Int) - a1) / 8 < (l0.length : Int)) = false := decide_eq_false (by omega)
                  clear hok2
                  as_aux_lemma =>
                    have HW := wrd_eq HQ1.out (a1) (l0.length : Int) (l0.length : Int).toNat
                    have HWL := Aside0.mk HW.1
                    have HWO := Aside0.mk HW.2
                    clear HW
                    go_wp2_with fail
                    refine (Reader_Words_calls (l0.length : Int) _ w.heap.size vr lr (a1) false HR3.out (HVR.out.below HB3.out) HIR.out HFR.out (by omega) HAR1.out HLR.out).mono ?_
                    rintro e w4 ⟨u, rfl, hO, hr4, hk4⟩
                    rw [HWL.out] at hO
                    rw [HWO.out] at hr4
                    rw [HOK2.out] at hO hr4
                    simp only [cond_true, cond_false, Bool.not_true, Bool.not_false, Int.toNat_natCast] at hO hr4
                    have HB4 := Aside0.mk (Kp.from HB3.out hk4 (fun k hk => by omega))
                    have HR4 := Aside0.mk hr4
                    have HU := Aside0.mk (Own.rd hO)
                    clear hO hr4 hk4
                    have q0d := (HC.out HB4.out HACT.out).c0
                    have q1d := (HC.out HB4.out HACT.out).c1
                    have q2d := (HC.out HB4.out HACT.out).c2
                    have q3d := (HC.out HB4.out HACT.out).c3
                    have q4d := (HC.out HB4.out HACT.out).c4
                    simp only at q0d q1d q2d q3d q4d
                    go_wp2_with fail
                    obtain ⟨wo, rfl⟩ : ∃ wo : World, wo = w4 := ⟨_, rfl⟩
                    go_loopw [1, 15, 16, 17, 18] (fun v1 v15 v16 v17 v18 w' => ∃ k : Nat, k ≤ l0.length ∧ v16 = .int .i64 k ∧ v1 = .int .i64 ((a1) + 8 * (k : Int)) ∧ Aside0 (Own (Value.int .u64) w' wo.heap.size 22 v15 (wordsAt lb (a1) k)) ∧ Aside0 (Below wo.heap.size wo w')) (fun _ _ v16 _ _ _ => l0.length - (intOf v16).toNat)
                    case atStart => exact ⟨0, by omega, rfl, by simp, ⟨by simpa [wordsAt] using Own.nil _ _ _ _⟩, ⟨Below.refl _ _⟩⟩
                    case round =>
                      obtain ⟨k, hk, rfl, rfl, HO, HBo⟩ := hrel
                      have HB5 := Aside0.mk (below_step HB4.out HBo.out)
                      clear q0d q1d q2d q3d q4d
                      have q0e := (HC.out HB5.out HACT.out).c0
                      have q1e := (HC.out HB5.out HACT.out).c1
                      have q2e := (HC.out HB5.out HACT.out).c2
                      have q3e := (HC.out HB5.out HACT.out).c3
                      have q4e := (HC.out HB5.out HACT.out).c4
                      simp only at q0e q1e q2e q3e q4e
                      by_cases ck : k < l0.length
                      · have HF := Aside0.mk (show fitsB lb.length ((a1) + 8 * (k : Int)) 8 = true from fits_ok ⟨by omega, by omega, by omega, by omega⟩)
                        go_wp2_with fail
                        refine (ref_Get_calls _ lb ((a1) + 8 * (k : Int)) 8 _ (HV.out.below HB5.out) HIB.out).mono ?_
                        rintro e w5 ⟨rfl, hb⟩
                        rw [HF.out]
                        obtain ⟨x, hx⟩ : ∃ x, getN lb ((a1) + 8 * (k : Int)) 8 = x := ⟨_, rfl⟩
                        have hx0 := getN_bound lb HIB.out ((a1) + 8 * (k : Int)) 8
                        rw [hx] at hx0 ⊢
                        have HO5 := Aside0.mk (HO.out.below hb)
                        have HBo5 := Aside0.mk (below_step HBo.out hb)
                        have HSN := Aside0.mk (show wordsAt lb (a1) (k + 1) = wordsAt lb (a1) k ++ [x] by rw [wordsAt_snoc, hx])
                        clear hb hx
                        have hb7 := below_alloc HBo5.out (.cells #[.int .u64 x] 22)
                        obtain ⟨A7, c7, w7, hrun7, hO7, hg7, hat7⟩ := app64 (HO5.out.below (below_alloc (Below.refl _ _) (.cells #[.int .u64 x] 22))) (Rd.lit w5 .u64 22 [x] (by simp)) hb7.size (by rw [wordsAt_len]; simp; omega)
                        have HB7 := Aside0.mk (Kp.from hb7 (Kp.of_grown hg7) (fun k hk => HO5.out.ge hk))
                        have HO7 := Aside0.mk hO7
                        have HR7 := Aside0.mk hrun7
                        obtain ⟨n7, hn7⟩ : ∃ n7, (wordsAt lb (a1) k ++ [x]).length = n7 := ⟨_, rfl⟩
                        rw [hn7] at HR7 HO7
                        rw [← HSN.out] at HO7
                        clear hb7 hrun7 hO7 hg7 hat7 hn7
                        go_wp2_with (first | ((with_reducible refine gate_builtin (b := .append) (xs := #[.tmp 132, .tmp 134]) rfl ?_); at_builtin; refine app_list rfl (.tmp 132) (.tmp 134) rfl rfl rfl HR7.out ?_))
                        go_roundw
                        case rel => exact ⟨k + 1, by omega, by go_num, by go_num, HO7, HB7⟩
                        case measure => simp [intOf]; omega
                      · obtain rfl : k = l0.length := by omega
                        obtain ⟨A8, c8, e8⟩ := own_slice HO.out
                        subst e8
                        go_wp2_with fail
                        refine (ref_Words_calls u _ (wordsAt lb (a1) l0.length) (wordsAt lb (a1) l0.length) _ (HU.out.below HBo.out) (Own.rd HO.out)).mono ?_
                        rintro e w6 ⟨rfl, hb⟩
                        have HBo6 := Aside0.mk (below_step HBo.out hb)
                        clear hb
                        rw [show decide (wordsAt lb (a1) l0.length = wordsAt lb (a1) l0.length) = true from decide_eq_true rfl]
                        have HB6 := Aside0.mk (below_step HB4.out HBo6.out)
                        have HR6 := Aside0.mk (HR4.out.below HBo6.out)
                        clear q0e q1e q2e q3e q4e
                        have q0f := (HC.out HB6.out HACT.out).c0
                        have q1f := (HC.out HB6.out HACT.out).c1
                        have q2f := (HC.out HB6.out HACT.out).c2
                        have q3f := (HC.out HB6.out HACT.out).c3
                        have q4f := (HC.out HB6.out HACT.out).c4
                        simp only at q0f q1f q2f q3f q4f
                        go_wp2_with fail
                        go_roundg (n - (i + 1))
                        case measure => omega
                        case rel => exact ⟨i + 1, (a1) + 8 * (l0.length : Int), false, by omega, by omega, by go_num, by first | rfl | go_num, rfl, by omega, by omega, ⟨by have := HQL.out; rw [this]; omega⟩, ⟨fun _ => HQL.out⟩, HR6, HB6⟩
                | false =>
                  have HOK2 := Aside0.mk hok2
                  have dgt : bad1 = true ∨ bad1 = false ∧ decide (((lb.length : Int) - a1) / 8 < (l0.length : Int)) = true := by cases bad1 <;> simp [wOk] at hok2 <;> simp <;> omega
                  clear hok2
                  rcases dgt with rfl | ⟨rfl, dgt⟩
                  · as_aux_lemma =>
                      have HW := wrd_eq HQ1.out (a1) (l0.length : Int) (l0.length : Int).toNat
                      have HWL := Aside0.mk HW.1
                      have HWO := Aside0.mk HW.2
                      clear HW
                      go_wp2_with fail
                      refine (Reader_Words_calls (l0.length : Int) _ w.heap.size vr lr (a1) true HR3.out (HVR.out.below HB3.out) HIR.out HFR.out (by omega) HAR1.out HLR.out).mono ?_
                      rintro e w4 ⟨u, rfl, hO, hr4, hk4⟩
                      rw [HWL.out] at hO
                      rw [HWO.out] at hr4
                      rw [HOK2.out] at hO hr4
                      simp only [cond_true, cond_false, Bool.not_true, Bool.not_false, Int.toNat_natCast] at hO hr4
                      have HB4 := Aside0.mk (Kp.from HB3.out hk4 (fun k hk => by omega))
                      have HR4 := Aside0.mk hr4
                      have HU := Aside0.mk (Own.rd hO)
                      clear hO hr4 hk4
                      have q0d := (HC.out HB4.out HACT.out).c0
                      have q1d := (HC.out HB4.out HACT.out).c1
                      have q2d := (HC.out HB4.out HACT.out).c2
                      have q3d := (HC.out HB4.out HACT.out).c3
                      have q4d := (HC.out HB4.out HACT.out).c4
                      simp only at q0d q1d q2d q3d q4d
                      go_wp2_with fail
                      obtain ⟨wo, rfl⟩ : ∃ wo : World, wo = w4 := ⟨_, rfl⟩
                      go_loopw [1, 15, 16, 17, 18] (fun v1 v15 v16 v17 v18 w' => ∃ k : Nat, k ≤ 0 ∧ v16 = .int .i64 k ∧ v1 = .int .i64 ((a1) + 8 * (k : Int)) ∧ Aside0 (Own (Value.int .u64) w' wo.heap.size 22 v15 (wordsAt lb (a1) k)) ∧ Aside0 (Below wo.heap.size wo w')) (fun _ _ v16 _ _ _ => l0.length - (intOf v16).toNat)
                      case atStart => exact ⟨0, by omega, rfl, by simp, ⟨by simpa [wordsAt] using Own.nil _ _ _ _⟩, ⟨Below.refl _ _⟩⟩
                      case round =>
                        obtain ⟨k, hk, rfl, rfl, HO, HBo⟩ := hrel
                        have HB5 := Aside0.mk (below_step HB4.out HBo.out)
                        clear q0d q1d q2d q3d q4d
                        have q0e := (HC.out HB5.out HACT.out).c0
                        have q1e := (HC.out HB5.out HACT.out).c1
                        have q2e := (HC.out HB5.out HACT.out).c2
                        have q3e := (HC.out HB5.out HACT.out).c3
                        have q4e := (HC.out HB5.out HACT.out).c4
                        simp only at q0e q1e q2e q3e q4e
                        obtain rfl : k = 0 := by omega
                        rw [show wordsAt lb (a1) 0 = [] from rfl] at HO
                        obtain ⟨A8, c8, e8⟩ := own_slice HO.out
                        subst e8
                        rw [show (a1) + 8 * ((0 : Nat) : Int) = a1 by omega]
                        by_cases ck : 0 < l0.length
                        all_goals
                          go_wp2_with fail
                          refine (ref_Words_calls u _ [] [] _ (HU.out.below HBo.out) (Own.rd HO.out)).mono ?_
                          rintro e w6 ⟨rfl, hb⟩
                          have HBo6 := Aside0.mk (below_step HBo.out hb)
                          clear hb
                          rw [show decide (([] : List Int) = []) = true from decide_eq_true rfl]
                          have HB6 := Aside0.mk (below_step HB4.out HBo6.out)
                          have HR6 := Aside0.mk (HR4.out.below HBo6.out)
                          clear q0e q1e q2e q3e q4e
                          have q0f := (HC.out HB6.out HACT.out).c0
                          have q1f := (HC.out HB6.out HACT.out).c1
                          have q2f := (HC.out HB6.out HACT.out).c2
                          have q3f := (HC.out HB6.out HACT.out).c3
                          have q4f := (HC.out HB6.out HACT.out).c4
                          simp only at q0f q1f q2f q3f q4f
                          go_wp2_with fail
                          go_roundg (n - (i + 1))
                          case measure => omega
                          case rel => exact ⟨i + 1, a1, true, by omega, by omega, by go_num, by first | rfl | go_num, rfl, by omega, by omega, ⟨HAR1.out⟩, ⟨fun h => by cases h⟩, HR6, HB6⟩
                  · as_aux_lemma =>
                      have HW := wrd_eq HQ1.out (a1) (l0.length : Int) (l0.length : Int).toNat
                      have HWL := Aside0.mk HW.1
                      have HWO := Aside0.mk HW.2
                      clear HW
                      go_wp2_with fail
                      refine (Reader_Words_calls (l0.length : Int) _ w.heap.size vr lr (a1) false HR3.out (HVR.out.below HB3.out) HIR.out HFR.out (by omega) HAR1.out HLR.out).mono ?_
                      rintro e w4 ⟨u, rfl, hO, hr4, hk4⟩
                      rw [HWL.out] at hO
                      rw [HWO.out] at hr4
                      rw [HOK2.out] at hO hr4
                      simp only [cond_true, cond_false, Bool.not_true, Bool.not_false, Int.toNat_natCast] at hO hr4
                      have HB4 := Aside0.mk (Kp.from HB3.out hk4 (fun k hk => by omega))
                      have HR4 := Aside0.mk hr4
                      have HU := Aside0.mk (Own.rd hO)
                      clear hO hr4 hk4
                      have q0d := (HC.out HB4.out HACT.out).c0
                      have q1d := (HC.out HB4.out HACT.out).c1
                      have q2d := (HC.out HB4.out HACT.out).c2
                      have q3d := (HC.out HB4.out HACT.out).c3
                      have q4d := (HC.out HB4.out HACT.out).c4
                      simp only at q0d q1d q2d q3d q4d
                      go_wp2_with fail
                      obtain ⟨wo, rfl⟩ : ∃ wo : World, wo = w4 := ⟨_, rfl⟩
                      go_loopw [1, 15, 16, 17, 18] (fun v1 v15 v16 v17 v18 w' => ∃ k : Nat, k ≤ 0 ∧ v16 = .int .i64 k ∧ v1 = .int .i64 ((a1) + 8 * (k : Int)) ∧ Aside0 (Own (Value.int .u64) w' wo.heap.size 22 v15 (wordsAt lb (a1) k)) ∧ Aside0 (Below wo.heap.size wo w')) (fun _ _ v16 _ _ _ => l0.length - (intOf v16).toNat)
                      case atStart => exact ⟨0, by omega, rfl, by simp, ⟨by simpa [wordsAt] using Own.nil _ _ _ _⟩, ⟨Below.refl _ _⟩⟩
                      case round =>
                        obtain ⟨k, hk, rfl, rfl, HO, HBo⟩ := hrel
                        have HB5 := Aside0.mk (below_step HB4.out HBo.out)
                        clear q0d q1d q2d q3d q4d
                        have q0e := (HC.out HB5.out HACT.out).c0
                        have q1e := (HC.out HB5.out HACT.out).c1
                        have q2e := (HC.out HB5.out HACT.out).c2
                        have q3e := (HC.out HB5.out HACT.out).c3
                        have q4e := (HC.out HB5.out HACT.out).c4
                        simp only at q0e q1e q2e q3e q4e
                        obtain rfl : k = 0 := by omega
                        rw [show wordsAt lb (a1) 0 = [] from rfl] at HO
                        obtain ⟨A8, c8, e8⟩ := own_slice HO.out
                        subst e8
                        rw [show (a1) + 8 * ((0 : Nat) : Int) = a1 by omega]
                        by_cases ck : 0 < l0.length
                        all_goals
                          go_wp2_with fail
                          refine (ref_Words_calls u _ [] [] _ (HU.out.below HBo.out) (Own.rd HO.out)).mono ?_
                          rintro e w6 ⟨rfl, hb⟩
                          have HBo6 := Aside0.mk (below_step HBo.out hb)
                          clear hb
                          rw [show decide (([] : List Int) = []) = true from decide_eq_true rfl]
                          have HB6 := Aside0.mk (below_step HB4.out HBo6.out)
                          have HR6 := Aside0.mk (HR4.out.below HBo6.out)
                          clear q0e q1e q2e q3e q4e
                          have q0f := (HC.out HB6.out HACT.out).c0
                          have q1f := (HC.out HB6.out HACT.out).c1
                          have q2f := (HC.out HB6.out HACT.out).c2
                          have q3f := (HC.out HB6.out HACT.out).c3
                          have q4f := (HC.out HB6.out HACT.out).c4
                          simp only at q0f q1f q2f q3f q4f
                          go_wp2_with fail
                          go_roundg (n - (i + 1))
                          case measure => omega
                          case rel => exact ⟨i + 1, a1, true, by omega, by omega, by go_num, by first | rfl | go_num, rfl, by omega, by omega, ⟨HAR1.out⟩, ⟨fun h => by cases h⟩, HR6, HB6⟩
              have k1b : (k0 == 1) = false := by simpa using k1e
              by_cases k2e : k0 = 2
              · subst k2e
                cases hok2 : kOk bad1 lb.length a1 (n0 % 100) with
                | true =>
                  have HOK2 := Aside0.mk hok2
                  obtain ⟨rfl, hw0, hw1⟩ : bad1 = false ∧ 0 ≤ n0 % 100 ∧ n0 % 100 ≤ (lb.length : Int) - a1 := by simpa [kOk] using hok2
                  have HQL := Aside0.mk (show lr = lb from HQ1.out (by simp))
                  clear hok2
                  as_aux_lemma =>
                    have HW := raw_eq HQ1.out (a1) (n0 % 100)
                    have HWL := Aside0.mk HW.1
                    have HWO := Aside0.mk HW.2
                    clear HW
                    go_wp2_with fail
                    refine (Reader_Raw_calls (n0 % 100) _ w.heap.size vr lr (a1) false HR3.out (HVR.out.below HB3.out) HIR.out (by omega) HAR1.out HLR.out).mono ?_
                    rintro e w4 ⟨u, rfl, hO, hr4, hk4⟩
                    rw [HWL.out] at hO
                    rw [HWO.out] at hr4
                    rw [HOK2.out] at hO hr4
                    simp only [cond_true, cond_false, Bool.not_true, Bool.not_false] at hO hr4
                    have HB4 := Aside0.mk (Kp.from HB3.out hk4 (fun k hk => by omega))
                    have HR4 := Aside0.mk hr4
                    obtain ⟨Au, cu, eu⟩ := own_slice hO
                    subst eu
                    have HU := Aside0.mk (Own.rd hO)
                    clear hO hr4 hk4
                    have q0d := (HC.out HB4.out HACT.out).c0
                    have q1d := (HC.out HB4.out HACT.out).c1
                    have q2d := (HC.out HB4.out HACT.out).c2
                    have q3d := (HC.out HB4.out HACT.out).c3
                    have q4d := (HC.out HB4.out HACT.out).c4
                    simp only at q0d q1d q2d q3d q4d
                    have hRL := rawAt_len lb (a1) (n0 % 100) (by omega) (by omega) (by omega)
                    obtain ⟨ru, hru⟩ : ∃ ru, rawAt lb (a1) (n0 % 100) = ru := ⟨_, rfl⟩
                    rw [hru] at hRL HU ⊢
                    have HRU := Aside0.mk hru
                    clear hru
                    obtain ⟨i5, hi5, hz5⟩ := infoU8'
                    obtain ⟨v', hcut, hrd⟩ := Rd.cut 27 5 Try.underlying27 hi5 hz5 HV.out (a1) (a1 + n0 % 100) (by omega) (by omega) (by omega)
                    have HRD := Aside0.mk hrd
                    clear hrd hi5 hz5
                    have hsum : wrap64 (a1 + n0 % 100) = a1 + n0 % 100 := by unfold wrap64; omega
                    go_wp2_with fail
                    refine (Same_calls _ v' ru (rawAt lb (a1) (n0 % 100)) _ HU.out (HRD.out _ (HV.out.below HB4.out)) (by rw [← HRU.out]; exact rawAt_isB HIB.out _ _) (rawAt_isB HIB.out _ _)).mono ?_
                    rintro e w6 ⟨rfl, hb⟩
                    have HB6 := Aside0.mk (below_step HB4.out hb)
                    have HR6 := Aside0.mk (HR4.out.below hb)
                    clear hb
                    rw [show decide (ru = rawAt lb (a1) (n0 % 100)) = true from decide_eq_true HRU.out.symm]
                    go_wp2_with fail
                    go_roundg (n - (i + 1))
                    case measure => omega
                    case rel => exact ⟨i + 1, (a1) + n0 % 100, false, by omega, by omega, by go_num, by first | rfl | go_num, rfl, by omega, by omega, ⟨by have := HQL.out; rw [this]; omega⟩, ⟨fun _ => HQL.out⟩, HR6, HB6⟩
                | false =>
                  have HOK2 := Aside0.mk hok2
                  have dgt : bad1 = true ∨ bad1 = false ∧ (lb.length : Int) - a1 < n0 % 100 := by cases bad1 <;> simp [kOk] at hok2 <;> simp <;> omega
                  clear hok2
                  rcases dgt with rfl | ⟨rfl, dgt⟩
                  · as_aux_lemma =>
                      have HW := raw_eq HQ1.out (a1) (n0 % 100)
                      have HWL := Aside0.mk HW.1
                      have HWO := Aside0.mk HW.2
                      clear HW
                      go_wp2_with fail
                      refine (Reader_Raw_calls (n0 % 100) _ w.heap.size vr lr (a1) true HR3.out (HVR.out.below HB3.out) HIR.out (by omega) HAR1.out HLR.out).mono ?_
                      rintro e w4 ⟨u, rfl, hO, hr4, hk4⟩
                      rw [HWL.out] at hO
                      rw [HWO.out] at hr4
                      rw [HOK2.out] at hO hr4
                      simp only [cond_true, cond_false, Bool.not_true, Bool.not_false] at hO hr4
                      have HB4 := Aside0.mk (Kp.from HB3.out hk4 (fun k hk => by omega))
                      have HR4 := Aside0.mk hr4
                      obtain ⟨Au, cu, eu⟩ := own_slice hO
                      subst eu
                      have HU := Aside0.mk (Own.rd hO)
                      clear hO hr4 hk4
                      have q0d := (HC.out HB4.out HACT.out).c0
                      have q1d := (HC.out HB4.out HACT.out).c1
                      have q2d := (HC.out HB4.out HACT.out).c2
                      have q3d := (HC.out HB4.out HACT.out).c3
                      have q4d := (HC.out HB4.out HACT.out).c4
                      simp only at q0d q1d q2d q3d q4d
                      go_wp2_with fail
                      go_roundg (n - (i + 1))
                      case measure => omega
                      case rel => exact ⟨i + 1, a1, true, by omega, by omega, by go_num, by first | rfl | go_num, rfl, by omega, by omega, ⟨HAR1.out⟩, ⟨fun h => by cases h⟩, HR4, HB4⟩
                  · as_aux_lemma =>
                      have HW := raw_eq HQ1.out (a1) (n0 % 100)
                      have HWL := Aside0.mk HW.1
                      have HWO := Aside0.mk HW.2
                      clear HW
                      go_wp2_with fail
                      refine (Reader_Raw_calls (n0 % 100) _ w.heap.size vr lr (a1) false HR3.out (HVR.out.below HB3.out) HIR.out (by omega) HAR1.out HLR.out).mono ?_
                      rintro e w4 ⟨u, rfl, hO, hr4, hk4⟩
                      rw [HWL.out] at hO
                      rw [HWO.out] at hr4
                      rw [HOK2.out] at hO hr4
                      simp only [cond_true, cond_false, Bool.not_true, Bool.not_false] at hO hr4
                      have HB4 := Aside0.mk (Kp.from HB3.out hk4 (fun k hk => by omega))
                      have HR4 := Aside0.mk hr4
                      obtain ⟨Au, cu, eu⟩ := own_slice hO
                      subst eu
                      have HU := Aside0.mk (Own.rd hO)
                      clear hO hr4 hk4
                      have q0d := (HC.out HB4.out HACT.out).c0
                      have q1d := (HC.out HB4.out HACT.out).c1
                      have q2d := (HC.out HB4.out HACT.out).c2
                      have q3d := (HC.out HB4.out HACT.out).c3
                      have q4d := (HC.out HB4.out HACT.out).c4
                      simp only at q0d q1d q2d q3d q4d
                      go_wp2_with fail
                      go_roundg (n - (i + 1))
                      case measure => omega
                      case rel => exact ⟨i + 1, a1, true, by omega, by omega, by go_num, by first | rfl | go_num, rfl, by omega, by omega, ⟨HAR1.out⟩, ⟨fun h => by cases h⟩, HR4, HB4⟩
              have k2b : (k0 == 2) = false := by simpa using k2e
              as_aux_lemma =>
                go_wp2_with fail
                go_roundg (n - (i + 1))
                case measure => omega
                case rel => exact ⟨i + 1, a1, bad1, by omega, by omega, by go_num, by first | rfl | go_num, rfl, by omega, by omega, ⟨HAR1.out⟩, HQ1, HR3, HB3⟩
          · as_aux_lemma =>
              go_wp2_with fail
              refine (Reader_At_calls _ w.heap.size vr a bad HR.out).mono ?_
              rintro e w1 ⟨rfl, hb⟩
              have HB1 := Aside0.mk (below_step HB.out hb)
              clear hb
              cases bad
              all_goals
                go_wp2_with fail
                refine (le_awake_calls _).mono ?_
                rintro e w2 ⟨rfl, hb⟩
                have HB2 := Aside0.mk (below_step HB1.out hb)
                clear hb
                go_wp2_with fail
                go_ret
                exact ⟨rfl, HB2.out⟩
        · as_aux_lemma =>
            go_wp2_with fail
            refine (Reader_At_calls _ w.heap.size vr a bad HR.out).mono ?_
            rintro e w1 ⟨rfl, hb⟩
            have HB1 := Aside0.mk (below_step HB.out hb)
            clear hb
            cases bad
            all_goals
              go_wp2_with fail
              refine (le_awake_calls _).mono ?_
              rintro e w2 ⟨rfl, hb⟩
              have HB2 := Aside0.mk (below_step HB1.out hb)
              clear hb
              go_wp2_with fail
              go_ret
              exact ⟨rfl, HB2.out⟩
end Go.Proofs.Ytmcgpaikmmecoaa
