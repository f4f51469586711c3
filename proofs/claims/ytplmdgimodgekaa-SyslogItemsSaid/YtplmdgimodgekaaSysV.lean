/- Syslog: the reference's Parse. -/
import Derived.Test.YtplmdgimodgekaaSysQ
namespace Go.Proofs.Ytplmdgimodgekaa
open Go.RowKit Go.Proofs.YtplmdgimodgekaaW.PrintWords Go.Proofs.YtplmdgimodgekaaW.PrintLast Go.Proofs.YtplmdgimodgekaaW.PrintMore
attribute [local go_sem] max2_int min2_int max_two min_two max_three min_three max_four min_four   -- for this text's walks alone
set_option linter.unusedVariables false
set_option linter.unusedSimpArgs false

theorem wiP_bd (l : List Int) (o c : Int) : 0 ≤ (wiP l o c).2 ∧ (wiP l o c).2 ≤ l.length ∧ (wiP l o c).1.length ≤ l.length := by
  rw [wiP]
  split
  · have := idxI_lt (l.drop 1) c
    rename_i h
    have h1 : 1 ≤ l.length := by
      have := congrArg List.length h.1
      rw [List.length_take] at this
      have e : ([o] : List Int).length = 1 := rfl
      omega
    rw [List.length_drop] at this
    simp only [List.length_take, List.length_drop]
    omega
  · simp
theorem wiP_isB {l : List Int} (h : isB l) (o c : Int) : isB (wiP l o c).1 := by
  rw [wiP]
  split
  · exact (h.drop 1).take _
  · intro x hx; cases hx
/-- The front, as a test of the reference's words. -/
theorem frL_ref (l : List Int) : frL l = if 0 < (wiP l 60 62).2 ∧ (numG (wiP l 60 62).1).isSome = true ∧ (numG (wiP l 60 62).1).getD 0 ≤ 191 then ((numG (wiP l 60 62).1).getD 0 % 8, (numG (wiP l 60 62).1).getD 0 / 8, l.drop (wiP l 60 62).2.toNat) else (6, 1, l) := by
  rw [frL, fr_ref]
  by_cases h1 : 0 < (wiP l 60 62).2
  · rw [if_pos h1]
    cases h : numG (wiP l 60 62).1 with
    | none => rw [if_neg (by simp)]
    | some n =>
      dsimp only
      by_cases h2 : n ≤ 191
      · rw [if_pos h2, if_pos ⟨h1, rfl, h2⟩]; rfl
      · rw [if_neg h2, if_neg (fun hh => h2 hh.2.2)]
  · rw [if_neg h1, if_neg (fun hh => h1 hh.1)]
theorem offI_drop {s : List Int} {k : Nat} {c : Int} : offI (s.drop k) c = if k < s.length ∧ s.getD k 0 = c then (s.drop (k + 1), true) else (s.drop k, false) := by
  rw [offI]
  by_cases h : k < s.length
  · have hd : s.drop k = s.getD k 0 :: s.drop (k + 1) := by
      rw [List.drop_eq_getElem_cons h, List.getD_eq_getElem?_getD, List.getElem?_eq_getElem h]; rfl
    rw [hd]
    by_cases h2 : s.getD k 0 = c
    · rw [if_pos (by rw [h2]; rfl), if_pos ⟨h, h2⟩]; rfl
    · rw [if_neg (by simpa using h2), if_neg (fun hh => h2 hh.2)]
  · rw [List.drop_of_length_le (by omega), if_neg (by simp), if_neg (fun hh => h hh.1)]
set_option maxHeartbeats 8000000 in
set_option maxRecDepth 100000 in
theorem rParse_calls (l : List Int) (w : World) (hl : isB l) (hm : l.length ≤ 100000) : Calls Try.prog 39 #[.string (strOfNums l)] w fun e w' => e = .returned (syV (syP l)) ∧ Below w.heap.size w w' := by
  obtain ⟨V, hV⟩ : ∃ V, syV (syP l) = V := ⟨_, rfl⟩
  rw [hV]
  have HVV := Aside0.mk hV
  clear hV
  obtain ⟨hb1, hb2⟩ := frL_isB hl
  have hfr := frL_ref l
  obtain ⟨wb1, wb2, wb3⟩ := wiP_bd l 60 62
  have hwx := wiP_isB hl 60 62
  have C1 := Aside0.mk (fun w => within_calls l 60 62 w hl (by omega) (by decide) (by decide))
  obtain ⟨X, hX⟩ : ∃ X, wiP l 60 62 = X := ⟨_, rfl⟩
  rw [hX] at hfr wb1 wb2 wb3 hwx C1
  obtain ⟨x, at0⟩ := X
  dsimp only at hfr wb1 wb2 wb3 hwx C1
  have C2 := Aside0.mk (fun w => ref_DNumber_calls x w hwx (by omega))
  rw [nuV] at C2
  have hnb : 0 ≤ (numG x).getD 0 ∧ (numG x).getD 0 ≤ 18446744073709551615 := by
    cases h : numG x with
    | none => exact ⟨by decide, by decide⟩
    | some v => exact (numG_dec h).2
  obtain ⟨n, hn⟩ : ∃ n, (numG x).getD 0 = n := ⟨_, rfl⟩
  obtain ⟨ok, hok⟩ : ∃ n, (numG x).isSome = n := ⟨_, rfl⟩
  rw [hn, hok] at C2 hfr
  rw [hn] at hnb
  obtain ⟨n0, n1⟩ := hnb
  have HF := Aside0.mk hfr
  clear hfr
  have he1 := strOf_extract l at0.toNat l.length
  rw [List.take_of_length_le (Nat.le_refl _)] at he1
  have HE := Aside0.mk he1
  clear he1
  obtain ⟨R, hR⟩ : ∃ R, frL l = R := ⟨_, rfl⟩
  rw [hR] at HF hb1 hb2
  have HRR := Aside0.mk hR
  clear hR
  obtain ⟨sv, fc, s⟩ := R
  dsimp only at HF hb1 hb2
  have hs0 := strOf_size l
  obtain ⟨L, hL⟩ : ∃ L, strOfNums l = L := ⟨_, rfl⟩
  rw [hL] at C1 HE hs0 ⊢
  have HL := Aside0.mk hL
  obtain ⟨N0, hN0⟩ : ∃ L, l.length = L := ⟨_, rfl⟩
  rw [hN0] at wb2 wb3 HE hs0 hb2 hm
  obtain ⟨XS, hXS⟩ : ∃ L, strOfNums x = L := ⟨_, rfl⟩
  rw [hXS] at C1 C2
  clear hL hl hX hN0 hXS hwx hn hok wb3
  go_enter Try.func39, Try.ntmps39
  go_wp2_with fail
  refine (C1.out _).mono ?_
  rintro _ wz ⟨rfl, rfl⟩
  go_wp2_with fail
  refine (C2.out _).mono ?_
  rintro _ wz ⟨rfl, hb⟩
  have HX := Aside0.mk (blk_below (show ((w.alloc (.cells #[.int .i64 0, .int .i64 0, .string ⟨#[]⟩, .string ⟨#[]⟩, .string ⟨#[]⟩] 51)).alloc (.cells #[.int .i64 6, .int .i64 1, .string ⟨#[]⟩, .string ⟨#[]⟩, .string ⟨#[]⟩] 51)).heap[w.heap.size + 1]? = some (.cells #[.int .i64 6, .int .i64 1, .string ⟨#[]⟩, .string ⟨#[]⟩, .string ⟨#[]⟩] 51 (0, 0)) by have := blk_new (w.alloc (.cells #[.int .i64 0, .int .i64 0, .string ⟨#[]⟩, .string ⟨#[]⟩, .string ⟨#[]⟩] 51)) (.cells #[.int .i64 6, .int .i64 1, .string ⟨#[]⟩, .string ⟨#[]⟩, .string ⟨#[]⟩] 51); simpa using this) hb)
  have HY := Aside0.mk (blk_below (show ((w.alloc (.cells #[.int .i64 0, .int .i64 0, .string ⟨#[]⟩, .string ⟨#[]⟩, .string ⟨#[]⟩] 51)).alloc (.cells #[.int .i64 6, .int .i64 1, .string ⟨#[]⟩, .string ⟨#[]⟩, .string ⟨#[]⟩] 51)).heap[w.heap.size]? = some (.cells #[.int .i64 0, .int .i64 0, .string ⟨#[]⟩, .string ⟨#[]⟩, .string ⟨#[]⟩] 51 (0, 0)) from blk_alloc (blk_new _ _) _) hb)
  have HB := Aside0.mk (below_step (below_alloc (below_alloc (Below.refl w.heap.size w) _) _) hb)
  clear hb
  have HB0 := Aside0.mk (show (0 < at0 ∧ ok = true ∧ n ≤ 191) ↔ (decide (0 < at0) && ok && decide (n ≤ 191)) = true by simp [and_assoc])
  obtain ⟨bb, hbb⟩ : ∃ bb, (decide (0 < at0) && ok && decide (n ≤ 191)) = bb := ⟨_, rfl⟩
  rw [hbb] at HB0
  have HBB := Aside0.mk hbb
  clear hbb
  go_upto_region 4 with fail
  go_cut [29] (fun v wx => v = .bool bb ∧ wz = wx)
  case first =>
    have hbb := HBB.out
    by_cases d1 : 0 < at0
    · rw [decide_eq_true d1] at hbb
      cases ok with
      | false =>
        obtain rfl : false = bb := by simpa using hbb
        clear hbb
        go_wp2_with fail
        go_meet
        exact ⟨rfl, rfl⟩
      | true =>
        obtain rfl : decide (n ≤ 191) = bb := by simpa using hbb
        clear hbb
        go_wp2_with fail
        go_meet
        exact ⟨rfl, rfl⟩
    · rw [decide_eq_false d1] at hbb
      obtain rfl : false = bb := by simpa using hbb
      clear hbb
      go_wp2_with fail
      go_meet
      exact ⟨rfl, rfl⟩
  case rest =>
  obtain ⟨rfl, rfl⟩ := hcut
  go_upto_if 29 with (fail)
  go_cut [0] (fun v wx => v = .string (strOfNums s) ∧ Aside0 (wx.heap[w.heap.size + 1]? = some (.cells #[.int .i64 sv, .int .i64 fc, .string ⟨#[]⟩, .string ⟨#[]⟩, .string ⟨#[]⟩] 51 (0, 0))) ∧ Aside0 (wx.heap[w.heap.size]? = some (.cells #[.int .i64 0, .int .i64 0, .string ⟨#[]⟩, .string ⟨#[]⟩, .string ⟨#[]⟩] 51 (0, 0))) ∧ Aside0 (Below w.heap.size w wx))
  case first =>
    cases bb with
    | true =>
      have c1 := HB0.out.2 rfl
      have hf := HF.out
      rw [if_pos c1, Prod.mk.injEq, Prod.mk.injEq] at hf
      obtain ⟨e1, e2, e3⟩ := hf
      obtain ⟨c1, rfl, c3⟩ := c1
      have e4 : n.tmod 8 = sv := by rw [Int.tmod_eq_emod_of_nonneg n0]; exact e1.symm
      have e5 : n.tdiv 8 = fc := by rw [Int.tdiv_eq_ediv_of_nonneg n0]; exact e2.symm
      have he := HE.out
      rw [← e3] at he
      obtain ⟨S, hS⟩ : ∃ S, strOfNums s = S := ⟨_, rfl⟩
      rw [hS] at he
      have HSx := Aside0.mk hS
      have k0 := blk_cell HX.out 0
      have k1 := blk_cell HX.out 1
      have j0 := blk_frozen HX.out 0
      have j1 := blk_frozen HX.out 1
      have w1 : IntKind.i64.wrap sv = sv := by rw [IntKind.wrap_i64]; omega
      have w2 : IntKind.i64.wrap fc = fc := by rw [IntKind.wrap_i64]; omega
      have w3 : IntKind.u64.wrap sv = sv := by rw [IntKind.wrap_u64]; omega
      have w4 : IntKind.u64.wrap fc = fc := by rw [IntKind.wrap_u64]; omega
      have w5 : wrap64 sv = sv := by simp only [wrap64]; omega
      have w6 : wrap64 fc = fc := by simp only [wrap64]; omega
      clear e1 e2 e3 hS
      go_wp2_with fail
      go_meet
      have X1 : (wz.setCell ⟨w.heap.size + 1, 0, none⟩ (.int .i64 sv)).heap[w.heap.size + 1]? = some (.cells #[.int .i64 sv, .int .i64 1, .string ⟨#[]⟩, .string ⟨#[]⟩, .string ⟨#[]⟩] 51 (0, 0)) := by simpa using blk_set HX.out 0 (.int .i64 sv)
      have X2 : ((wz.setCell ⟨w.heap.size + 1, 0, none⟩ (.int .i64 sv)).setCell ⟨w.heap.size + 1, 1, none⟩ (.int .i64 fc)).heap[w.heap.size + 1]? = some (.cells #[.int .i64 sv, .int .i64 fc, .string ⟨#[]⟩, .string ⟨#[]⟩, .string ⟨#[]⟩] 51 (0, 0)) := by simpa using blk_set X1 1 (.int .i64 fc)
      exact ⟨by rw [HSx.out], ⟨X2⟩, ⟨blk_far (blk_far HY.out (by simp) _) (by simp) _⟩, ⟨below_set (below_set HB.out _ (Nat.le_succ _) _) _ (Nat.le_succ _) _⟩⟩
    | false =>
      have c1 : ¬ (0 < at0 ∧ ok = true ∧ n ≤ 191) := fun h => by have := HB0.out.1 h; cases this
      have hf := HF.out
      rw [if_neg c1, Prod.mk.injEq, Prod.mk.injEq] at hf
      obtain ⟨rfl, rfl, rfl⟩ := hf
      clear c1
      go_wp2_with fail
      go_meet
      exact ⟨by rw [HL.out], HX, HY, HB⟩
  case rest =>
  obtain ⟨rfl, HX2, HY2, HB2⟩ := hcut
  clear HX HY HB C1 C2 n0 n1 HF HE hs0 HL wb1 wb2 HB0 HBB
  have HI := Aside0.mk (fun (k : Nat) (h : k < s.length) => str_at s hb1 k k rfl h)
  have HSB := Aside0.mk hb1
  have hs := strOf_size s
  obtain ⟨S, hS⟩ : ∃ S, strOfNums s = S := ⟨_, rfl⟩
  rw [hS] at hs HI ⊢
  have HSS := Aside0.mk hS
  have HG := Aside0.mk (tw_end namB s)
  have HA := Aside0.mk (tw_all namB s)
  have hGL := tw_le namB s
  obtain ⟨G, hG⟩ : ∃ G, tgN s = G := ⟨_, rfl⟩
  have HGN := Aside0.mk hG
  rw [tgN] at hG
  have HGG := Aside0.mk hG
  clear hS hG hb1
  go_upto_block 0 with (fail)
  go_cut [8] (fun v wx => v = .int .i64 G ∧ wc = wx)
  case first =>
    obtain ⟨N, hN⟩ : ∃ N, s.length = N := ⟨_, rfl⟩
    obtain ⟨T, hT⟩ : ∃ N, tw namB s = N := ⟨_, rfl⟩
    have HGT := HGG
    rw [hT] at HGT hGL HG HA
    rw [hN] at hs hGL HI HG
    clear hN hT
    have hg48 : G ≤ 48 := by have := HGT.out; omega
    have hgT : G ≤ T := by have := HGT.out; omega
    go_wp2_with fail
    go_loop [8] (fun v6 => ∃ k : Nat, k ≤ G ∧ v6 = .int .i64 k) (fun v6 => G - (intOf v6).toNat)
    case atStart => exact ⟨0, by omega, rfl⟩
    case round =>
      obtain ⟨k, hk, rfl⟩ := hrel
      by_cases c1 : k < G
      · have a1 : k < N := by omega
        have hix := HI.out k a1
        have hx := HA.out k (by omega)
        have hxb := HSB.out.getD k
        obtain ⟨x, ex⟩ : ∃ x, s.getD k 0 = x := ⟨_, rfl⟩
        rw [ex] at hix hx hxb
        have hk48 : k < 48 := by omega
        clear ex
        have CN := Aside0.mk (fun w => ref_naming_calls x w hxb.1 hxb.2)
        rw [hx] at CN
        clear hx
        go_wp2_with fail
        refine (CN.out _).mono ?_
        rintro _ wn ⟨rfl, rfl⟩
        go_wp2_with fail
        go_round
        case rel => exact ⟨k + 1, by omega, by go_num⟩
        case measure => simp [intOf] <;> omega
      · obtain rfl : k = G := by omega
        by_cases e1 : k < N
        · by_cases e2 : k < 48
          · have hTG : T = k := by have := HGT.out; omega
            have hx := HG.out (by omega)
            rw [hTG] at hx
            have hix := HI.out k e1
            have hxb := HSB.out.getD k
            obtain ⟨x, ex⟩ : ∃ x, s.getD k 0 = x := ⟨_, rfl⟩
            rw [ex] at hix hx hxb
            clear ex hTG
            have CN := Aside0.mk (fun w => ref_naming_calls x w hxb.1 hxb.2)
            rw [hx] at CN
            clear hx
            go_wp2_with fail
            refine (CN.out _).mono ?_
            rintro _ wn ⟨rfl, rfl⟩
            go_wp2_with fail
            go_meet
            exact ⟨rfl, rfl⟩
          · go_wp2_with fail
            go_meet
            exact ⟨rfl, rfl⟩
        · go_wp2_with fail
          go_meet
          exact ⟨rfl, rfl⟩
  case rest =>
  obtain ⟨rfl, rfl⟩ := hcut
  have hGle : G ≤ s.length := by have := HGG.out; omega
  have hx1 : S.extract G s.length = strOfNums (s.drop G) := by rw [← HSS.out, strOf_extract, List.take_of_length_le (Nat.le_refl _)]
  have hx0 : S.extract 0 G = strOfNums (s.take G) := by rw [← HSS.out, strOf_extract, List.drop_zero]
  have hpi := pi_ref (s.drop G)
  obtain ⟨wb1, wb2, wb3⟩ := wiP_bd (s.drop G) 91 93
  have hwx := wiP_isB (HSB.out.drop G) 91 93
  have C1 := Aside0.mk (fun w => within_calls (s.drop G) 91 93 w (HSB.out.drop G) (by rw [List.length_drop]; omega) (by decide) (by decide))
  obtain ⟨X, hX⟩ : ∃ X, wiP (s.drop G) 91 93 = X := ⟨_, rfl⟩
  rw [hX] at hpi wb1 wb2 wb3 hwx C1
  obtain ⟨x, at1⟩ := X
  rw [List.length_drop] at wb2 wb3
  dsimp only at hpi wb1 wb2 wb3 hwx C1
  have C2 := Aside0.mk (fun w => ref_DNumber_calls x w hwx (by omega))
  rw [nuV] at C2
  obtain ⟨n, hn⟩ : ∃ n, (numG x).getD 0 = n := ⟨_, rfl⟩
  obtain ⟨ok, hok⟩ : ∃ n, (numG x).isSome = n := ⟨_, rfl⟩
  rw [hn, hok] at C2
  rw [hok] at hpi
  obtain ⟨KK, pi, hKK, hKG, hpe, hv4, hv9⟩ : ∃ (KK : Nat) (pi : List Int), KK ≤ s.length ∧ G ≤ KK ∧ piP (s.drop G) = (pi, s.drop KK) ∧ (pi = if 0 < at1 ∧ ok = true then x else []) ∧ ((KK : Int) = if 0 < at1 ∧ ok = true then (G : Int) + at1 else G) := by
    by_cases h : 0 < at1 ∧ ok = true
    · refine ⟨G + at1.toNat, x, by omega, by omega, ?_, by rw [if_pos h], by rw [if_pos h]; omega⟩
      rw [hpi, if_pos h, List.drop_drop]
    · refine ⟨G, [], by omega, by omega, ?_, by rw [if_neg h], by rw [if_neg h]⟩
      rw [hpi, if_neg h]
  have HPE := Aside0.mk hpe
  have HV4 := Aside0.mk hv4
  have HV9 := Aside0.mk hv9
  obtain ⟨N, hN⟩ : ∃ N, s.length = N := ⟨_, rfl⟩
  obtain ⟨D, hD⟩ : ∃ N, strOfNums (s.drop G) = N := ⟨_, rfl⟩
  obtain ⟨XS, hXS⟩ : ∃ N, strOfNums x = N := ⟨_, rfl⟩
  rw [hN] at hs hx1 hGle HI hKK
  rw [hD] at hx1 C1
  rw [hXS] at C1 C2
  have HN := Aside0.mk hN
  have HXS := Aside0.mk hXS
  clear hN hD hXS HG HA hGL hpi hX hwx hn hok hpe hv4 hv9 wb3
  go_wp2_with fail
  refine (C1.out _).mono ?_
  rintro _ w1 ⟨rfl, rfl⟩
  go_wp2_with fail
  refine (C2.out _).mono ?_
  rintro _ w2 ⟨rfl, hb⟩
  have HX4 := Aside0.mk (blk_below HX2.out hb)
  have HY4 := Aside0.mk (blk_below HY2.out hb)
  have HB4 := Aside0.mk (below_step HB2.out hb)
  clear hb HX2 HY2 HB2 C1 C2
  obtain ⟨bb, hbb⟩ : ∃ bb, (decide (0 < at1) && ok) = bb := ⟨_, rfl⟩
  have HB0 := Aside0.mk (show (0 < at1 ∧ ok = true) ↔ bb = true by rw [← hbb]; simp)
  have HBB := Aside0.mk hbb
  clear hbb
  go_upto_region 13 with fail
  go_cut [74] (fun v wx => v = .bool bb ∧ w2 = wx)
  case first =>
    have hbb := HBB.out
    by_cases d1 : 0 < at1
    · rw [decide_eq_true d1] at hbb
      obtain rfl : ok = bb := by simpa using hbb
      clear hbb
      go_wp2_with fail
      go_meet
      exact ⟨rfl, rfl⟩
    · rw [decide_eq_false d1] at hbb
      obtain rfl : false = bb := by simpa using hbb
      clear hbb
      go_wp2_with fail
      go_meet
      exact ⟨rfl, rfl⟩
  case rest =>
  obtain ⟨rfl, rfl⟩ := hcut
  go_upto_if 74 with (fail)
  go_cut [4, 9] (fun v4 v9 wx => v4 = .string (strOfNums pi) ∧ v9 = .int .i64 KK ∧ w2 = wx)
  case first =>
    cases bb with
    | true =>
      have h := HB0.out.2 rfl
      have e4 := HV4.out
      have e9 := HV9.out
      rw [if_pos h] at e4 e9
      subst e4
      have hw : IntKind.i64.wrap ((G : Int) + at1) = (KK : Int) := by rw [IntKind.wrap_i64]; omega
      clear e9 h
      go_wp2_with fail
      go_meet
      exact ⟨by rw [HXS.out], rfl, rfl⟩
    | false =>
      have h : ¬ (0 < at1 ∧ ok = true) := fun h => by have := HB0.out.1 h; cases this
      have e4 := HV4.out
      have e9 := HV9.out
      rw [if_neg h] at e4 e9
      subst e4
      have e9 : KK = G := by omega
      subst e9
      clear h
      go_wp2_with fail
      go_meet
      exact ⟨by rw [strNil], rfl, rfl⟩
  case rest =>
  obtain ⟨rfl, rfl, rfl⟩ := hcut
  clear HV4 HV9 wb1 wb2
  have HO1 := Aside0.mk (@offI_drop s KK 58)
  rw [HN.out] at HO1
  have HQ := Aside0.mk (show V = syV (if G = 0 ∨ (offI (s.drop KK) 58).2 = false then (sv, fc, [], [], s) else (sv, fc, s.take G, pi, (offI (offI (s.drop KK) 58).1 32).1)) by
    rw [← HVV.out, syP, HRR.out]; dsimp only; rw [HGN.out, HPE.out])
  have r0 := blk_cell HX4.out 0
  have r1 := blk_cell HX4.out 1
  have r2 := blk_cell HX4.out 2
  have r3 := blk_cell HX4.out 3
  have r4 := blk_cell HX4.out 4
  have f0 := blk_frozen HX4.out 0
  have f1 := blk_frozen HX4.out 1
  have f2 := blk_frozen HX4.out 2
  have f3 := blk_frozen HX4.out 3
  have f4 := blk_frozen HX4.out 4

  have y0 := blk_cell HY4.out 0
  have y1 := blk_cell HY4.out 1
  have y2 := blk_cell HY4.out 2
  have y3 := blk_cell HY4.out 3
  have y4 := blk_cell HY4.out 4
  have j0 := blk_frozen HY4.out 0
  have j1 := blk_frozen HY4.out 1
  have j2 := blk_frozen HY4.out 2
  have j3 := blk_frozen HY4.out 3
  have j4 := blk_frozen HY4.out 4

  by_cases c1 : G = 0 ∨ ¬ (KK < N ∧ s.getD KK 0 = 58)
  · have HFIN := Aside0.mk (show V = .agg #[.int .i64 sv, .int .i64 fc, .string ⟨#[]⟩, .string ⟨#[]⟩, .string S] by
      rw [HQ.out, if_pos (c1.imp id (fun h => by rw [HO1.out, if_neg h])), syV]; dsimp only; rw [HSS.out, strNil])
    by_cases c2 : G = 0
    · subst c2
      clear c1
      go_wp2_with fail
      refine bodyPost_ret (v := .agg #[.int .i64 sv, .int .i64 fc, .string ⟨#[]⟩, .string ⟨#[]⟩, .string S]) (by simp [results, Try.results39, go_sem, y0, y1, y2, y3, y4]) rfl ⟨by rw [HFIN.out], ?_⟩
      exact below_set5 (below_set HB4.out _ (Nat.le_succ _) _) _ (Nat.le_refl _) _ _ _ _ _

    · by_cases c3 : KK < N
      · have hix := HI.out KK c3
        have hx : s.getD KK 0 ≠ 58 := fun e => (c1.resolve_left c2) ⟨c3, e⟩
        obtain ⟨y, ey⟩ : ∃ y, s.getD KK 0 = y := ⟨_, rfl⟩
        rw [ey] at hix hx
        have hy : (y != 58) = true := by simpa using hx
        have g3 : ((G : Int) == 0) = false := by rw [beq_eq_false_iff_ne]; omega
        clear c1 ey hx
        go_wp2_with fail
        refine bodyPost_ret (v := .agg #[.int .i64 sv, .int .i64 fc, .string ⟨#[]⟩, .string ⟨#[]⟩, .string S]) (by simp [results, Try.results39, go_sem, y0, y1, y2, y3, y4]) rfl ⟨by rw [HFIN.out], ?_⟩
        exact below_set5 (below_set HB4.out _ (Nat.le_succ _) _) _ (Nat.le_refl _) _ _ _ _ _

      · have g3 : ((G : Int) == 0) = false := by rw [beq_eq_false_iff_ne]; omega
        clear c1
        go_wp2_with fail
        refine bodyPost_ret (v := .agg #[.int .i64 sv, .int .i64 fc, .string ⟨#[]⟩, .string ⟨#[]⟩, .string S]) (by simp [results, Try.results39, go_sem, y0, y1, y2, y3, y4]) rfl ⟨by rw [HFIN.out], ?_⟩
        exact below_set5 (below_set HB4.out _ (Nat.le_succ _) _) _ (Nat.le_refl _) _ _ _ _ _

  · obtain ⟨h1, h2⟩ := not_or.1 c1
    obtain ⟨c3, hx⟩ := Classical.not_not.1 h2
    have hix := HI.out KK c3
    have hO := HO1.out
    rw [if_pos ⟨c3, hx⟩] at hO
    have hq := HQ.out
    rw [hO] at hq
    dsimp only at hq
    rw [if_neg (by simp [h1]), syV] at hq
    dsimp only at hq
    rw [@offI_drop s (KK + 1) 32, HN.out] at hq
    have HQ2 := Aside0.mk hq
    clear hq hO c1 h2
    have hx2 : S.extract (KK + 1) N = strOfNums (s.drop (KK + 1)) := by rw [← HSS.out, strOf_extract, ← HN.out, List.take_of_length_le (Nat.le_refl _)]
    have ht := strOf_size (s.drop (KK + 1))
    rw [List.length_drop, HN.out] at ht
    have HT := Aside0.mk (strOf_extract (s.drop (KK + 1)) 1 (N - (KK + 1)))
    have HI2 := Aside0.mk (fun (h : KK + 1 < N) => str_at (s.drop (KK + 1)) (HSB.out.drop _) 0 0 rfl (by rw [List.length_drop, HN.out]; omega))
    have hge : (s.drop (KK + 1)).getD 0 0 = s.getD (KK + 1) 0 := by rw [List.getD_eq_getElem?_getD, List.getElem?_drop, List.getD_eq_getElem?_getD]
    rw [hge] at HI2
    have hft : (s.drop (KK + 1)).take (N - (KK + 1)) = s.drop (KK + 1) := List.take_of_length_le (by rw [List.length_drop, HN.out]; exact Nat.le_refl _)
    rw [hft, List.drop_drop] at HT
    obtain ⟨T, hT⟩ : ∃ T, strOfNums (s.drop (KK + 1)) = T := ⟨_, rfl⟩
    obtain ⟨M, hM⟩ : ∃ T, strOfNums (s.take G) = T := ⟨_, rfl⟩
    have hk0 : (0 : Int) ≤ (KK : Int) + 1 := by omega
    have hk1 : (KK : Int) + 1 ≤ (N : Int) := by omega
    rw [hT] at hx2 ht HT HI2
    rw [hM] at hx0 HQ2
    have HTT := Aside0.mk hT
    obtain ⟨z, ez⟩ : ∃ z, s.getD (KK + 1) 0 = z := ⟨_, rfl⟩
    rw [ez] at HI2 HQ2
    rw [hx] at hix
    have g3 : ((G : Int) == 0) = false := by rw [beq_eq_false_iff_ne]; omega
    have hw : IntKind.i64.wrap ((KK : Int) + 1) = (KK : Int) + 1 := by have := HN.out; rw [IntKind.wrap_i64]; omega
    clear hT hM hge hft ez hx
    go_upto_region 19 with fail
    refine start_ (n := 14) (S := fun w' => w'.cell? ⟨w.heap.size + 1, 2, none⟩ = some (.string ⟨#[]⟩) ∧ w'.cell? ⟨w.heap.size + 1, 3, none⟩ = some (.string ⟨#[]⟩) ∧ w'.cell? ⟨w.heap.size + 1, 4, none⟩ = some (.string ⟨#[]⟩)) (ds := [9, 11, 13]) #[false, false, false, false, false, false, false, false, false, false, false, false, false, false] (by kernel_rfl) rfl rfl ⟨r2, r3, r4⟩ (fun hHeld => ?_)
    refine pure_ (i := 0) (N := some 95) (v := ?_) (a' := ?_) #[true, false, false, false, false, false, false, false, false, false, false, false, false, false] rfl rfl (by kernel_rfl) (fun _ _ _ h => h) (Or.inl ⟨by rfl, ?_⟩) ?_ ?_
    rotate_left
    · intro w'
      go_simp
      with_reducible rfl
    rotate_left
    · simp only [Act.put, List.setIfInBounds_toArray, List.set_cons_zero, List.set_cons_succ, i64_w, i32_w]
      rfl
    refine pure_ (i := 1) (N := some 96) (v := ?_) (a' := ?_) #[true, true, false, false, false, false, false, false, false, false, false, false, false, false] rfl rfl (by kernel_rfl) (fun _ _ _ h => h) (Or.inl ⟨by rfl, ?_⟩) ?_ ?_
    rotate_left
    · intro w'
      go_simp
      with_reducible rfl
    rotate_left
    · simp only [Act.put, List.setIfInBounds_toArray, List.set_cons_zero, List.set_cons_succ, i64_w, i32_w]
      rfl
    refine pure_ (i := 2) (N := some 97) (v := ?_) (a' := ?_) #[true, true, true, false, false, false, false, false, false, false, false, false, false, false] rfl rfl (by kernel_rfl) (fun _ _ _ h => h) (Or.inl ⟨by rfl, ?_⟩) ?_ ?_
    rotate_left
    · intro w'
      go_simp
      with_reducible rfl
    rotate_left
    · simp only [Act.put, List.setIfInBounds_toArray, List.set_cons_zero, List.set_cons_succ, i64_w, i32_w]
      rfl
    refine pure_ (i := 3) (N := some 98) (v := ?_) (a' := ?_) #[true, true, true, true, false, false, false, false, false, false, false, false, false, false] rfl rfl (by kernel_rfl) (fun _ _ _ h => h) (Or.inl ⟨by rfl, ?_⟩) ?_ ?_
    rotate_left
    · intro w'
      go_simp
      with_reducible rfl
    rotate_left
    · simp only [Act.put, List.setIfInBounds_toArray, List.set_cons_zero, List.set_cons_succ, i64_w, i32_w]
      rfl
    refine pure_ (i := 4) (N := some 99) (v := ?_) (a' := ?_) #[true, true, true, true, true, false, false, false, false, false, false, false, false, false] rfl rfl (by kernel_rfl) (fun _ _ _ h => h) (Or.inl ⟨by rfl, ?_⟩) ?_ ?_
    rotate_left
    · intro w'
      go_simp
      with_reducible rfl
    rotate_left
    · simp only [Act.put, List.setIfInBounds_toArray, List.set_cons_zero, List.set_cons_succ, i64_w, i32_w]
      rfl
    refine pure_ (i := 5) (N := some 100) (v := ?_) (a' := ?_) #[true, true, true, true, true, true, false, false, false, false, false, false, false, false] rfl rfl (by kernel_rfl) (fun _ _ _ h => h) (Or.inl ⟨by rfl, ?_⟩) ?_ ?_
    rotate_left
    · intro w'
      go_simp
      with_reducible rfl
    rotate_left
    · simp only [Act.put, List.setIfInBounds_toArray, List.set_cons_zero, List.set_cons_succ, i64_w, i32_w]
      rfl
    refine pure_ (i := 6) (N := some 101) (v := ?_) (a' := ?_) #[true, true, true, true, true, true, true, false, false, false, false, false, false, false] rfl rfl (by kernel_rfl) (fun _ _ _ h => h) (Or.inl ⟨by rfl, ?_⟩) ?_ ?_
    rotate_left
    · intro w'
      go_simp
      with_reducible rfl
    rotate_left
    · simp only [Act.put, List.setIfInBounds_toArray, List.set_cons_zero, List.set_cons_succ, i64_w, i32_w]
      rfl
    refine pure_ (i := 7) (N := some 102) (v := ?_) (a' := ?_) #[true, true, true, true, true, true, true, true, false, false, false, false, false, false] rfl rfl (by kernel_rfl) (fun _ _ _ h => h) (Or.inl ⟨by rfl, ?_⟩) ?_ ?_
    rotate_left
    · intro w'
      go_simp
      with_reducible rfl
    rotate_left
    · simp only [Act.put, List.setIfInBounds_toArray, List.set_cons_zero, List.set_cons_succ, i64_w, i32_w]
      rfl
    refine pure_ (i := 8) (N := some 103) (v := ?_) (a' := ?_) #[true, true, true, true, true, true, true, true, true, false, false, false, false, false] rfl rfl (by kernel_rfl) (fun _ _ _ h => h) (Or.inl ⟨by rfl, ?_⟩) ?_ ?_
    rotate_left
    · intro w'
      go_simp
      with_reducible rfl
    rotate_left
    · simp only [Act.put, List.setIfInBounds_toArray, List.set_cons_zero, List.set_cons_succ, i64_w, i32_w]
      rfl
    refine last_ (i := 9) (N := none) #[true, true, true, true, true, true, true, true, true, true, false, false, false, false] rfl rfl (by kernel_rfl) (by decide) (fun K hK => ?_)
    refine skip_ (w1 := ?_) (by rfl) rfl ?_ ?_
    rotate_left
    · go_simp
      rfl
    refine hK.out _ _ ?_
    clear hK K
    refine pure_ (i := 10) (N := some 104) (v := ?_) (a' := ?_) #[true, true, true, true, true, true, true, true, true, true, true, false, false, false] rfl rfl (by kernel_rfl) (fun _ _ _ h => h) (Or.inl ⟨by rfl, ?_⟩) ?_ ?_
    rotate_left
    · intro w'
      go_simp
      with_reducible rfl
    rotate_left
    · simp only [Act.put, List.setIfInBounds_toArray, List.set_cons_zero, List.set_cons_succ, i64_w, i32_w]
      rfl
    refine last_ (i := 11) (N := none) #[true, true, true, true, true, true, true, true, true, true, true, true, false, false] rfl rfl (by kernel_rfl) (by decide) (fun K hK => ?_)
    refine skip_ (w1 := ?_) (by rfl) rfl ?_ ?_
    rotate_left
    · go_simp
      rfl
    refine hK.out _ _ ?_
    clear hK K
    refine pure_ (i := 12) (N := some 105) (v := ?_) (a' := ?_) #[true, true, true, true, true, true, true, true, true, true, true, true, true, false] rfl rfl (by kernel_rfl) (fun _ _ _ h => h) (Or.inl ⟨by rfl, ?_⟩) ?_ ?_
    rotate_left
    · intro w'
      go_simp
      with_reducible rfl
    rotate_left
    · simp only [Act.put, List.setIfInBounds_toArray, List.set_cons_zero, List.set_cons_succ, i64_w, i32_w]
      rfl
    refine last_ (i := 13) (N := none) #[true, true, true, true, true, true, true, true, true, true, true, true, true, true] rfl rfl (by kernel_rfl) (by decide) (fun K hK => ?_)
    refine skip_ (w1 := ?_) (by rfl) rfl ?_ ?_
    rotate_left
    · go_simp
      rfl
    refine hK.out _ _ ?_
    clear hK K
    refine done_ (by kernel_rfl) ?_
    have X1 : (w2.setCell ⟨w.heap.size + 1, 2, none⟩ (.string M)).heap[w.heap.size + 1]? = some (.cells #[.int .i64 sv, .int .i64 fc, .string M, .string ⟨#[]⟩, .string ⟨#[]⟩] 51 (0, 0)) := by simpa using blk_set HX4.out 2 (.string M)
    have X2 : ((w2.setCell ⟨w.heap.size + 1, 2, none⟩ (.string M)).setCell ⟨w.heap.size + 1, 3, none⟩ (.string (strOfNums pi))).heap[w.heap.size + 1]? = some (.cells #[.int .i64 sv, .int .i64 fc, .string M, .string (strOfNums pi), .string ⟨#[]⟩] 51 (0, 0)) := by simpa using blk_set X1 3 (.string (strOfNums pi))
    have X3 : (((w2.setCell ⟨w.heap.size + 1, 2, none⟩ (.string M)).setCell ⟨w.heap.size + 1, 3, none⟩ (.string (strOfNums pi))).setCell ⟨w.heap.size + 1, 4, none⟩ (.string T)).heap[w.heap.size + 1]? = some (.cells #[.int .i64 sv, .int .i64 fc, .string M, .string (strOfNums pi), .string T] 51 (0, 0)) := by simpa using blk_set X2 4 (.string T)
    have Y3 : (((w2.setCell ⟨w.heap.size + 1, 2, none⟩ (.string M)).setCell ⟨w.heap.size + 1, 3, none⟩ (.string (strOfNums pi))).setCell ⟨w.heap.size + 1, 4, none⟩ (.string T)).heap[w.heap.size]? = some (.cells #[.int .i64 0, .int .i64 0, .string ⟨#[]⟩, .string ⟨#[]⟩, .string ⟨#[]⟩] 51 (0, 0)) := blk_far (blk_far (blk_far HY4.out (by simp) _) (by simp) _) (by simp) _
    have HX5 := Aside0.mk (blk_drew X3)
    have HY5 := Aside0.mk (blk_drew Y3)
    have HB5 := Aside0.mk (below_drew (below_set (below_set (below_set HB4.out ⟨w.heap.size + 1, 2, none⟩ (Nat.le_succ _) (.string M)) ⟨w.heap.size + 1, 3, none⟩ (Nat.le_succ _) (.string (strOfNums pi))) ⟨w.heap.size + 1, 4, none⟩ (Nat.le_succ _) (.string T)))
    obtain ⟨wx, hwx⟩ : ∃ wx, (((w2.setCell ⟨w.heap.size + 1, 2, none⟩ (.string M)).setCell ⟨w.heap.size + 1, 3, none⟩ (.string (strOfNums pi))).setCell ⟨w.heap.size + 1, 4, none⟩ (.string T)).drew = wx := ⟨_, rfl⟩
    rw [hwx] at HX5 HY5 HB5 ⊢
    clear X1 X2 X3 Y3 hwx r0 r1 r2 r3 r4 f0 f1 f2 f3 f4 y0 y1 y2 y3 y4 j0 j1 j2 j3 j4 hx1 hx2 hix HX4 HY4 HB4
    have r0 := blk_cell HX5.out 0
    have r1 := blk_cell HX5.out 1
    have r2 := blk_cell HX5.out 2
    have r3 := blk_cell HX5.out 3
    have r4 := blk_cell HX5.out 4
    have f0 := blk_frozen HX5.out 0
    have f1 := blk_frozen HX5.out 1
    have f2 := blk_frozen HX5.out 2
    have f3 := blk_frozen HX5.out 3
    have f4 := blk_frozen HX5.out 4

    have y0 := blk_cell HY5.out 0
    have y1 := blk_cell HY5.out 1
    have y2 := blk_cell HY5.out 2
    have y3 := blk_cell HY5.out 3
    have y4 := blk_cell HY5.out 4
    have j0 := blk_frozen HY5.out 0
    have j1 := blk_frozen HY5.out 1
    have j2 := blk_frozen HY5.out 2
    have j3 := blk_frozen HY5.out 3
    have j4 := blk_frozen HY5.out 4

    by_cases c4 : KK + 1 < N
    · have hix := HI2.out c4
      have hT1 := HT.out
      have hg0 : (0 : Int) < ((N - (KK + 1) : Nat) : Int) := by omega
      have hg2 : (1 : Int) ≤ ((N - (KK + 1) : Nat) : Int) := by omega
      obtain ⟨Q, hQ⟩ : ∃ Q, N - (KK + 1) = Q := ⟨_, rfl⟩
      rw [hQ] at ht hT1 hg0 hg2
      clear hQ
      by_cases c5 : z = 32
      · subst c5
        have HFIN := Aside0.mk (show V = .agg #[.int .i64 sv, .int .i64 fc, .string M, .string (strOfNums pi), .string (strOfNums (s.drop (KK + 2)))] by
          rw [HQ2.out, if_pos ⟨c4, rfl⟩])
        rw [show KK + 1 + 1 = KK + 2 by omega] at hT1
        obtain ⟨U, hU⟩ : ∃ U, strOfNums (s.drop (KK + 2)) = U := ⟨_, rfl⟩
        rw [hU] at HFIN hT1
        clear hU
        go_wp2_with fail
        refine bodyPost_ret (v := .agg #[.int .i64 sv, .int .i64 fc, .string M, .string (strOfNums pi), .string U]) (by simp [results, Try.results39, go_sem, y0, y1, y2, y3, y4]) rfl ⟨by rw [HFIN.out], ?_⟩
        exact below_set5 (below_set HB5.out _ (Nat.le_succ _) _) _ (Nat.le_refl _) _ _ _ _ _
      · have HFIN := Aside0.mk (show V = .agg #[.int .i64 sv, .int .i64 fc, .string M, .string (strOfNums pi), .string T] by
          rw [HQ2.out, if_neg (fun h => c5 h.2), HTT.out])
        have b1 : (z == 32) = false := by rw [beq_eq_false_iff_ne]; exact c5
        clear c5
        go_wp2_with fail
        refine bodyPost_ret (v := .agg #[.int .i64 sv, .int .i64 fc, .string M, .string (strOfNums pi), .string T]) (by simp [results, Try.results39, go_sem, y0, y1, y2, y3, y4]) rfl ⟨by rw [HFIN.out], ?_⟩
        exact below_set5 HB5.out _ (Nat.le_refl _) _ _ _ _ _
    · have HFIN := Aside0.mk (show V = .agg #[.int .i64 sv, .int .i64 fc, .string M, .string (strOfNums pi), .string T] by
        rw [HQ2.out, if_neg (fun h => c4 h.1), HTT.out])
      rw [show N - (KK + 1) = 0 by omega] at ht
      clear hk0 hk1
      go_wp2_with fail
      refine bodyPost_ret (v := .agg #[.int .i64 sv, .int .i64 fc, .string M, .string (strOfNums pi), .string T]) (by simp [results, Try.results39, go_sem, y0, y1, y2, y3, y4]) rfl ⟨by rw [HFIN.out], ?_⟩
      exact below_set5 HB5.out _ (Nat.le_refl _) _ _ _ _ _
end Go.Proofs.Ytplmdgimodgekaa
