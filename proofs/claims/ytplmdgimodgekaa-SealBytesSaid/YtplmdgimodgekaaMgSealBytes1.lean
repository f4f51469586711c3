import Derived.Test.YtplmdgimodgekaaMgSealTags2
set_option linter.unusedVariables false
set_option linter.unusedSimpArgs false
section
/- Seals: the law SealBytes. -/
namespace Go.Proofs.Ytplmdgimodgekaa
open Go.RowKit Go.Proofs.YtplmdgimodgekaaW.PrintWords Go.Proofs.YtplmdgimodgekaaW.PrintLast Go.Proofs.YtplmdgimodgekaaW.PrintMore
attribute [local go_sem] max2_int min2_int max_two min_two max_three min_three max_four min_four
theorem leB_at (l : List Int) (hb : isB l) (p : Nat) (h : p + 8 ≤ l.length) : leB (getN l p 8) 8 = (l.drop p).take 8 := by
  have := getN_bytes l hb p 8 (fits_ok ⟨by omega, by omega, by omega, by omega⟩)
  rwa [leW8', Int.toNat_natCast] at this
theorem tgAt_s (L : List Int) (a : Nat) : (tgAt L (a : Int)).s = (L.drop (a + 24)).take 32 := by
  show (L.take ((a : Int) + 24 + 32).toNat).drop ((a : Int) + 24).toNat = _
  rw [show ((a : Int) + 24 + 32).toNat = a + 24 + 32 by omega, show ((a : Int) + 24).toNat = a + 24 by omega, List.drop_take]
  congr 1
  omega
theorem tgAt_enc (L : List Int) (hb : isB L) (a : Nat) (h : a + 56 ≤ L.length) : words8 [(tgAt L (a : Int)).e, (tgAt L (a : Int)).f, (tgAt L (a : Int)).t] ++ (tgAt L (a : Int)).s = (L.drop a).take 56 := by
  rw [tgAt_s]
  show (leB (getN L ((a : Int) + 8 * ((0 : Nat) : Int)) 8) 8 ++ (leB (getN L ((a : Int) + 8 * ((1 : Nat) : Int)) 8) 8 ++ (leB (getN L ((a : Int) + 8 * ((2 : Nat) : Int)) 8) 8 ++ []))) ++ _ = _
  rw [show (a : Int) + 8 * ((0 : Nat) : Int) = ((a : Nat) : Int) by omega, show (a : Int) + 8 * ((1 : Nat) : Int) = ((a + 8 : Nat) : Int) by omega, show (a : Int) + 8 * ((2 : Nat) : Int) = ((a + 16 : Nat) : Int) by omega,
    leB_at L hb a (by omega), leB_at L hb (a + 8) (by omega), leB_at L hb (a + 16) (by omega), List.append_nil]
  rw [show (56 : Nat) = 8 + (8 + (8 + 32)) by decide, List.take_add, List.take_add, List.take_add]
  simp only [List.drop_drop, List.append_assoc]
theorem encT_dec (L : List Int) (hb : isB L) : ∀ n, 56 * n ≤ L.length → encT (decT L n) = L.take (56 * n)
  | 0, _ => rfl
  | n + 1, h => by
    have ih := encT_dec L hb n (by omega)
    have := tgAt_enc L hb (56 * n) (by omega)
    rw [show ((56 * n : Nat) : Int) = 56 * (n : Int) by omega] at this
    rw [decT_succ, encT, List.flatMap_append, ← encT, ih]
    simp only [List.flatMap_cons, List.flatMap_nil, List.append_nil]
    rw [this, show 56 * (n + 1) = 56 * n + 56 by omega, List.take_add]
theorem encT_all (L : List Int) (hb : isB L) (n : Nat) (h : L.length = 56 * n) : encT (decT L n) = L := by rw [encT_dec L hb n (by omega), List.take_of_length_le (by omega)]
set_option maxHeartbeats 8000000 in
set_option maxRecDepth 100000 in
theorem SealBytes_big (v : Value) (L : List Int) (w : World) (hr : Rd w .u8 v L) (hib : isB L) (hn : 1000 < L.length) : Calls Try.prog 14 #[v] w fun e w' => e = .returned (.bool true) ∧ Below w.heap.size w w' := by
  obtain ⟨N, hN⟩ : ∃ N, L.length = N := ⟨_, rfl⟩
  obtain ⟨A0, c0, ev, hcap, _⟩ := hr.mid
  subst ev
  rw [hN] at hr hn hcap ⊢
  have HR := Aside0.mk hr
  have HIB := Aside0.mk hib
  have HN := Aside0.mk hN
  clear hr hib hN
  have hm9 : N ≤ 9223372036854775807 := by obtain ⟨_, _, _, _, h, _⟩ := HR.out.mid; rw [HN.out] at h; exact h
  go_enter Try.func14, Try.ntmps14
  go_wp2_with fail
  with_reducible refine (sea_awake_calls _).mono ?_
  rintro e w1 ⟨rfl, hb⟩
  have HB1 := Aside0.mk hb
  clear hb
  go_wp2_with fail
  with_reducible refine (sea_awake_calls _).mono ?_
  rintro e w2 ⟨rfl, hb⟩
  have HB2 := Aside0.mk (below_step HB1.out hb)
  clear hb
  go_wp2_with fail
  go_ret
  exact ⟨rfl, HB2.out⟩
set_option maxHeartbeats 8000000 in
set_option maxRecDepth 100000 in
theorem SealBytes_no (v : Value) (L : List Int) (w : World) (hr : Rd w .u8 v L) (hib : isB L) (hn : L.length ≤ 1000) (hm : L.length % 56 ≠ 0) : Calls Try.prog 14 #[v] w fun e w' => e = .returned (.bool true) ∧ Below w.heap.size w w' := by
  have CD := Aside0.mk (fun w1 h1 => sealDecode_no v L w1 h1 (by omega) hm)
  obtain ⟨N, hN⟩ : ∃ N, L.length = N := ⟨_, rfl⟩
  obtain ⟨A0, c0, ev, hcap, _⟩ := hr.mid
  subst ev
  rw [hN] at hr hn hcap hm CD ⊢
  have HR := Aside0.mk hr
  have HIB := Aside0.mk hib
  have HN := Aside0.mk hN
  clear hr hib hN
  go_enter Try.func14, Try.ntmps14
  go_wp2_with fail
  with_reducible refine (sea_awake_calls _).mono ?_
  rintro e w1 ⟨rfl, hb⟩
  have HB1 := Aside0.mk hb
  clear hb
  go_wp2_with fail
  with_reducible refine (CD.out _ (HR.out.below HB1.out)).mono ?_
  rintro e w2 ⟨rfl, hb⟩
  have HB2 := Aside0.mk (below_step HB1.out hb)
  have h1 : (N : Int).tmod 56 = (N : Int) % 56 := Int.tmod_eq_emod_of_nonneg (by omega)
  have h2 : ((N : Int) % 56 == 0) = false := by simp; omega
  have h3 : (N : Int).tdiv 56 = (N : Int) / 56 := Int.tdiv_eq_ediv_of_nonneg (by omega)
  obtain ⟨y, hy⟩ : ∃ y, (N : Int) / 56 = y := ⟨_, rfl⟩
  rw [hy] at h3
  have hw : wrap64 y = y := by simp only [wrap64]; omega
  clear hb hy
  by_cases hy0 : (0 : Int) = y
  · go_upto_block 0 with (fail)
    clear h1 h2 h3 hw hy0
    go_cut [] (fun wx => Aside0 (Below w.heap.size w wx))
    case first =>
      go_wp2_with fail
      go_loopw [5] (fun v5 w' => v5 = .int .i64 0 ∧ Aside0 (Below w.heap.size w w')) (fun _ _ => 0)
      case atStart => exact ⟨rfl, HB2⟩
      case round =>
        obtain ⟨rfl, HBL⟩ := hrel
        go_wp2_with fail
        go_meet
        exact HBL
    case rest =>
    have HBE := hcut
    go_upto_region 15 with fail
    go_wp2_with fail
    with_reducible refine (sealTag_nil _ (.slice A0 N c0)).mono ?_
    rintro e wa ⟨rfl, hb⟩
    obtain ⟨Z, hZ⟩ : ∃ Z, tgC 0 0 0 (List.replicate 32 0) = Z := ⟨_, rfl⟩
    have HZI := Aside0.mk (show (Try.prog.info? 74).map (·.size) = some Z.toArray.size by rw [← hZ]; exact info35S List.length_replicate)
    have HZS := Aside0.mk (show 35 = Z.toArray.size by rw [← hZ]; exact sz35 _ _ _ List.length_replicate)
    have HZO := Aside0.mk (show Z.toArray.all (·.oneCell') = true by rw [← hZ]; exact ones_tag _ _ _ _)
    have HBA := Aside0.mk (below_step HBE.out (below_step hb (below_alloc (Below.refl wa.heap.size wa) (.cells Z.toArray 74))))
    rw [hZ]
    clear hb hZ
    go_upto_region 16 with (first | (refine wpList_store_fresh rfl 74 (.tmp 9) (.tmp 91) rfl _ Z.toArray rfl rfl HZI.out HZS.out HZO.out ?_) | fail)
    obtain ⟨wb, hwb⟩ : ∃ wx, wa.alloc (.cells Z.toArray 74) = wx := ⟨_, rfl⟩
    rw [hwb] at HBA ⊢
    clear hwb
    go_wp2_with fail
    with_reducible refine (sealNext_nil _).mono ?_
    rintro e wd ⟨rfl, rfl⟩
    go_wp2_with fail
    with_reducible refine (sealEpoch_nil _).mono ?_
    rintro e wd ⟨rfl, rfl⟩
    go_wp2_with fail
    with_reducible refine (sea_awake_calls _).mono ?_
    rintro e we ⟨rfl, hb⟩
    have HBF := Aside0.mk (below_step HBA.out hb)
    clear hb
    go_wp2_with fail
    go_ret
    exact ⟨rfl, HBF.out⟩
  · go_upto_block 0 with (fail)
    clear h1 h2 h3 hw hy0
    go_cut [] (fun wx => Aside0 (Below w.heap.size w wx))
    case first =>
      go_wp2_with fail
      go_loopw [5] (fun v5 w' => v5 = .int .i64 0 ∧ Aside0 (Below w.heap.size w w')) (fun _ _ => 0)
      case atStart => exact ⟨rfl, HB2⟩
      case round =>
        obtain ⟨rfl, HBL⟩ := hrel
        go_wp2_with fail
        go_meet
        exact HBL
    case rest =>
    have HBE := hcut
    go_upto_region 15 with fail
    go_wp2_with fail
    with_reducible refine (sealTag_nil _ (.slice A0 N c0)).mono ?_
    rintro e wa ⟨rfl, hb⟩
    obtain ⟨Z, hZ⟩ : ∃ Z, tgC 0 0 0 (List.replicate 32 0) = Z := ⟨_, rfl⟩
    have HZI := Aside0.mk (show (Try.prog.info? 74).map (·.size) = some Z.toArray.size by rw [← hZ]; exact info35S List.length_replicate)
    have HZS := Aside0.mk (show 35 = Z.toArray.size by rw [← hZ]; exact sz35 _ _ _ List.length_replicate)
    have HZO := Aside0.mk (show Z.toArray.all (·.oneCell') = true by rw [← hZ]; exact ones_tag _ _ _ _)
    have HBA := Aside0.mk (below_step HBE.out (below_step hb (below_alloc (Below.refl wa.heap.size wa) (.cells Z.toArray 74))))
    rw [hZ]
    clear hb hZ
    go_upto_region 16 with (first | (refine wpList_store_fresh rfl 74 (.tmp 9) (.tmp 91) rfl _ Z.toArray rfl rfl HZI.out HZS.out HZO.out ?_) | fail)
    obtain ⟨wb, hwb⟩ : ∃ wx, wa.alloc (.cells Z.toArray 74) = wx := ⟨_, rfl⟩
    rw [hwb] at HBA ⊢
    clear hwb
    go_wp2_with fail
    with_reducible refine (sealNext_nil _).mono ?_
    rintro e wd ⟨rfl, rfl⟩
    go_wp2_with fail
    with_reducible refine (sealEpoch_nil _).mono ?_
    rintro e wd ⟨rfl, rfl⟩
    go_wp2_with fail
    with_reducible refine (sea_awake_calls _).mono ?_
    rintro e we ⟨rfl, hb⟩
    have HBF := Aside0.mk (below_step HBA.out hb)
    clear hb
    go_wp2_with fail
    go_ret
    exact ⟨rfl, HBF.out⟩
set_option maxHeartbeats 8000000 in
set_option maxRecDepth 100000 in
theorem SealBytes_yes (v : Value) (L : List Int) (w : World) (hr : Rd w .u8 v L) (hib : isB L) (hn : L.length ≤ 1000) (n : Nat) (hm : L.length = 56 * n) : Calls Try.prog 14 #[v] w fun e w' => e = .returned (.bool true) ∧ Below w.heap.size w w' := by
  have CD := Aside0.mk (fun w1 h1 => sealDecode_yes v L w1 h1 hib (by omega) n hm)
  have HE := Aside0.mk (encT_all L hib n hm)
  have HOK := Aside0.mk (decT_ok hib n (by omega))
  obtain ⟨N, hN⟩ : ∃ N, L.length = N := ⟨_, rfl⟩
  obtain ⟨A0, c0, ev, hcap, _⟩ := hr.mid
  subst ev
  rw [hN] at hr hn hcap hm CD ⊢
  have HR := Aside0.mk hr
  have HIB := Aside0.mk hib
  have HN := Aside0.mk hN
  clear hr hib hN
  have hm1 : N ≤ 56 * n := by omega
  have hm2 : 56 * n ≤ N := by omega
  clear hm
  go_enter Try.func14, Try.ntmps14
  go_wp2_with fail
  with_reducible refine (sea_awake_calls _).mono ?_
  rintro e w1 ⟨rfl, hb⟩
  have HB1 := Aside0.mk hb
  clear hb
  go_wp2_with fail
  with_reducible refine (CD.out _ (HR.out.below HB1.out)).mono ?_
  rintro e w2 ⟨t, rfl, ht, hb⟩
  obtain ⟨At, ct, ev⟩ := ht.slice (decT_len L n)
  subst ev
  have HB2 := Aside0.mk (below_step HB1.out hb)
  have HT := Aside0.mk (ht.rd HOK.out)
  have HH := Aside0.mk (show (N : Int).tmod 56 = 0 by rw [Int.tmod_eq_emod_of_nonneg (by omega)]; omega)
  have HQ := Aside0.mk (show (N : Int).tdiv 56 = (n : Int) by rw [Int.tdiv_eq_ediv_of_nonneg (by omega)]; omega)
  have HQ2 := Aside0.mk (show (N : Int) / 56 = (n : Int) by omega)
  have HH2 := Aside0.mk (show (N : Int) % 56 = 0 by omega)
  clear hb ht
  have h1 := HH.out
  have h4 := HH2.out
  go_wp2_with fail
  clear h1 h4
  with_reducible refine (sealEncode_calls (.slice At n ct) (decT L n) _ HT.out HOK.out (by rw [decT_len]; omega)).mono ?_
  rintro e w3 ⟨u3, rfl, ho3, hb⟩
  rw [HE.out] at ho3
  have HO3 := Aside0.mk ho3
  have HB3 := Aside0.mk (below_step HB2.out hb)
  have HT3 := Aside0.mk (HT.out.below hb)
  clear hb ho3 HT
  go_wp2_with fail
  with_reducible refine (Same_calls _ _ L L _ HO3.out.rd (HR.out.below HB3.out) HIB.out HIB.out).mono ?_
  rintro e w4 ⟨rfl, hb⟩
  rw [decide_eq_true (show L = L from rfl)]
  have HB4 := Aside0.mk (below_step HB3.out hb)
  have HT4 := Aside0.mk (HT3.out.below hb)
  clear hb HT3
  have h2 := HQ.out
  have h5 := HQ2.out
  have h6 : ((n : Int) != (n : Int)) = false := by simp
  go_upto_block 0 with (fail)
  clear h2 h5 h6
  go_cut [] (fun wx => Aside0 (Below w.heap.size w wx))
  case first =>
    go_wp2_with fail
    go_loopw [5] (fun v5 w' => ∃ i : Nat, i ≤ n ∧ v5 = .int .i64 (i : Int) ∧ Aside0 (Below w.heap.size w w') ∧ Aside0 (TRd w' (.slice At n ct) (decT L n))) (fun v5 _ => n - (intOf v5).toNat)
    case atStart => exact ⟨0, by omega, rfl, HB4, HT4⟩
    case round =>
      obtain ⟨i, hi, rfl, HBL, HTL⟩ := hrel
      by_cases c2 : i < n
      · have hil : i < (decT L n).length := by rw [decT_len]; exact c2
        obtain ⟨b, o, rfl, hbl, hrr⟩ := HTL.out.get (by omega)
        have hx : (decT L n)[i] = tgAt L (56 * (i : Int)) := by simp [decT]
        have hr1 := hrr i hil
        rw [hx] at hr1
        obtain ⟨fv, hfv⟩ : ∃ fv, getN L (56 * (i : Int) + 8) 8 = fv := ⟨_, rfl⟩
        have hxs := tgAt_s L (56 * i)
        rw [show ((56 * i : Nat) : Int) = 56 * (i : Int) by omega] at hxs
        obtain ⟨sv, hsv⟩ : ∃ sv, (L.drop (56 * i + 24)).take 32 = sv := ⟨_, rfl⟩
        have HF := Aside0.mk (show wr.cell? ⟨b, o + i * 35 + 1, none⟩ = some (.int .u64 fv) from hr1 1 _ (by rw [← hfv]; rfl))
        have HSR := Aside0.mk (show wr.rangeAt b (o + i * 35 + 3) (nums .u8 sv) from fun j u hj => by
          have := hr1 (3 + j) u (by
            show (tgC _ _ _ (tgAt L (56 * (i : Int))).s)[3 + j]? = some u
            rw [hxs, hsv, tgC, List.getElem?_append_right (by simp), show 3 + j - [Value.int .u64 (tgAt L (56 * (i : Int))).e, Value.int .u64 (tgAt L (56 * (i : Int))).f, Value.int .u64 (tgAt L (56 * (i : Int))).t].length = j by simp]
            exact hj)
          rw [← Nat.add_assoc] at this
          exact this)
        have HSL := Aside0.mk (show sv.length = 32 by rw [← hsv, List.length_take, List.length_drop, HN.out]; omega)
        have HSB := Aside0.mk (show isB sv by rw [← hsv]; exact (HIB.out.drop _).take _)
        obtain ⟨A', hsl, hrd⟩ := Rd.midU HR.out HN.out .i64 (56 * i + 24) (56 * i + 56) (by omega) (by omega)
        rw [show 56 * i + 56 - (56 * i + 24) = 32 by omega, hsv] at hrd
        rw [show 56 * i + 56 - (56 * i + 24) = 32 by omega, show ((56 * i + 24 : Nat) : Int) = 56 * (i : Int) + 24 by omega, show ((56 * i + 56 : Nat) : Int) = 56 * (i : Int) + 56 by omega] at hsl
        have HRD := Aside0.mk hrd
        have HSLI := Aside0.mk hsl
        have HFV := Aside0.mk hfv
        clear hrr hx hr1 hxs hsv hsl hrd hfv
        go_wp2_with fail
        refine (ref_Get_calls (.slice A0 N c0) L (56 * (i : Int) + 8) 8 _ (HR.out.below HBL.out) HIB.out).mono ?_
        rintro e w6 ⟨rfl, hb⟩
        rw [HFV.out]
        have HB6 := Aside0.mk hb
        have x1 := pw_cell_below hb HF.out
        clear hb
        go_upto_region 12 with fail
        have hsl := HSLI.out
        have q1 : (fv != fv) = false := by simp
        have m1 : IntKind.i64.wrap (56 * (i : Int)) = 56 * (i : Int) := by rw [IntKind.wrap_i64]; omega
        have m2 : IntKind.i64.wrap (56 * (i : Int) + 24) = 56 * (i : Int) + 24 := by rw [IntKind.wrap_i64]; omega
        have m3 : IntKind.i64.wrap (56 * (i : Int) + 56) = 56 * (i : Int) + 56 := by rw [IntKind.wrap_i64]; omega
        refine start_ (n := 24) (S := fun w' => w'.cell? ⟨b, o + i * 35 + 1, none⟩ = some (.int .u64 fv)) (ds := []) #[false,false,false,false,false,false,false,false,false,false,false,false,false,false,false,false,false,false,false,false,false,false,false,false] (by kernel_rfl) rfl rfl (x1) (fun hHeld => ?_)
        refine pure_ (i := 0) (N := some 63) (v := ?_) (a' := ?_) #[true,false,false,false,false,false,false,false,false,false,false,false,false,false,false,false,false,false,false,false,false,false,false,false] rfl rfl (by kernel_rfl) (fun _ _ _ h => h) (Or.inl ⟨by rfl, ?_⟩) ?_ ?_
        rotate_left
        · intro w'
          go_simp
          with_reducible rfl
        rotate_left
        · simp only [Act.put, List.setIfInBounds_toArray, List.set_cons_zero, List.set_cons_succ, i64_w, i32_w]
          rfl
        refine pure_ (i := 1) (N := some 64) (v := ?_) (a' := ?_) #[true,true,false,false,false,false,false,false,false,false,false,false,false,false,false,false,false,false,false,false,false,false,false,false] rfl rfl (by kernel_rfl) (fun _ _ _ h => h) (Or.inl ⟨by rfl, ?_⟩) ?_ ?_
        rotate_left
        · intro w'
          go_simp
          with_reducible rfl
        rotate_left
        · simp only [Act.put, List.setIfInBounds_toArray, List.set_cons_zero, List.set_cons_succ, i64_w, i32_w]
          rfl
        refine pure_ (i := 2) (N := some 65) (v := ?_) (a' := ?_) #[true,true,true,false,false,false,false,false,false,false,false,false,false,false,false,false,false,false,false,false,false,false,false,false] rfl rfl (by kernel_rfl) (fun _ _ _ h => h) (Or.inl ⟨by rfl, ?_⟩) ?_ ?_
        rotate_left
        · intro w'
          go_simp
          with_reducible rfl
        rotate_left
        · simp only [Act.put, List.setIfInBounds_toArray, List.set_cons_zero, List.set_cons_succ, i64_w, i32_w]
          rfl
        refine pure_ (i := 3) (N := some 66) (v := ?_) (a' := ?_) #[true,true,true,true,false,false,false,false,false,false,false,false,false,false,false,false,false,false,false,false,false,false,false,false] rfl rfl (by kernel_rfl) (fun _ _ _ h => h) (Or.inl ⟨by rfl, ?_⟩) ?_ ?_
        rotate_left
        · intro w'
          go_simp
          with_reducible rfl
        rotate_left
        · simp only [Act.put, List.setIfInBounds_toArray, List.set_cons_zero, List.set_cons_succ, i64_w, i32_w]
          rfl
        refine pure_ (i := 5) (N := some 68) (v := ?_) (a' := ?_) #[true,true,true,true,false,true,false,false,false,false,false,false,false,false,false,false,false,false,false,false,false,false,false,false] rfl rfl (by kernel_rfl) (fun _ _ _ h => h) (Or.inl ⟨by rfl, ?_⟩) ?_ ?_
        rotate_left
        · intro w'
          go_simp
          with_reducible rfl
        rotate_left
        · simp only [Act.put, List.setIfInBounds_toArray, List.set_cons_zero, List.set_cons_succ, i64_w, i32_w]
          rfl
        refine take_ (i := 4) (N := some 67) (v := ?_) (a' := ?_) #[true,true,true,true,true,true,false,false,false,false,false,false,false,false,false,false,false,false,false,false,false,false,false,false] rfl rfl (by kernel_rfl) (fun _ _ _ h => h) (Or.inl ⟨by rfl, ?_⟩) hHeld ?_ ?_
        rotate_left
        · intro w' s0
          go_simp
          with_reducible rfl
        rotate_left
        · simp only [Act.put, List.setIfInBounds_toArray, List.set_cons_zero, List.set_cons_succ, i64_w, i32_w]
          rfl
        refine pure_ (i := 6) (N := some 69) (v := ?_) (a' := ?_) #[true,true,true,true,true,true,true,false,false,false,false,false,false,false,false,false,false,false,false,false,false,false,false,false] rfl rfl (by kernel_rfl) (fun _ _ _ h => h) (Or.inl ⟨by rfl, ?_⟩) ?_ ?_
        rotate_left
        · intro w'
          go_simp
          with_reducible rfl
        rotate_left
        · simp only [Act.put, List.setIfInBounds_toArray, List.set_cons_zero, List.set_cons_succ, i64_w, i32_w]
          rfl
        refine pure_ (i := 7) (N := some 70) (v := ?_) (a' := ?_) #[true,true,true,true,true,true,true,true,false,false,false,false,false,false,false,false,false,false,false,false,false,false,false,false] rfl rfl (by kernel_rfl) (fun _ _ _ h => h) (Or.inl ⟨by rfl, ?_⟩) ?_ ?_
        rotate_left
        · intro w'
          go_simp
          with_reducible rfl
        rotate_left
        · simp only [Act.put, List.setIfInBounds_toArray, List.set_cons_zero, List.set_cons_succ, i64_w, i32_w]
          rfl
        refine pure_ (i := 8) (N := some 71) (v := ?_) (a' := ?_) #[true,true,true,true,true,true,true,true,true,false,false,false,false,false,false,false,false,false,false,false,false,false,false,false] rfl rfl (by kernel_rfl) (fun _ _ _ h => h) (Or.inl ⟨by rfl, ?_⟩) ?_ ?_
        rotate_left
        · intro w'
          go_simp
          with_reducible rfl
        rotate_left
        · simp only [Act.put, List.setIfInBounds_toArray, List.set_cons_zero, List.set_cons_succ, i64_w, i32_w]
          rfl
        refine pure_ (i := 9) (N := some 72) (v := ?_) (a' := ?_) #[true,true,true,true,true,true,true,true,true,true,false,false,false,false,false,false,false,false,false,false,false,false,false,false] rfl rfl (by kernel_rfl) (fun _ _ _ h => h) (Or.inl ⟨by rfl, ?_⟩) ?_ ?_
        rotate_left
        · intro w'
          go_simp
          with_reducible rfl
        rotate_left
        · simp only [Act.put, List.setIfInBounds_toArray, List.set_cons_zero, List.set_cons_succ, i64_w, i32_w]
          rfl
        refine pure_ (i := 10) (N := some 73) (v := ?_) (a' := ?_) #[true,true,true,true,true,true,true,true,true,true,true,false,false,false,false,false,false,false,false,false,false,false,false,false] rfl rfl (by kernel_rfl) (fun _ _ _ h => h) (Or.inl ⟨by rfl, ?_⟩) ?_ ?_
        rotate_left
        · intro w'
          go_simp
          with_reducible rfl
        rotate_left
        · simp only [Act.put, List.setIfInBounds_toArray, List.set_cons_zero, List.set_cons_succ, i64_w, i32_w]
          rfl
        refine pure_ (i := 11) (N := some 74) (v := ?_) (a' := ?_) #[true,true,true,true,true,true,true,true,true,true,true,true,false,false,false,false,false,false,false,false,false,false,false,false] rfl rfl (by kernel_rfl) (fun _ _ _ h => h) (Or.inl ⟨by rfl, ?_⟩) ?_ ?_
        rotate_left
        · intro w'
          go_simp
          with_reducible rfl
        rotate_left
        · simp only [Act.put, List.setIfInBounds_toArray, List.set_cons_zero, List.set_cons_succ, i64_w, i32_w]
          rfl
        refine pure_ (i := 12) (N := some 75) (v := ?_) (a' := ?_) #[true,true,true,true,true,true,true,true,true,true,true,true,true,false,false,false,false,false,false,false,false,false,false,false] rfl rfl (by kernel_rfl) (fun _ _ _ h => h) (Or.inl ⟨by rfl, ?_⟩) ?_ ?_
        rotate_left
        · intro w'
          go_simp
          with_reducible rfl
        rotate_left
        · simp only [Act.put, List.setIfInBounds_toArray, List.set_cons_zero, List.set_cons_succ, i64_w, i32_w]
          rfl
        refine pure_ (i := 13) (N := some 76) (v := ?_) (a' := ?_) #[true,true,true,true,true,true,true,true,true,true,true,true,true,true,false,false,false,false,false,false,false,false,false,false] rfl rfl (by kernel_rfl) (fun _ _ _ h => h) (Or.inl ⟨by rfl, ?_⟩) ?_ ?_
        rotate_left
        · intro w'
          go_simp
          with_reducible rfl
        rotate_left
        · simp only [Act.put, List.setIfInBounds_toArray, List.set_cons_zero, List.set_cons_succ, i64_w, i32_w]
          rfl
        refine pure_ (i := 14) (N := some 77) (v := ?_) (a' := ?_) #[true,true,true,true,true,true,true,true,true,true,true,true,true,true,true,false,false,false,false,false,false,false,false,false] rfl rfl (by kernel_rfl) (fun _ _ _ h => h) (Or.inl ⟨by rfl, ?_⟩) ?_ ?_
        rotate_left
        · intro w'
          go_simp
          with_reducible rfl
        rotate_left
        · simp only [Act.put, List.setIfInBounds_toArray, List.set_cons_zero, List.set_cons_succ, i64_w, i32_w]
          rfl
        refine pure_ (i := 15) (N := some 78) (v := ?_) (a' := ?_) #[true,true,true,true,true,true,true,true,true,true,true,true,true,true,true,true,false,false,false,false,false,false,false,false] rfl rfl (by kernel_rfl) (fun _ _ _ h => h) (Or.inl ⟨by rfl, ?_⟩) ?_ ?_
        rotate_left
        · intro w'
          go_simp
          with_reducible rfl
        rotate_left
        · simp only [Act.put, List.setIfInBounds_toArray, List.set_cons_zero, List.set_cons_succ, i64_w, i32_w]
          rfl
        refine pure_ (i := 16) (N := some 79) (v := ?_) (a' := ?_) #[true,true,true,true,true,true,true,true,true,true,true,true,true,true,true,true,true,false,false,false,false,false,false,false] rfl rfl (by kernel_rfl) (fun _ _ _ h => h) (Or.inl ⟨by rfl, ?_⟩) ?_ ?_
        rotate_left
        · intro w'
          go_simp
          with_reducible rfl
        rotate_left
        · simp only [Act.put, List.setIfInBounds_toArray, List.set_cons_zero, List.set_cons_succ, i64_w, i32_w]
          rfl
        refine pure_ (i := 17) (N := some 80) (v := ?_) (a' := ?_) #[true,true,true,true,true,true,true,true,true,true,true,true,true,true,true,true,true,true,false,false,false,false,false,false] rfl rfl (by kernel_rfl) (fun _ _ _ h => h) (Or.inl ⟨by rfl, ?_⟩) ?_ ?_
        rotate_left
        · intro w'
          go_simp
          with_reducible rfl
        rotate_left
        · simp only [Act.put, List.setIfInBounds_toArray, List.set_cons_zero, List.set_cons_succ, i64_w, i32_w]
          rfl
        refine pure_ (i := 18) (N := some 81) (v := ?_) (a' := ?_) #[true,true,true,true,true,true,true,true,true,true,true,true,true,true,true,true,true,true,true,false,false,false,false,false] rfl rfl (by kernel_rfl) (fun _ _ _ h => h) (Or.inl ⟨by rfl, ?_⟩) ?_ ?_
        rotate_left
        · intro w'
          go_simp
          with_reducible rfl
        rotate_left
        · simp only [Act.put, List.setIfInBounds_toArray, List.set_cons_zero, List.set_cons_succ, i64_w, i32_w]
          rfl
        refine pure_ (i := 19) (N := some 82) (v := ?_) (a' := ?_) #[true,true,true,true,true,true,true,true,true,true,true,true,true,true,true,true,true,true,true,true,false,false,false,false] rfl rfl (by kernel_rfl) (fun _ _ _ h => h) (Or.inl ⟨by rfl, ?_⟩) ?_ ?_
        rotate_left
        · intro w'
          go_simp
          with_reducible rfl
        rotate_left
        · simp only [Act.put, List.setIfInBounds_toArray, List.set_cons_zero, List.set_cons_succ, i64_w, i32_w]
          rfl
        refine pure_ (i := 20) (N := some 83) (v := ?_) (a' := ?_) #[true,true,true,true,true,true,true,true,true,true,true,true,true,true,true,true,true,true,true,true,true,false,false,false] rfl rfl (by kernel_rfl) (fun _ _ _ h => h) (Or.inl ⟨by rfl, ?_⟩) ?_ ?_
        rotate_left
        · intro w'
          go_simp
          with_reducible rfl
        rotate_left
        · simp only [Act.put, List.setIfInBounds_toArray, List.set_cons_zero, List.set_cons_succ, i64_w, i32_w]
          rfl
        refine one_ (i := 21) (N := some 84) #[true,true,true,true,true,true,true,true,true,true,true,true,true,true,true,true,true,true,true,true,true,true,false,false] rfl rfl (by kernel_rfl) (by decide) (fun K hK => ?_)
        refine goes_ Try.func50 (by kernel_rfl) rfl #[.slice (some ⟨b, o + i * 35 + 3, none⟩) 32 32, .slice A' 32 (c0 - (56 * i + 24))] (by rfl) rfl rfl (by (try simp only [List.map_toArray, List.map_cons, List.map_nil]); first | done | rfl) ?_
        with_reducible refine (Same_calls _ _ sv sv _ (rd_range (range_below HSR.out (below_step HB6.out (below_drew (Below.refl _ _)))) HSL.out (Nat.le_refl _) (by decide)) (HRD.out _ (HR.out.below (below_step HBL.out (below_step HB6.out (below_drew (Below.refl _ _)))))) HSB.out HSB.out).mono ?_
        rintro e w7 ⟨rfl, hb7⟩
        refine ⟨_, rfl, ?_⟩
        rw [decide_eq_true (show sv = sv from rfl)]
        refine hK.out _ _ ((pw_cell_below hb7 hHeld)) (fun hHeld => ?_)
        clear hK K
        refine norm_ (a' := ?_) ?_ ?_
        rotate_left
        · show Act.put _ (some 84) _ = _
          simp only [Act.put, List.setIfInBounds_toArray, List.set_cons_zero, List.set_cons_succ, i64_w, i32_w]
          rfl
        refine pure_ (i := 22) (N := some 85) (v := ?_) (a' := ?_) #[true,true,true,true,true,true,true,true,true,true,true,true,true,true,true,true,true,true,true,true,true,true,true,false] rfl rfl (by kernel_rfl) (fun _ _ _ h => h) (Or.inl ⟨by rfl, ?_⟩) ?_ ?_
        rotate_left
        · intro w'
          go_simp
          with_reducible rfl
        rotate_left
        · simp only [Act.put, List.setIfInBounds_toArray, List.set_cons_zero, List.set_cons_succ, i64_w, i32_w]
          rfl
        refine pure_ (i := 23) (N := some 86) (v := ?_) (a' := ?_) #[true,true,true,true,true,true,true,true,true,true,true,true,true,true,true,true,true,true,true,true,true,true,true,true] rfl rfl (by kernel_rfl) (fun _ _ _ h => h) (Or.inl ⟨by rfl, ?_⟩) ?_ ?_
        rotate_left
        · intro w'
          go_simp
          with_reducible rfl
        rotate_left
        · simp only [Act.put, List.setIfInBounds_toArray, List.set_cons_zero, List.set_cons_succ, i64_w, i32_w]
          rfl
        refine done_ (by kernel_rfl) ?_
        have HB7 := Aside0.mk (below_step HB6.out (below_step (below_drew (Below.refl _ _)) hb7))
        clear hb7 x1 hsl q1 m1 m2 m3
        go_wp2_with fail
        go_roundw
        case rel => exact ⟨i + 1, by omega, by go_num, Aside0.mk (below_step HBL.out HB7.out), Aside0.mk (HTL.out.below HB7.out)⟩
        case measure => simp [intOf] <;> omega
      · obtain rfl : i = n := by omega
        go_wp2_with fail
        go_meet
        exact HBL
  case rest =>
  have HBE := hcut
  go_upto_region 15 with fail
  go_wp2_with fail
  with_reducible refine (sealTag_nil _ (.slice A0 N c0)).mono ?_
  rintro e wa ⟨rfl, hb⟩
  obtain ⟨Z, hZ⟩ : ∃ Z, tgC 0 0 0 (List.replicate 32 0) = Z := ⟨_, rfl⟩
  have HZI := Aside0.mk (show (Try.prog.info? 74).map (·.size) = some Z.toArray.size by rw [← hZ]; exact info35S List.length_replicate)
  have HZS := Aside0.mk (show 35 = Z.toArray.size by rw [← hZ]; exact sz35 _ _ _ List.length_replicate)
  have HZO := Aside0.mk (show Z.toArray.all (·.oneCell') = true by rw [← hZ]; exact ones_tag _ _ _ _)
  have HBA := Aside0.mk (below_step HBE.out (below_step hb (below_alloc (Below.refl wa.heap.size wa) (.cells Z.toArray 74))))
  rw [hZ]
  clear hb hZ
  go_upto_region 16 with (first | (refine wpList_store_fresh rfl 74 (.tmp 9) (.tmp 91) rfl _ Z.toArray rfl rfl HZI.out HZS.out HZO.out ?_) | fail)
  obtain ⟨wb, hwb⟩ : ∃ wx, wa.alloc (.cells Z.toArray 74) = wx := ⟨_, rfl⟩
  rw [hwb] at HBA ⊢
  clear hwb
  go_wp2_with fail
  with_reducible refine (sealNext_nil _).mono ?_
  rintro e wd ⟨rfl, rfl⟩
  go_wp2_with fail
  with_reducible refine (sealEpoch_nil _).mono ?_
  rintro e wd ⟨rfl, rfl⟩
  go_wp2_with fail
  with_reducible refine (sea_awake_calls _).mono ?_
  rintro e we ⟨rfl, hb⟩
  have HBF := Aside0.mk (below_step HBA.out hb)
  clear hb
  go_wp2_with fail
  go_ret
  exact ⟨rfl, HBF.out⟩
theorem SealBytes_walk (a0 : Option Addr) (len0 cap0 : Nat) (z0 : List Int) (w : World) (w0 : (a0 = none ∧ len0 = 0 ∧ cap0 = 0 ∧ z0 = []) ∨ ∃ x, a0 = some x ∧ len0 ≤ cap0 ∧ cap0 ≤ maxLen ∧ z0.length = cap0 ∧ (∀ i, i < z0.length → w.cell? (x.add i) = some (.int .u8 (z0.getD i 0))) ∧ ∀ n ∈ z0, (Lit.int .u8 n).wf = true) (y0 : len0 * 1 ≤ 140737488351232) : Calls Try.prog 14 #[.slice a0 len0 cap0] w fun e w' => e = .returned (.bool true) ∧ Below w.heap.size w w' := by
  obtain ⟨l0, rfl, hr0, hm0, hw0, hc0⟩ := ReadsInt.ofRowC w0
  have hr : Rd w .u8 (.slice a0 l0.length cap0) l0 := ⟨_, _, rfl, hc0, hr0⟩
  have hb := wf_isB hw0
  by_cases h1 : 1000 < l0.length
  · exact SealBytes_big _ l0 w hr hb h1
  · by_cases h2 : l0.length % 56 = 0
    · exact SealBytes_yes _ l0 w hr hb (by omega) (l0.length / 56) (by omega)
    · exact SealBytes_no _ l0 w hr hb (by omega) h2
end Go.Proofs.Ytplmdgimodgekaa
end
