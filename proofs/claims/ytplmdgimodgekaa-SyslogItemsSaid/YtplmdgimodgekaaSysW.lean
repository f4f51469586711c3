/- Syslog: the line of a message, both sides. -/
import Derived.Test.YtplmdgimodgekaaSysV
import Derived.Test.YtplmdgimodgekaaSysR
namespace Go.Proofs.Ytplmdgimodgekaa
open Go.RowKit Go.Proofs.YtplmdgimodgekaaW.PrintWords Go.Proofs.YtplmdgimodgekaaW.PrintLast Go.Proofs.YtplmdgimodgekaaW.PrintMore
attribute [local go_sem] max2_int min2_int max_two min_two max_three min_three max_four min_four   -- for this text's walks alone
set_option linter.unusedVariables false
set_option linter.unusedSimpArgs false
theorem str_isE (l : List Int) : ((strOfNums l).toList == ([] : List UInt8)) = decide (l = []) := by
  by_cases h : l = []
  · subst h; simp [strOfNums]
  · rw [decide_eq_false h]; exact (str_ne h).2
theorem str_isE2 (l : List Int) : (strOfNums l).toList.isEmpty = decide (l = []) := by
  by_cases h : l = []
  · subst h; simp [strOfNums]
  · rw [decide_eq_false h]; exact (str_ne h).1

set_option maxHeartbeats 8000000 in
set_option maxRecDepth 100000 in
theorem sLine_calls (sv fc : Int) (nm pi tx : List Int) (w : World) (h : 0 ≤ sv ∧ sv ≤ 7) (h2 : 0 ≤ fc ∧ fc ≤ 23) (n0 : nm.length ≤ 1000) (n1 : pi.length ≤ 5000) (n2 : tx.length ≤ 100000) :
    Calls Try.prog 41 #[syV (sv, fc, nm, pi, tx)] w fun e w' => e = .returned (.string (strOfNums (lnL (sv, fc, nm, pi, tx)))) ∧ Below w.heap.size w w' := by
  rw [syV, lnL]
  dsimp only
  have CD := Aside0.mk (fun w => Decimal_calls 19 (8 * fc + sv) w (by omega) (by omega) (by rw [show (10 : Int) ^ (19 + 1) = 100000000000000000000 from rfl]; omega) (by omega))
  obtain ⟨d, hd⟩ : ∃ d, decD 20 (8 * fc + sv) = d := ⟨_, rfl⟩
  have hdl := (decD_len 19 (8 * fc + sv)).1
  rw [show 19 + 1 = 20 from rfl] at hdl
  rw [hd] at CD hdl ⊢
  clear hd
  have HN := Aside0.mk (str_isE nm)
  have HP := Aside0.mk (str_isE pi)
  have HN2 := Aside0.mk (str_isE2 nm)
  have HP2 := Aside0.mk (str_isE2 pi)
  have hs1 := strOf_size nm
  have hs2 := strOf_size pi
  have hs3 := strOf_size tx
  have hs4 := strOf_size d
  obtain ⟨V, hV⟩ : ∃ V, strOfNums (60 :: (d ++ 62 :: bkL nm pi tx)) = V := ⟨_, rfl⟩
  rw [hV]
  rw [bkL] at hV
  have w1 : IntKind.i64.wrap (8 * fc) = 8 * fc := by rw [IntKind.wrap_i64]; omega
  have w2 : IntKind.i64.wrap (8 * fc + sv) = 8 * fc + sv := by rw [IntKind.wrap_i64]; omega
  have w3 : IntKind.u64.wrap (8 * fc + sv) = 8 * fc + sv := by rw [IntKind.wrap_u64]; omega
  have w4 : wrap64 (8 * fc) = 8 * fc := by simp only [wrap64]; omega
  have w5 : wrap64 (8 * fc + sv) = 8 * fc + sv := by simp only [wrap64]; omega
  obtain ⟨NM, hNM⟩ : ∃ V, strOfNums nm = V := ⟨_, rfl⟩
  obtain ⟨PI, hPI⟩ : ∃ V, strOfNums pi = V := ⟨_, rfl⟩
  obtain ⟨TX, hTX⟩ : ∃ V, strOfNums tx = V := ⟨_, rfl⟩
  obtain ⟨D, hD⟩ : ∃ V, strOfNums d = V := ⟨_, rfl⟩
  rw [hNM] at HN HN2 hs1 ⊢
  rw [hPI] at HP HP2 hs2 ⊢
  rw [hTX] at hs3 ⊢
  rw [hD] at CD hs4
  have HV := Aside0.mk hV
  have H1 := Aside0.mk hNM
  have H2 := Aside0.mk hPI
  have H3 := Aside0.mk hTX
  have H4 := Aside0.mk hD
  clear hV hNM hPI hTX hD
  by_cases c1 : nm = []
  · have b1 := HN.out
    have b2 := HN2.out
    rw [decide_eq_true c1] at b1 b2
    have HE := Aside0.mk (show ((⟨#[60]⟩ : ByteArray) ++ D ++ ⟨#[62]⟩ ++  TX) = V by
      rw [← HV.out, if_pos c1, ← H3.out, ← H4.out, show (⟨#[60]⟩ : ByteArray) = strOfNums [60] from rfl, show (⟨#[62]⟩ : ByteArray) = strOfNums [62] from rfl]
      simp only [strOf_append, List.append_assoc, List.cons_append, List.nil_append])
    clear c1
    go_enter Try.func41, Try.ntmps41
    go_wp2_with fail
    refine (CD.out _).mono ?_
    rintro _ wd ⟨rfl, hb⟩
    have HZ := Aside0.mk (blk_below (blk_new w (.cells #[.int .i64 sv, .int .i64 fc, .string NM, .string PI, .string TX] 54)) hb)
    have HB := Aside0.mk (below_step (below_alloc (Below.refl w.heap.size w) _) hb)
    clear hb
    have r0 := blk_cell HZ.out 0
    have r1 := blk_cell HZ.out 1
    have r2 := blk_cell HZ.out 2
    have r3 := blk_cell HZ.out 3
    have r4 := blk_cell HZ.out 4
    go_wp2_with fail
    go_ret
    exact ⟨by rw [← HE.out]; rfl, HB.out⟩
  · have b1 := HN.out
    have b2 := HN2.out
    rw [decide_eq_false c1] at b1 b2
    by_cases c2 : pi = []
    · have d1 := HP.out
      have d2 := HP2.out
      rw [decide_eq_true c2] at d1 d2
      have HE := Aside0.mk (show ((⟨#[60]⟩ : ByteArray) ++ D ++ ⟨#[62]⟩ ++ NM ++ ⟨#[58, 32]⟩ ++ TX) = V by
        rw [← HV.out, if_neg c1, if_pos c2, ← H1.out, ← H3.out, ← H4.out, show (⟨#[60]⟩ : ByteArray) = strOfNums [60] from rfl, show (⟨#[62]⟩ : ByteArray) = strOfNums [62] from rfl, show (⟨#[58, 32]⟩ : ByteArray) = strOfNums [58, 32] from rfl]
        simp only [strOf_append, List.append_assoc, List.cons_append, List.nil_append])
      clear c1 c2
      go_enter Try.func41, Try.ntmps41
      go_wp2_with fail
      refine (CD.out _).mono ?_
      rintro _ wd ⟨rfl, hb⟩
      have HZ := Aside0.mk (blk_below (blk_new w (.cells #[.int .i64 sv, .int .i64 fc, .string NM, .string PI, .string TX] 54)) hb)
      have HB := Aside0.mk (below_step (below_alloc (Below.refl w.heap.size w) _) hb)
      clear hb
      have r0 := blk_cell HZ.out 0
      have r1 := blk_cell HZ.out 1
      have r2 := blk_cell HZ.out 2
      have r3 := blk_cell HZ.out 3
      have r4 := blk_cell HZ.out 4
      go_wp2_with fail
      go_ret
      exact ⟨by rw [← HE.out]; rfl, HB.out⟩
    · have d1 := HP.out
      have d2 := HP2.out
      rw [decide_eq_false c2] at d1 d2
      have HE := Aside0.mk (show ((⟨#[60]⟩ : ByteArray) ++ D ++ ⟨#[62]⟩ ++ NM ++ (⟨#[91]⟩ ++ PI ++ ⟨#[93]⟩) ++ ⟨#[58, 32]⟩ ++ TX) = V by
        rw [← HV.out, if_neg c1, if_neg c2, ← H1.out, ← H2.out, ← H3.out, ← H4.out, show (⟨#[60]⟩ : ByteArray) = strOfNums [60] from rfl, show (⟨#[62]⟩ : ByteArray) = strOfNums [62] from rfl, show (⟨#[58, 32]⟩ : ByteArray) = strOfNums [58, 32] from rfl, show (⟨#[91]⟩ : ByteArray) = strOfNums [91] from rfl, show (⟨#[93]⟩ : ByteArray) = strOfNums [93] from rfl]
        simp only [strOf_append, List.append_assoc, List.cons_append, List.nil_append])
      clear c1 c2
      go_enter Try.func41, Try.ntmps41
      go_wp2_with fail
      refine (CD.out _).mono ?_
      rintro _ wd ⟨rfl, hb⟩
      have HZ := Aside0.mk (blk_below (blk_new w (.cells #[.int .i64 sv, .int .i64 fc, .string NM, .string PI, .string TX] 54)) hb)
      have HB := Aside0.mk (below_step (below_alloc (Below.refl w.heap.size w) _) hb)
      clear hb
      have r0 := blk_cell HZ.out 0
      have r1 := blk_cell HZ.out 1
      have r2 := blk_cell HZ.out 2
      have r3 := blk_cell HZ.out 3
      have r4 := blk_cell HZ.out 4
      go_wp2_with fail
      go_ret
      exact ⟨by rw [← HE.out]; rfl, HB.out⟩

set_option maxHeartbeats 8000000 in
set_option maxRecDepth 100000 in
theorem rLine_calls (sv fc : Int) (nm pi tx : List Int) (w : World) (h : 0 ≤ sv ∧ sv ≤ 7) (h2 : 0 ≤ fc ∧ fc ≤ 23) (n0 : nm.length ≤ 1000) (n1 : pi.length ≤ 5000) (n2 : tx.length ≤ 100000) :
    Calls Try.prog 42 #[syV (sv, fc, nm, pi, tx)] w fun e w' => e = .returned (.string (strOfNums (lnL (sv, fc, nm, pi, tx)))) ∧ Below w.heap.size w w' := by
  rw [syV, lnL]
  dsimp only
  have CD := Aside0.mk (fun w => ref_Decimal_calls 19 (8 * fc + sv) w (by omega) (by omega) (by rw [show (10 : Int) ^ (19 + 1) = 100000000000000000000 from rfl]; omega) (by omega))
  obtain ⟨d, hd⟩ : ∃ d, decD 20 (8 * fc + sv) = d := ⟨_, rfl⟩
  have hdl := (decD_len 19 (8 * fc + sv)).1
  rw [show 19 + 1 = 20 from rfl] at hdl
  rw [hd] at CD hdl ⊢
  clear hd
  have HN := Aside0.mk (str_isE nm)
  have HP := Aside0.mk (str_isE pi)
  have HN2 := Aside0.mk (str_isE2 nm)
  have HP2 := Aside0.mk (str_isE2 pi)
  have hs1 := strOf_size nm
  have hs2 := strOf_size pi
  have hs3 := strOf_size tx
  have hs4 := strOf_size d
  obtain ⟨V, hV⟩ : ∃ V, strOfNums (60 :: (d ++ 62 :: bkL nm pi tx)) = V := ⟨_, rfl⟩
  rw [hV]
  rw [bkL] at hV
  have w1 : IntKind.i64.wrap (8 * fc) = 8 * fc := by rw [IntKind.wrap_i64]; omega
  have w2 : IntKind.i64.wrap (8 * fc + sv) = 8 * fc + sv := by rw [IntKind.wrap_i64]; omega
  have w3 : IntKind.u64.wrap (8 * fc + sv) = 8 * fc + sv := by rw [IntKind.wrap_u64]; omega
  have w4 : wrap64 (8 * fc) = 8 * fc := by simp only [wrap64]; omega
  have w5 : wrap64 (8 * fc + sv) = 8 * fc + sv := by simp only [wrap64]; omega
  obtain ⟨NM, hNM⟩ : ∃ V, strOfNums nm = V := ⟨_, rfl⟩
  obtain ⟨PI, hPI⟩ : ∃ V, strOfNums pi = V := ⟨_, rfl⟩
  obtain ⟨TX, hTX⟩ : ∃ V, strOfNums tx = V := ⟨_, rfl⟩
  obtain ⟨D, hD⟩ : ∃ V, strOfNums d = V := ⟨_, rfl⟩
  rw [hNM] at HN HN2 hs1 ⊢
  rw [hPI] at HP HP2 hs2 ⊢
  rw [hTX] at hs3 ⊢
  rw [hD] at CD hs4
  have HV := Aside0.mk hV
  have H1 := Aside0.mk hNM
  have H2 := Aside0.mk hPI
  have H3 := Aside0.mk hTX
  have H4 := Aside0.mk hD
  clear hV hNM hPI hTX hD
  by_cases c1 : nm = []
  · have b1 := HN.out
    have b2 := HN2.out
    rw [decide_eq_true c1] at b1 b2
    have HE := Aside0.mk (show ((⟨#[60]⟩ : ByteArray) ++ D ++ ⟨#[62]⟩ ++  TX) = V by
      rw [← HV.out, if_pos c1, ← H3.out, ← H4.out, show (⟨#[60]⟩ : ByteArray) = strOfNums [60] from rfl, show (⟨#[62]⟩ : ByteArray) = strOfNums [62] from rfl]
      simp only [strOf_append, List.append_assoc, List.cons_append, List.nil_append])
    clear c1
    go_enter Try.func42, Try.ntmps42
    go_wp2_with fail
    refine (CD.out _).mono ?_
    rintro _ wd ⟨rfl, hb⟩
    have HZ := Aside0.mk (blk_below (blk_new w (.cells #[.int .i64 sv, .int .i64 fc, .string NM, .string PI, .string TX] 51)) hb)
    have HB := Aside0.mk (below_step (below_alloc (Below.refl w.heap.size w) _) hb)
    clear hb
    have r0 := blk_cell HZ.out 0
    have r1 := blk_cell HZ.out 1
    have r2 := blk_cell HZ.out 2
    have r3 := blk_cell HZ.out 3
    have r4 := blk_cell HZ.out 4
    go_wp2_with fail
    go_ret
    exact ⟨by rw [← HE.out]; rfl, HB.out⟩
  · have b1 := HN.out
    have b2 := HN2.out
    rw [decide_eq_false c1] at b1 b2
    by_cases c2 : pi = []
    · have d1 := HP.out
      have d2 := HP2.out
      rw [decide_eq_true c2] at d1 d2
      have HE := Aside0.mk (show ((⟨#[60]⟩ : ByteArray) ++ D ++ ⟨#[62]⟩ ++ NM ++ ⟨#[58, 32]⟩ ++ TX) = V by
        rw [← HV.out, if_neg c1, if_pos c2, ← H1.out, ← H3.out, ← H4.out, show (⟨#[60]⟩ : ByteArray) = strOfNums [60] from rfl, show (⟨#[62]⟩ : ByteArray) = strOfNums [62] from rfl, show (⟨#[58, 32]⟩ : ByteArray) = strOfNums [58, 32] from rfl]
        simp only [strOf_append, List.append_assoc, List.cons_append, List.nil_append])
      clear c1 c2
      go_enter Try.func42, Try.ntmps42
      go_wp2_with fail
      refine (CD.out _).mono ?_
      rintro _ wd ⟨rfl, hb⟩
      have HZ := Aside0.mk (blk_below (blk_new w (.cells #[.int .i64 sv, .int .i64 fc, .string NM, .string PI, .string TX] 51)) hb)
      have HB := Aside0.mk (below_step (below_alloc (Below.refl w.heap.size w) _) hb)
      clear hb
      have r0 := blk_cell HZ.out 0
      have r1 := blk_cell HZ.out 1
      have r2 := blk_cell HZ.out 2
      have r3 := blk_cell HZ.out 3
      have r4 := blk_cell HZ.out 4
      go_wp2_with fail
      go_ret
      exact ⟨by rw [← HE.out]; rfl, HB.out⟩
    · have d1 := HP.out
      have d2 := HP2.out
      rw [decide_eq_false c2] at d1 d2
      have HE := Aside0.mk (show ((⟨#[60]⟩ : ByteArray) ++ D ++ ⟨#[62]⟩ ++ NM ++ ⟨#[91]⟩ ++ PI ++ ⟨#[93]⟩ ++ ⟨#[58, 32]⟩ ++ TX) = V by
        rw [← HV.out, if_neg c1, if_neg c2, ← H1.out, ← H2.out, ← H3.out, ← H4.out, show (⟨#[60]⟩ : ByteArray) = strOfNums [60] from rfl, show (⟨#[62]⟩ : ByteArray) = strOfNums [62] from rfl, show (⟨#[58, 32]⟩ : ByteArray) = strOfNums [58, 32] from rfl, show (⟨#[91]⟩ : ByteArray) = strOfNums [91] from rfl, show (⟨#[93]⟩ : ByteArray) = strOfNums [93] from rfl]
        simp only [strOf_append, List.append_assoc, List.cons_append, List.nil_append])
      clear c1 c2
      go_enter Try.func42, Try.ntmps42
      go_wp2_with fail
      refine (CD.out _).mono ?_
      rintro _ wd ⟨rfl, hb⟩
      have HZ := Aside0.mk (blk_below (blk_new w (.cells #[.int .i64 sv, .int .i64 fc, .string NM, .string PI, .string TX] 51)) hb)
      have HB := Aside0.mk (below_step (below_alloc (Below.refl w.heap.size w) _) hb)
      clear hb
      have r0 := blk_cell HZ.out 0
      have r1 := blk_cell HZ.out 1
      have r2 := blk_cell HZ.out 2
      have r3 := blk_cell HZ.out 3
      have r4 := blk_cell HZ.out 4
      go_wp2_with fail
      go_ret
      exact ⟨by rw [← HE.out]; rfl, HB.out⟩

end Go.Proofs.Ytplmdgimodgekaa
