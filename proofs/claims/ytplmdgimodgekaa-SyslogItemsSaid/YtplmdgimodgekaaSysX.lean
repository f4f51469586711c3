/- Syslog: which messages are right, both sides. -/
import Derived.Test.YtplmdgimodgekaaSysW
import Derived.Test.YtplmdgimodgekaaConvB
namespace Go.Proofs.Ytplmdgimodgekaa
open Go.RowKit Go.Proofs.YtplmdgimodgekaaW.PrintWords Go.Proofs.YtplmdgimodgekaaW.PrintLast Go.Proofs.YtplmdgimodgekaaW.PrintMore
attribute [local go_sem] max2_int min2_int max_two min_two max_three min_three max_four min_four   -- for this text's walks alone
set_option linter.unusedVariables false
set_option linter.unusedSimpArgs false
instance : DecidablePred riP := fun m => by unfold riP; infer_instance
theorem syV_inj {p f : Int} {a b c : List Int} {m : Int × Int × List Int × List Int × List Int} (ha : isB a) (hb : isB b) (hc : isB c) (h1 : isB m.2.2.1) (h2 : isB m.2.2.2.1) (h3 : isB m.2.2.2.2) :
    (decide (m.1 = p) && (decide (m.2.1 = f) && (((strOfNums m.2.2.1).toList == (strOfNums a).toList) && (((strOfNums m.2.2.2.1).toList == (strOfNums b).toList) && ((strOfNums m.2.2.2.2).toList == (strOfNums c).toList))))) = decide (m = (p, f, a, b, c)) := by
  rw [same_iff h1 ha, same_iff h2 hb, same_iff h3 hc]
  obtain ⟨m0, m1, m2, m3, m4⟩ := m
  simp only [Prod.mk.injEq, Bool.decide_and]
theorem decD_isB20 {n : Int} (h : 0 ≤ n) : isB (decD 20 n) := decD_isB 20 n h
theorem isB_cons {c : Int} {l : List Int} (hc : 0 ≤ c ∧ c ≤ 255) (h : isB l) : isB (c :: l) := fun x hx => by
  rcases List.mem_cons.1 hx with rfl | hx
  · exact hc
  · exact h x hx
theorem bkL_isB {nm pi tx : List Int} (h1 : isB nm) (h2 : isB pi) (h3 : isB tx) : isB (bkL nm pi tx) := by
  rw [bkL]
  split
  · exact h3
  · refine h1.app (isB.app ?_ (isB_cons (by decide) (isB_cons (by decide) h3)))
    split
    · intro x hx; cases hx
    · exact isB_cons (by decide) (h2.app (isB_cons (by decide) (fun x hx => by cases hx)))
theorem lnL_isB {p f : Int} {nm pi tx : List Int} (hp : 0 ≤ p) (hf : 0 ≤ f) (h1 : isB nm) (h2 : isB pi) (h3 : isB tx) : isB (lnL (p, f, nm, pi, tx)) := by
  rw [lnL]
  exact isB_cons (by decide) ((decD_isB20 (by dsimp only; omega)).app (isB_cons (by decide) (bkL_isB h1 h2 h3)))
theorem piP_isB1 {l : List Int} (hl : isB l) : isB (piP l).1 := by
  rw [piP]
  split
  · exact (cutI_isB (offI_isB hl 91) 93).1
  · intro x hx; cases hx
theorem syP_isB {l : List Int} (hl : isB l) : isB (syP l).2.2.1 ∧ isB (syP l).2.2.2.1 ∧ isB (syP l).2.2.2.2 := by
  have h := (frL_isB hl).1
  rw [syP]
  split
  · exact ⟨(fun x hx => by cases hx), (fun x hx => by cases hx), h⟩
  · exact ⟨h.take _, piP_isB1 (h.drop _), offI_isB (offI_isB (piP_isB (h.drop _)) 58) 32⟩
theorem eq_ifs {α : Type} {m0 p m1 f : Int} {a b c a' b' c' : List UInt8} {V : Bool} (h : (decide (m0 = p) && (decide (m1 = f) && ((a == a') && ((b == b') && (c == c'))))) = V) (F : Bool → α) :
    (if m0 = p then (if m1 = f then (if a = a' then (if b = b' then (if c = c' then F true else F false) else F false) else F false) else F false) else F false) = F V := by
  subst h
  by_cases h0 : m0 = p
  · by_cases h1 : m1 = f
    · by_cases h2 : a = a'
      · by_cases h3 : b = b'
        · by_cases h4 : c = c'
          · simp [h0, h1, h2, h3, h4]
          · simp [h0, h1, h2, h3, h4, beq_eq_false_iff_ne.2 h4]
        · simp [h0, h1, h2, h3, beq_eq_false_iff_ne.2 h3]
      · simp [h0, h1, h2, beq_eq_false_iff_ne.2 h2]
    · simp [h0, h1]
  · simp [h0]
theorem piP_len1 (l : List Int) : (piP l).1.length ≤ l.length := by
  rw [piP]
  split
  · exact Nat.le_trans (cutI_len _ 93).1 (offI_len l 91)
  · simp
theorem frL_len (l : List Int) : (frL l).2.2.length ≤ l.length := by
  rw [frL]
  cases h : frP l with
  | none => exact Nat.le_refl _
  | some x =>
    rw [frP] at h
    have h2 := offI_len l 60
    have h4 := cutI_len (offI l 60).1 62
    split at h
    · split at h
      · split at h
        · injection h with h; subst h; exact Nat.le_trans h4.2 h2
        · cases h
      · cases h
    · cases h
theorem syP_len (l : List Int) : (syP l).2.2.2.1.length ≤ l.length ∧ (syP l).2.2.2.2.length ≤ l.length := by
  have h := frL_len l
  rw [syP]
  split
  · exact ⟨Nat.zero_le _, h⟩
  · have h0 : ((frL l).2.2.drop (tgN (frL l).2.2)).length ≤ l.length := by rw [List.length_drop]; omega
    exact ⟨Nat.le_trans (piP_len1 _) h0, Nat.le_trans (offI_len _ 32) (Nat.le_trans (offI_len _ 58) (Nat.le_trans (piP_len _) h0))⟩

set_option maxHeartbeats 8000000 in
set_option maxRecDepth 100000 in
theorem sRight_far (p f : Int) (NM PI TX : ByteArray) (n : Nat) (w : World) (hs : NM.size = n) (hc : p < 0 ∨ 7 < p ∨ f < 0 ∨ 23 < f ∨ 48 < n) : Calls Try.prog 40 #[.agg #[.int .i64 p, .int .i64 f, .string NM, .string PI, .string TX]] w fun e w' => e = .returned (.bool false) ∧ Below w.heap.size w w' := by
  by_cases c0 : p < 0
  · clear hc
    go_enter Try.func40, Try.ntmps40
    go_wp2_with fail
    go_ret
    exact ⟨rfl, below_alloc (Below.refl _ _) _⟩
  by_cases c1 : 7 < p
  · clear hc
    go_enter Try.func40, Try.ntmps40
    go_wp2_with fail
    go_ret
    exact ⟨rfl, below_alloc (Below.refl _ _) _⟩
  by_cases c2 : f < 0
  · clear hc
    go_enter Try.func40, Try.ntmps40
    go_wp2_with fail
    go_ret
    exact ⟨rfl, below_alloc (Below.refl _ _) _⟩
  by_cases c3 : 23 < f
  · clear hc
    go_enter Try.func40, Try.ntmps40
    go_wp2_with fail
    go_ret
    exact ⟨rfl, below_alloc (Below.refl _ _) _⟩
  have c4 : 48 < n := by omega
  clear hc
  go_enter Try.func40, Try.ntmps40
  go_wp2_with fail
  go_ret
  exact ⟨rfl, below_alloc (Below.refl _ _) _⟩
set_option maxHeartbeats 8000000 in
set_option maxRecDepth 100000 in
theorem sRight_let (p f : Int) (nm pi tx : List Int) (w : World) (hb : isB nm) (hp : 0 ≤ p ∧ p ≤ 7) (hf : 0 ≤ f ∧ f ≤ 23) (hl : nm.length ≤ 48) (hk : tw namB nm < nm.length) : Calls Try.prog 40 #[syV (p, f, nm, pi, tx)] w fun e w' => e = .returned (.bool false) ∧ Below w.heap.size w w' := by
  have hs1 := strOf_size nm
  rw [syV]
  dsimp only
  obtain ⟨PI, hPI⟩ : ∃ V, strOfNums pi = V := ⟨_, rfl⟩
  obtain ⟨TX, hTX⟩ : ∃ V, strOfNums tx = V := ⟨_, rfl⟩
  have HSB := Aside0.mk hb
  have HA := Aside0.mk (tw_all namB nm)
  have HE := Aside0.mk (tw_end namB nm)
  rw [hPI, hTX]
  clear hb
  go_enter Try.func40, Try.ntmps40
  go_upto_region 3 with fail
  obtain ⟨wz, hwz⟩ : ∃ wz, w.alloc (.cells #[.int .i64 p, .int .i64 f, .string (strOfNums nm), .string PI, .string TX] 54) = wz := ⟨_, rfl⟩
  have HZ := Aside0.mk (show wz.heap[w.heap.size]? = some (.cells #[.int .i64 p, .int .i64 f, .string (strOfNums nm), .string PI, .string TX] 54 (0, 0)) by rw [← hwz]; exact blk_new _ _)
  have HB := Aside0.mk (show Below w.heap.size w wz by rw [← hwz]; exact below_alloc (Below.refl _ _) _)
  rw [hwz]
  clear hwz
  have HZ0 := HZ
  obtain ⟨ad, cp, wb, hcv, hcp, hcl, hbb⟩ := conv_bytes nm HSB.out (by omega) wz
  have HCL := Aside0.mk hcl
  replace HB := Aside0.mk (below_step HB.out hbb)
  replace HZ := Aside0.mk (blk_below HZ.out hbb)
  have q2 := blk_cell HZ0.out 2
  clear hcl hbb
  obtain ⟨n, hn⟩ : ∃ n, nm.length = n := ⟨_, rfl⟩
  have HN := Aside0.mk hn
  obtain ⟨K, hK⟩ : ∃ K, tw namB nm = K := ⟨_, rfl⟩
  rw [hK, hn] at hk
  rw [hK] at HA HE
  rw [hn] at hs1 hcv hcp HCL HE
  have r0 := blk_cell HZ.out 0
  have r1 := blk_cell HZ.out 1
  have r2 := blk_cell HZ.out 2
  have r3 := blk_cell HZ.out 3
  have r4 := blk_cell HZ.out 4
  obtain ⟨NM, hNM⟩ : ∃ N, strOfNums nm = N := ⟨_, rfl⟩
  rw [hNM] at hs1 HZ HZ0 hcv q2 r0 r1 r2 r3 r4
  clear hK hPI hTX hNM
  rw [hn] at hl
  clear hn
  go_wp2_with fail
  go_loop [35] (fun v6 => ∃ k : Nat, k ≤ K ∧ v6 = .int .i64 k) (fun v6 => K - (intOf v6).toNat)
  case atStart => exact ⟨0, by omega, rfl⟩
  case round =>
    obtain ⟨k, hk2, rfl⟩ := hrel
    have hix := HCL.out k (by omega)
    have hxb := HSB.out.getD k
    by_cases c1 : k < K
    · have hx := HA.out k c1
      obtain ⟨x, ex⟩ : ∃ x, nm.getD k 0 = x := ⟨_, rfl⟩
      rw [ex] at hix hx hxb
      clear ex
      have CN := Aside0.mk (fun w => naming_calls x w hxb.1 hxb.2)
      rw [hx] at CN
      clear hx
      go_wp2_with fail
      refine (CN.out _).mono ?_
      rintro _ wn ⟨rfl, rfl⟩
      go_wp2_with fail
      go_round
      case rel => exact ⟨k + 1, by omega, by go_num⟩
      case measure => simp [intOf] <;> omega
    · obtain rfl : k = K := by omega
      have hx := HE.out hk
      obtain ⟨x, ex⟩ : ∃ x, nm.getD k 0 = x := ⟨_, rfl⟩
      rw [ex] at hix hx hxb
      clear ex
      have CN := Aside0.mk (fun w => naming_calls x w hxb.1 hxb.2)
      rw [hx] at CN
      clear hx
      go_wp2_with fail
      refine (CN.out _).mono ?_
      rintro _ wn ⟨rfl, rfl⟩
      go_wp2_with fail
      go_ret
      exact ⟨rfl, HB.out⟩
set_option maxHeartbeats 8000000 in
set_option maxRecDepth 100000 in
theorem sRight_near (p f : Int) (nm pi tx : List Int) (w : World) (hb : isB nm) (hb2 : isB pi) (hb3 : isB tx) (hp : 0 ≤ p ∧ p ≤ 7) (hf : 0 ≤ f ∧ f ≤ 23) (hl : nm.length ≤ 48) (hpl : pi.length ≤ 5000) (htl : tx.length ≤ 5000) (hk : tw namB nm = nm.length) : Calls Try.prog 40 #[syV (p, f, nm, pi, tx)] w fun e w' => e = .returned (.bool (decide (riP (p, f, nm, pi, tx)))) ∧ Below w.heap.size w w' := by
  obtain ⟨V, hV⟩ : ∃ V, decide (riP (p, f, nm, pi, tx)) = V := ⟨_, rfl⟩
  rw [hV]
  have hri : riP (p, f, nm, pi, tx) ↔ (pi = [] ∨ (numG pi).isSome = true ∧ nm ≠ []) ∧ (nm ≠ [] ∨ syP (lnL (p, f, nm, pi, tx)) = (p, f, nm, pi, tx)) := by
    rw [riP]
    exact ⟨fun h => h.2.2, fun h => ⟨⟨hp.1, hp.2, hf.1, hf.2, hl⟩, hk, h⟩⟩
  have HV := Aside0.mk (show V = decide ((pi = [] ∨ (numG pi).isSome = true ∧ nm ≠ []) ∧ (nm ≠ [] ∨ syP (lnL (p, f, nm, pi, tx)) = (p, f, nm, pi, tx))) by rw [← hV]; exact decide_eq_decide.2 hri)
  clear hV hri
  have HNE := Aside0.mk (str_isE nm)
  have HNE2 := Aside0.mk (str_isE2 nm)
  have HPE := Aside0.mk (str_isE pi)
  have HPE2 := Aside0.mk (str_isE2 pi)
  have CQ := Aside0.mk (fun w => eNumber_calls pi w hb2 (by omega))
  have CL := Aside0.mk (fun w => sLine_calls p f nm pi tx w hp hf (by omega) (by omega) (by omega))
  have HSB2 := Aside0.mk hb2
  have HSB3 := Aside0.mk hb3
  rw [nuV] at CQ
  obtain ⟨q, hq⟩ : ∃ n, (numG pi).getD 0 = n := ⟨_, rfl⟩
  obtain ⟨ok, hok⟩ : ∃ n, (numG pi).isSome = n := ⟨_, rfl⟩
  rw [hq, hok] at CQ
  rw [hok] at HV
  clear hq hok
  have hs1 := strOf_size nm
  rw [syV]
  dsimp only
  obtain ⟨PI, hPI⟩ : ∃ V, strOfNums pi = V := ⟨_, rfl⟩
  obtain ⟨TX, hTX⟩ : ∃ V, strOfNums tx = V := ⟨_, rfl⟩
  have HSB := Aside0.mk hb
  have HA := Aside0.mk (tw_all namB nm)
  have HE := Aside0.mk (tw_end namB nm)
  rw [hPI, hTX]
  clear hb
  go_enter Try.func40, Try.ntmps40
  go_upto_region 3 with fail
  obtain ⟨wz, hwz⟩ : ∃ wz, w.alloc (.cells #[.int .i64 p, .int .i64 f, .string (strOfNums nm), .string PI, .string TX] 54) = wz := ⟨_, rfl⟩
  have HZ := Aside0.mk (show wz.heap[w.heap.size]? = some (.cells #[.int .i64 p, .int .i64 f, .string (strOfNums nm), .string PI, .string TX] 54 (0, 0)) by rw [← hwz]; exact blk_new _ _)
  have HB := Aside0.mk (show Below w.heap.size w wz by rw [← hwz]; exact below_alloc (Below.refl _ _) _)
  rw [hwz]
  clear hwz
  have HZ0 := HZ
  obtain ⟨ad, cp, wb, hcv, hcp, hcl, hbb⟩ := conv_bytes nm HSB.out (by omega) wz
  have HCL := Aside0.mk hcl
  replace HB := Aside0.mk (below_step HB.out hbb)
  replace HZ := Aside0.mk (blk_below HZ.out hbb)
  have q2 := blk_cell HZ0.out 2
  clear hcl hbb
  obtain ⟨n, hn⟩ : ∃ n, nm.length = n := ⟨_, rfl⟩
  have HN := Aside0.mk hn
  rw [hk] at HA
  rw [hn] at hs1 HA hcv hcp HCL
  have r0 := blk_cell HZ.out 0
  have r1 := blk_cell HZ.out 1
  have r2 := blk_cell HZ.out 2
  have r3 := blk_cell HZ.out 3
  have r4 := blk_cell HZ.out 4
  obtain ⟨NM, hNM⟩ : ∃ N, strOfNums nm = N := ⟨_, rfl⟩
  rw [hNM] at hs1 HNE HNE2 HZ HZ0 hcv q2 r0 r1 r2 r3 r4
  rw [hPI] at CQ HPE HPE2
  rw [syV] at CL
  dsimp only at CL
  rw [hNM, hPI, hTX] at CL
  have HNM := Aside0.mk hNM
  have HPI := Aside0.mk hPI
  have HTX := Aside0.mk hTX
  clear hk hPI hTX hNM HE hb2 hb3
  rw [hn] at hl
  clear hn
  go_upto_block 0 with (fail)
  go_cut [] (fun wx => wb = wx)
  case first =>
    go_wp2_with fail
    go_loop [35] (fun v6 => ∃ k : Nat, k ≤ n ∧ v6 = .int .i64 k) (fun v6 => n - (intOf v6).toNat)
    case atStart => exact ⟨0, by omega, rfl⟩
    case round =>
      obtain ⟨k, hk2, rfl⟩ := hrel
      by_cases c1 : k < n
      · have hix := HCL.out k c1
        have hxb := HSB.out.getD k
        have hx := HA.out k c1
        obtain ⟨x, ex⟩ : ∃ x, nm.getD k 0 = x := ⟨_, rfl⟩
        rw [ex] at hix hx hxb
        clear ex
        have CN := Aside0.mk (fun w => naming_calls x w hxb.1 hxb.2)
        rw [hx] at CN
        clear hx
        go_wp2_with fail
        refine (CN.out _).mono ?_
        rintro _ wn ⟨rfl, rfl⟩
        go_wp2_with fail
        go_round
        case rel => exact ⟨k + 1, by omega, by go_num⟩
        case measure => simp [intOf] <;> omega
      · obtain rfl : k = n := by omega
        go_wp2_with fail
        go_meet
        rfl
  case rest =>
  obtain rfl := hcut
  go_wp2_with fail
  refine (CQ.out _).mono ?_
  rintro _ wq ⟨rfl, hb⟩
  replace HZ := Aside0.mk (blk_below HZ.out hb)
  replace HB := Aside0.mk (below_step HB.out hb)
  clear hb r0 r1 r2 r3 r4
  have r0 := blk_cell HZ.out 0
  have r1 := blk_cell HZ.out 1
  have r2 := blk_cell HZ.out 2
  have r3 := blk_cell HZ.out 3
  have r4 := blk_cell HZ.out 4
  have hpe := HPE.out
  have hpe2 := HPE2.out
  have hne := HNE.out
  have hne2 := HNE2.out
  by_cases c1 : pi = []
  · rw [decide_eq_true c1] at hpe hpe2
    by_cases c2 : nm = []
    · rw [decide_eq_true c2] at hne hne2
      have HV2 := Aside0.mk (show V = decide (syP (lnL (p, f, nm, pi, tx)) = (p, f, nm, pi, tx)) by rw [HV.out]; simp [c1, c2])
      obtain ⟨L, hL⟩ : ∃ L, lnL (p, f, nm, pi, tx) = L := ⟨_, rfl⟩
      have hlb : isB L := by rw [← hL]; exact lnL_isB (by omega) (by omega) HSB.out HSB2.out HSB3.out
      have hll : L.length ≤ 10000 := by
        rw [← hL, lnL, c1, c2]
        dsimp only
        have := (decD_len 19 (8 * f + p)).1
        rw [show 19 + 1 = 20 from rfl] at this
        rw [bkL, if_pos rfl]
        simp only [List.length_cons, List.length_append]
        omega
      rw [hL] at CL HV2
      have CP := Aside0.mk (fun w => sParse_calls L w hlb (by omega))
      have hmb := syP_isB hlb
      obtain ⟨M, hM⟩ : ∃ M, syP L = M := ⟨_, rfl⟩
      rw [hM] at CP HV2 hmb
      have HEQ := Aside0.mk (syV_inj (p := p) (f := f) HSB.out HSB2.out HSB3.out hmb.1 hmb.2.1 hmb.2.2)
      rw [← HV2.out, HNM.out, HPI.out, HTX.out] at HEQ
      clear hL hM hlb hll hmb
      obtain ⟨m0, m1, m2, m3, m4⟩ := M
      rw [syV] at CP
      dsimp only at CP HEQ
      obtain ⟨S, hS⟩ : ∃ S, strOfNums L = S := ⟨_, rfl⟩
      obtain ⟨S2, hS2⟩ : ∃ S, strOfNums m2 = S := ⟨_, rfl⟩
      obtain ⟨S3, hS3⟩ : ∃ S, strOfNums m3 = S := ⟨_, rfl⟩
      obtain ⟨S4, hS4⟩ : ∃ S, strOfNums m4 = S := ⟨_, rfl⟩
      rw [hS] at CL CP
      rw [hS2, hS3, hS4] at CP HEQ
      have heq : ∀ W' : World, (if m0 = p then (if m1 = f then (if S2.toList = NM.toList then (if S3.toList = PI.toList then (if S4.toList = TX.toList then Result.ok (Next.value (Value.bool true)) W' else Result.ok (Next.value (Value.bool false)) W') else Result.ok (Next.value (Value.bool false)) W') else Result.ok (Next.value (Value.bool false)) W') else Result.ok (Next.value (Value.bool false)) W') else Result.ok (Next.value (Value.bool false)) W') = Result.ok (Next.value (Value.bool V)) W' := fun W' => eq_ifs HEQ.out (fun b => Result.ok (Next.value (Value.bool b)) W')
      clear hS hS2 hS3 hS4 c1 c2 hp hf
      go_wp2_with fail
      refine start_ (n := 11) (S := fun w' => w'.cell? ⟨w.heap.size, 0, none⟩ = some (.int .i64 p) ∧ w'.cell? ⟨w.heap.size, 1, none⟩ = some (.int .i64 f) ∧ w'.cell? ⟨w.heap.size, 2, none⟩ = some (.string NM) ∧ w'.cell? ⟨w.heap.size, 3, none⟩ = some (.string PI) ∧ w'.cell? ⟨w.heap.size, 4, none⟩ = some (.string TX)) (ds := []) #[false, false, false, false, false, false, false, false, false, false, false] (by kernel_rfl) rfl rfl ⟨r0, r1, r2, r3, r4⟩ (fun hHeld => ?_)
      refine pure_ (i := 0) (N := some 61) (v := ?_) (a' := ?_) #[true, false, false, false, false, false, false, false, false, false, false] rfl rfl (by kernel_rfl) (fun _ _ _ h => h) (Or.inl ⟨by rfl, ?_⟩) ?_ ?_
      rotate_left
      · intro w'
        go_simp
        with_reducible rfl
      rotate_left
      · simp only [Act.put, List.setIfInBounds_toArray, List.set_cons_zero, List.set_cons_succ, i64_w, i32_w]
        rfl
      refine take_ (i := 1) (N := some 62) (v := ?_) (a' := ?_) #[true, true, false, false, false, false, false, false, false, false, false] rfl rfl (by kernel_rfl) (fun _ _ _ h => h) (Or.inl ⟨by rfl, ?_⟩) hHeld ?_ ?_
      rotate_left
      · rintro w' ⟨s0, s1, s2, s3, s4⟩
        go_simp
        with_reducible rfl
      rotate_left
      · simp only [Act.put, List.setIfInBounds_toArray, List.set_cons_zero, List.set_cons_succ, i64_w, i32_w]
        rfl
      refine pure_ (i := 2) (N := some 63) (v := ?_) (a' := ?_) #[true, true, true, false, false, false, false, false, false, false, false] rfl rfl (by kernel_rfl) (fun _ _ _ h => h) (Or.inl ⟨by rfl, ?_⟩) ?_ ?_
      rotate_left
      · intro w'
        go_simp
        with_reducible rfl
      rotate_left
      · simp only [Act.put, List.setIfInBounds_toArray, List.set_cons_zero, List.set_cons_succ, i64_w, i32_w]
        rfl
      refine pure_ (i := 3) (N := some 64) (v := ?_) (a' := ?_) #[true, true, true, true, false, false, false, false, false, false, false] rfl rfl (by kernel_rfl) (fun _ _ _ h => h) (Or.inl ⟨by rfl, ?_⟩) ?_ ?_
      rotate_left
      · intro w'
        go_simp
        with_reducible rfl
      rotate_left
      · simp only [Act.put, List.setIfInBounds_toArray, List.set_cons_zero, List.set_cons_succ, i64_w, i32_w]
        rfl
      refine take_ (i := 4) (N := some 65) (v := ?_) (a' := ?_) #[true, true, true, true, true, false, false, false, false, false, false] rfl rfl (by kernel_rfl) (fun _ _ _ h => h) (Or.inl ⟨by rfl, ?_⟩) hHeld ?_ ?_
      rotate_left
      · rintro w' ⟨s0, s1, s2, s3, s4⟩
        go_simp
        with_reducible rfl
      rotate_left
      · simp only [Act.put, List.setIfInBounds_toArray, List.set_cons_zero, List.set_cons_succ, i64_w, i32_w]
        rfl
      refine take_ (i := 7) (N := some 68) (v := ?_) (a' := ?_) #[true, true, true, true, true, false, false, true, false, false, false] rfl rfl (by kernel_rfl) (fun _ _ _ h => h) (Or.inl ⟨by rfl, ?_⟩) hHeld ?_ ?_
      rotate_left
      · rintro w' ⟨s0, s1, s2, s3, s4⟩
        go_simp
        with_reducible rfl
      rotate_left
      · simp only [Act.put, List.setIfInBounds_toArray, List.set_cons_zero, List.set_cons_succ, i64_w, i32_w]
        rfl
      refine one_ (i := 5) (N := some 66) #[true, true, true, true, true, true, false, true, false, false, false] rfl rfl (by kernel_rfl) (by decide) (fun K hK => ?_)
      refine goes_ Try.func41 (by kernel_rfl) rfl #[.agg #[.int .i64 p, .int .i64 f, .string NM, .string PI, .string TX]] (by rfl) rfl rfl (by (try simp only [List.map_toArray, List.map_cons, List.map_nil]); first | done | rfl) ?_
      with_reducible refine (CL.out _).mono ?_
      rintro e w1 ⟨rfl, hb1⟩
      refine ⟨_, rfl, ?_⟩
      refine hK.out _ _ ⟨(pw_cell_below hb1 hHeld.1), (pw_cell_below hb1 hHeld.2.1), (pw_cell_below hb1 hHeld.2.2.1), (pw_cell_below hb1 hHeld.2.2.2.1), (pw_cell_below hb1 hHeld.2.2.2.2)⟩ (fun hHeld => ?_)
      clear hK K
      refine norm_ (a' := ?_) ?_ ?_
      rotate_left
      · show Act.put _ (some 66) _ = _
        simp only [Act.put, List.setIfInBounds_toArray, List.set_cons_zero, List.set_cons_succ, i64_w, i32_w]
        rfl
      refine one_ (i := 6) (N := some 67) #[true, true, true, true, true, true, true, true, false, false, false] rfl rfl (by kernel_rfl) (by decide) (fun K hK => ?_)
      refine goes_ Try.func38 (by kernel_rfl) rfl #[.string S] (by rfl) rfl rfl (by (try simp only [List.map_toArray, List.map_cons, List.map_nil]); first | done | rfl) ?_
      with_reducible refine (CP.out _).mono ?_
      rintro e w2 ⟨rfl, hb2⟩
      refine ⟨_, rfl, ?_⟩
      refine hK.out _ _ ⟨(pw_cell_below hb2 hHeld.1), (pw_cell_below hb2 hHeld.2.1), (pw_cell_below hb2 hHeld.2.2.1), (pw_cell_below hb2 hHeld.2.2.2.1), (pw_cell_below hb2 hHeld.2.2.2.2)⟩ (fun hHeld => ?_)
      clear hK K
      refine norm_ (a' := ?_) ?_ ?_
      rotate_left
      · show Act.put _ (some 67) _ = _
        simp only [Act.put, List.setIfInBounds_toArray, List.set_cons_zero, List.set_cons_succ, i64_w, i32_w]
        rfl
      refine pure_ (i := 8) (N := some 69) (v := ?_) (a' := ?_) #[true, true, true, true, true, true, true, true, true, false, false] rfl rfl (by kernel_rfl) (fun _ _ _ h => h) (Or.inl ⟨by rfl, ?_⟩) ?_ ?_
      rotate_left
      · intro w'
        go_simp
        with_reducible rfl
      rotate_left
      · simp only [Act.put, List.setIfInBounds_toArray, List.set_cons_zero, List.set_cons_succ, i64_w, i32_w]
        rfl
      refine pure_ (i := 9) (N := some 70) (v := ?_) (a' := ?_) #[true, true, true, true, true, true, true, true, true, true, false] rfl rfl (by kernel_rfl) (fun _ _ _ h => h) (Or.inl ⟨by rfl, ?_⟩) ?_ ?_
      rotate_left
      · intro w'
        go_simp
        with_reducible rfl
      rotate_left
      · simp only [Act.put, List.setIfInBounds_toArray, List.set_cons_zero, List.set_cons_succ, i64_w, i32_w]
        rfl
      refine pure_ (i := 10) (N := some 2) (v := ?_) (a' := ?_) #[true, true, true, true, true, true, true, true, true, true, true] rfl rfl (by kernel_rfl) (fun _ _ _ h => h) (Or.inl ⟨by rfl, ?_⟩) ?_ ?_
      rotate_left
      · intro w'
        go_simp
        with_reducible rfl
      rotate_left
      · simp only [Act.put, List.setIfInBounds_toArray, List.set_cons_zero, List.set_cons_succ, i64_w, i32_w]
        rfl
      refine done_ (by kernel_rfl) ?_
      have HB9 := Aside0.mk (below_step (below_step (below_drew HB.out) hb1) hb2)
      clear hb1 hb2
      go_wp2_with fail
      go_ret
      exact ⟨rfl, HB9.out⟩
    · rw [decide_eq_false c2] at hne hne2
      obtain rfl : V = true := by rw [HV.out]; simp [c1, c2]
      clear c1 c2 hp hf
      go_wp2_with fail
      go_quiet (fail)
      go_wp2_with fail
      trace_state
      go_ret
      exact ⟨rfl, pw_below_drewN HB.out _⟩
  · rw [decide_eq_false c1] at hpe hpe2
    cases ok with
    | false =>
      obtain rfl : V = false := by rw [HV.out]; simp [c1]
      clear c1 hp hf
      go_wp2_with fail
      go_ret
      exact ⟨rfl, HB.out⟩
    | true =>
      by_cases c2 : nm = []
      · rw [decide_eq_true c2] at hne hne2
        obtain rfl : V = false := by rw [HV.out]; simp [c1, c2]
        clear c1 c2 hp hf
        go_wp2_with fail
        go_ret
        exact ⟨rfl, HB.out⟩
      · rw [decide_eq_false c2] at hne hne2
        obtain rfl : V = true := by rw [HV.out]; simp [c1, c2]
        clear c1 c2 hp hf
        go_wp2_with fail
        go_quiet (fail)
        go_wp2_with fail
        go_ret
        exact ⟨rfl, pw_below_drewN HB.out _⟩
theorem sRight_calls (p f : Int) (nm pi tx : List Int) (w : World) (hb : isB nm) (hb2 : isB pi) (hb3 : isB tx) (hpl : pi.length ≤ 5000) (htl : tx.length ≤ 5000) :
    Calls Try.prog 40 #[syV (p, f, nm, pi, tx)] w fun e w' => e = .returned (.bool (decide (riP (p, f, nm, pi, tx)))) ∧ Below w.heap.size w w' := by
  by_cases h : p < 0 ∨ 7 < p ∨ f < 0 ∨ 23 < f ∨ 48 < nm.length
  · rw [decide_eq_false (fun hh : riP (p, f, nm, pi, tx) => by have := hh.1; dsimp only at this; omega)]
    exact sRight_far p f _ _ _ _ w (strOf_size nm) h
  · by_cases hk : tw namB nm < nm.length
    · rw [decide_eq_false (fun hh : riP (p, f, nm, pi, tx) => by have := hh.2.1; dsimp only at this; omega)]
      exact sRight_let p f nm pi tx w hb (by omega) (by omega) (by omega) hk
    · exact sRight_near p f nm pi tx w hb hb2 hb3 (by omega) (by omega) (by omega) hpl htl (by have := tw_le namB nm; omega)

set_option maxHeartbeats 8000000 in
set_option maxRecDepth 100000 in
theorem rRight_far (p f : Int) (NM PI TX : ByteArray) (n : Nat) (w : World) (hs : NM.size = n) (hc : p < 0 ∨ 7 < p ∨ f < 0 ∨ 23 < f ∨ 48 < n) : Calls Try.prog 32 #[.agg #[.int .i64 p, .int .i64 f, .string NM, .string PI, .string TX]] w fun e w' => e = .returned (.bool false) ∧ Below w.heap.size w w' := by
  by_cases c0 : p < 0
  · clear hc
    go_enter Try.func32, Try.ntmps32
    go_wp2_with fail
    go_ret
    exact ⟨rfl, below_alloc (Below.refl _ _) _⟩
  by_cases c1 : 7 < p
  · clear hc
    go_enter Try.func32, Try.ntmps32
    go_wp2_with fail
    go_ret
    exact ⟨rfl, below_alloc (Below.refl _ _) _⟩
  by_cases c2 : f < 0
  · clear hc
    go_enter Try.func32, Try.ntmps32
    go_wp2_with fail
    go_ret
    exact ⟨rfl, below_alloc (Below.refl _ _) _⟩
  by_cases c3 : 23 < f
  · clear hc
    go_enter Try.func32, Try.ntmps32
    go_wp2_with fail
    go_ret
    exact ⟨rfl, below_alloc (Below.refl _ _) _⟩
  have c4 : 48 < n := by omega
  clear hc
  go_enter Try.func32, Try.ntmps32
  go_wp2_with fail
  go_ret
  exact ⟨rfl, below_alloc (Below.refl _ _) _⟩
set_option maxHeartbeats 8000000 in
set_option maxRecDepth 100000 in
theorem rRight_let (p f : Int) (nm pi tx : List Int) (w : World) (hb : isB nm) (hp : 0 ≤ p ∧ p ≤ 7) (hf : 0 ≤ f ∧ f ≤ 23) (hl : nm.length ≤ 48) (hk : tw namB nm < nm.length) : Calls Try.prog 32 #[syV (p, f, nm, pi, tx)] w fun e w' => e = .returned (.bool false) ∧ Below w.heap.size w w' := by
  have hs1 := strOf_size nm
  rw [syV]
  dsimp only
  obtain ⟨PI, hPI⟩ : ∃ V, strOfNums pi = V := ⟨_, rfl⟩
  obtain ⟨TX, hTX⟩ : ∃ V, strOfNums tx = V := ⟨_, rfl⟩
  have HSB := Aside0.mk hb
  have HA := Aside0.mk (tw_all namB nm)
  have HE := Aside0.mk (tw_end namB nm)
  rw [hPI, hTX]
  clear hb
  go_enter Try.func32, Try.ntmps32
  go_upto_region 3 with fail
  obtain ⟨wz, hwz⟩ : ∃ wz, w.alloc (.cells #[.int .i64 p, .int .i64 f, .string (strOfNums nm), .string PI, .string TX] 51) = wz := ⟨_, rfl⟩
  have HZ := Aside0.mk (show wz.heap[w.heap.size]? = some (.cells #[.int .i64 p, .int .i64 f, .string (strOfNums nm), .string PI, .string TX] 51 (0, 0)) by rw [← hwz]; exact blk_new _ _)
  have HB := Aside0.mk (show Below w.heap.size w wz by rw [← hwz]; exact below_alloc (Below.refl _ _) _)
  rw [hwz]
  clear hwz
  have HI := Aside0.mk (fun (k : Nat) (h : k < nm.length) => str_at nm HSB.out k k rfl h)
  obtain ⟨n, hn⟩ : ∃ n, nm.length = n := ⟨_, rfl⟩
  have HN := Aside0.mk hn
  obtain ⟨K, hK⟩ : ∃ K, tw namB nm = K := ⟨_, rfl⟩
  rw [hK, hn] at hk
  rw [hK] at HA HE
  rw [hn] at hs1 HI HE
  have r0 := blk_cell HZ.out 0
  have r1 := blk_cell HZ.out 1
  have r2 := blk_cell HZ.out 2
  have r3 := blk_cell HZ.out 3
  have r4 := blk_cell HZ.out 4
  obtain ⟨NM, hNM⟩ : ∃ N, strOfNums nm = N := ⟨_, rfl⟩
  rw [hNM] at hs1 HZ r0 r1 r2 r3 r4 HI
  clear hK hPI hTX hNM
  rw [hn] at hl
  clear hn
  go_wp2_with fail
  go_loop [3] (fun v6 => ∃ k : Nat, k ≤ K ∧ v6 = .int .i64 k) (fun v6 => K - (intOf v6).toNat)
  case atStart => exact ⟨0, by omega, rfl⟩
  case round =>
    obtain ⟨k, hk2, rfl⟩ := hrel
    have hix := HI.out k (by omega)
    have hxb := HSB.out.getD k
    by_cases c1 : k < K
    · have hx := HA.out k c1
      obtain ⟨x, ex⟩ : ∃ x, nm.getD k 0 = x := ⟨_, rfl⟩
      rw [ex] at hix hx hxb
      clear ex
      have CN := Aside0.mk (fun w => ref_naming_calls x w hxb.1 hxb.2)
      rw [hx] at CN
      clear hx
      go_wp2_with fail
      refine (CN.out _).mono ?_
      rintro _ wn ⟨rfl, rfl⟩
      go_wp2_with fail
      go_round
      case rel => exact ⟨k + 1, by omega, by go_num⟩
      case measure => simp [intOf] <;> omega
    · obtain rfl : k = K := by omega
      have hx := HE.out hk
      obtain ⟨x, ex⟩ : ∃ x, nm.getD k 0 = x := ⟨_, rfl⟩
      rw [ex] at hix hx hxb
      clear ex
      have CN := Aside0.mk (fun w => ref_naming_calls x w hxb.1 hxb.2)
      rw [hx] at CN
      clear hx
      go_wp2_with fail
      refine (CN.out _).mono ?_
      rintro _ wn ⟨rfl, rfl⟩
      go_wp2_with fail
      go_ret
      exact ⟨rfl, HB.out⟩
set_option maxHeartbeats 8000000 in
set_option maxRecDepth 100000 in
theorem rRight_near (p f : Int) (nm pi tx : List Int) (w : World) (hb : isB nm) (hb2 : isB pi) (hb3 : isB tx) (hp : 0 ≤ p ∧ p ≤ 7) (hf : 0 ≤ f ∧ f ≤ 23) (hl : nm.length ≤ 48) (hpl : pi.length ≤ 5000) (htl : tx.length ≤ 5000) (hk : tw namB nm = nm.length) : Calls Try.prog 32 #[syV (p, f, nm, pi, tx)] w fun e w' => e = .returned (.bool (decide (riP (p, f, nm, pi, tx)))) ∧ Below w.heap.size w w' := by
  obtain ⟨V, hV⟩ : ∃ V, decide (riP (p, f, nm, pi, tx)) = V := ⟨_, rfl⟩
  rw [hV]
  have hri : riP (p, f, nm, pi, tx) ↔ (pi = [] ∨ (numG pi).isSome = true ∧ nm ≠ []) ∧ (nm ≠ [] ∨ syP (lnL (p, f, nm, pi, tx)) = (p, f, nm, pi, tx)) := by
    rw [riP]
    exact ⟨fun h => h.2.2, fun h => ⟨⟨hp.1, hp.2, hf.1, hf.2, hl⟩, hk, h⟩⟩
  have HV := Aside0.mk (show V = decide ((pi = [] ∨ (numG pi).isSome = true ∧ nm ≠ []) ∧ (nm ≠ [] ∨ syP (lnL (p, f, nm, pi, tx)) = (p, f, nm, pi, tx))) by rw [← hV]; exact decide_eq_decide.2 hri)
  clear hV hri
  have HNE := Aside0.mk (str_isE nm)
  have HNE2 := Aside0.mk (str_isE2 nm)
  have HPE := Aside0.mk (str_isE pi)
  have HPE2 := Aside0.mk (str_isE2 pi)
  have CQ := Aside0.mk (fun w => ref_DNumber_calls pi w hb2 (by omega))
  have CL := Aside0.mk (fun w => rLine_calls p f nm pi tx w hp hf (by omega) (by omega) (by omega))
  have HSB2 := Aside0.mk hb2
  have HSB3 := Aside0.mk hb3
  rw [nuV] at CQ
  obtain ⟨q, hq⟩ : ∃ n, (numG pi).getD 0 = n := ⟨_, rfl⟩
  obtain ⟨ok, hok⟩ : ∃ n, (numG pi).isSome = n := ⟨_, rfl⟩
  rw [hq, hok] at CQ
  rw [hok] at HV
  clear hq hok
  have hs1 := strOf_size nm
  rw [syV]
  dsimp only
  obtain ⟨PI, hPI⟩ : ∃ V, strOfNums pi = V := ⟨_, rfl⟩
  obtain ⟨TX, hTX⟩ : ∃ V, strOfNums tx = V := ⟨_, rfl⟩
  have HSB := Aside0.mk hb
  have HA := Aside0.mk (tw_all namB nm)
  have HE := Aside0.mk (tw_end namB nm)
  rw [hPI, hTX]
  clear hb
  go_enter Try.func32, Try.ntmps32
  go_upto_region 3 with fail
  obtain ⟨wz, hwz⟩ : ∃ wz, w.alloc (.cells #[.int .i64 p, .int .i64 f, .string (strOfNums nm), .string PI, .string TX] 51) = wz := ⟨_, rfl⟩
  have HZ := Aside0.mk (show wz.heap[w.heap.size]? = some (.cells #[.int .i64 p, .int .i64 f, .string (strOfNums nm), .string PI, .string TX] 51 (0, 0)) by rw [← hwz]; exact blk_new _ _)
  have HB := Aside0.mk (show Below w.heap.size w wz by rw [← hwz]; exact below_alloc (Below.refl _ _) _)
  rw [hwz]
  clear hwz
  have HI := Aside0.mk (fun (k : Nat) (h : k < nm.length) => str_at nm HSB.out k k rfl h)
  obtain ⟨n, hn⟩ : ∃ n, nm.length = n := ⟨_, rfl⟩
  have HN := Aside0.mk hn
  rw [hk] at HA
  rw [hn] at hs1 HA HI
  have r0 := blk_cell HZ.out 0
  have r1 := blk_cell HZ.out 1
  have r2 := blk_cell HZ.out 2
  have r3 := blk_cell HZ.out 3
  have r4 := blk_cell HZ.out 4
  obtain ⟨NM, hNM⟩ : ∃ N, strOfNums nm = N := ⟨_, rfl⟩
  rw [hNM] at hs1 HNE HNE2 HZ r0 r1 r2 r3 r4 HI
  rw [hPI] at CQ HPE HPE2
  rw [syV] at CL
  dsimp only at CL
  rw [hNM, hPI, hTX] at CL
  have HNM := Aside0.mk hNM
  have HPI := Aside0.mk hPI
  have HTX := Aside0.mk hTX
  clear hk hPI hTX hNM HE hb2 hb3
  rw [hn] at hl
  clear hn
  go_upto_block 0 with (fail)
  go_cut [] (fun wx => wz = wx)
  case first =>
    go_wp2_with fail
    go_loop [3] (fun v6 => ∃ k : Nat, k ≤ n ∧ v6 = .int .i64 k) (fun v6 => n - (intOf v6).toNat)
    case atStart => exact ⟨0, by omega, rfl⟩
    case round =>
      obtain ⟨k, hk2, rfl⟩ := hrel
      by_cases c1 : k < n
      · have hix := HI.out k c1
        have hxb := HSB.out.getD k
        have hx := HA.out k c1
        obtain ⟨x, ex⟩ : ∃ x, nm.getD k 0 = x := ⟨_, rfl⟩
        rw [ex] at hix hx hxb
        clear ex
        have CN := Aside0.mk (fun w => ref_naming_calls x w hxb.1 hxb.2)
        rw [hx] at CN
        clear hx
        go_wp2_with fail
        refine (CN.out _).mono ?_
        rintro _ wn ⟨rfl, rfl⟩
        go_wp2_with fail
        go_round
        case rel => exact ⟨k + 1, by omega, by go_num⟩
        case measure => simp [intOf] <;> omega
      · obtain rfl : k = n := by omega
        go_wp2_with fail
        go_meet
        rfl
  case rest =>
  obtain rfl := hcut
  go_wp2_with fail
  refine (CQ.out _).mono ?_
  rintro _ wq ⟨rfl, hb⟩
  replace HZ := Aside0.mk (blk_below HZ.out hb)
  replace HB := Aside0.mk (below_step HB.out hb)
  clear hb r0 r1 r2 r3 r4
  have r0 := blk_cell HZ.out 0
  have r1 := blk_cell HZ.out 1
  have r2 := blk_cell HZ.out 2
  have r3 := blk_cell HZ.out 3
  have r4 := blk_cell HZ.out 4
  have hpe := HPE.out
  have hpe2 := HPE2.out
  have hne := HNE.out
  have hne2 := HNE2.out
  by_cases c1 : pi = []
  · rw [decide_eq_true c1] at hpe hpe2
    by_cases c2 : nm = []
    · rw [decide_eq_true c2] at hne hne2
      have HV2 := Aside0.mk (show V = decide (syP (lnL (p, f, nm, pi, tx)) = (p, f, nm, pi, tx)) by rw [HV.out]; simp [c1, c2])
      obtain ⟨L, hL⟩ : ∃ L, lnL (p, f, nm, pi, tx) = L := ⟨_, rfl⟩
      have hlb : isB L := by rw [← hL]; exact lnL_isB (by omega) (by omega) HSB.out HSB2.out HSB3.out
      have hll : L.length ≤ 10000 := by
        rw [← hL, lnL, c1, c2]
        dsimp only
        have := (decD_len 19 (8 * f + p)).1
        rw [show 19 + 1 = 20 from rfl] at this
        rw [bkL, if_pos rfl]
        simp only [List.length_cons, List.length_append]
        omega
      rw [hL] at CL HV2
      have CP := Aside0.mk (fun w => rParse_calls L w hlb (by omega))
      have hmb := syP_isB hlb
      obtain ⟨M, hM⟩ : ∃ M, syP L = M := ⟨_, rfl⟩
      rw [hM] at CP HV2 hmb
      have HEQ := Aside0.mk (syV_inj (p := p) (f := f) HSB.out HSB2.out HSB3.out hmb.1 hmb.2.1 hmb.2.2)
      rw [← HV2.out, HNM.out, HPI.out, HTX.out] at HEQ
      clear hL hM hlb hll hmb
      obtain ⟨m0, m1, m2, m3, m4⟩ := M
      rw [syV] at CP
      dsimp only at CP HEQ
      obtain ⟨S, hS⟩ : ∃ S, strOfNums L = S := ⟨_, rfl⟩
      obtain ⟨S2, hS2⟩ : ∃ S, strOfNums m2 = S := ⟨_, rfl⟩
      obtain ⟨S3, hS3⟩ : ∃ S, strOfNums m3 = S := ⟨_, rfl⟩
      obtain ⟨S4, hS4⟩ : ∃ S, strOfNums m4 = S := ⟨_, rfl⟩
      rw [hS] at CL CP
      rw [hS2, hS3, hS4] at CP HEQ
      have heq : ∀ W' : World, (if m0 = p then (if m1 = f then (if S2.toList = NM.toList then (if S3.toList = PI.toList then (if S4.toList = TX.toList then Result.ok (Next.value (Value.bool true)) W' else Result.ok (Next.value (Value.bool false)) W') else Result.ok (Next.value (Value.bool false)) W') else Result.ok (Next.value (Value.bool false)) W') else Result.ok (Next.value (Value.bool false)) W') else Result.ok (Next.value (Value.bool false)) W') = Result.ok (Next.value (Value.bool V)) W' := fun W' => eq_ifs HEQ.out (fun b => Result.ok (Next.value (Value.bool b)) W')
      clear hS hS2 hS3 hS4 c1 c2 hp hf
      go_wp2_with fail
      refine start_ (n := 11) (S := fun w' => w'.cell? ⟨w.heap.size, 0, none⟩ = some (.int .i64 p) ∧ w'.cell? ⟨w.heap.size, 1, none⟩ = some (.int .i64 f) ∧ w'.cell? ⟨w.heap.size, 2, none⟩ = some (.string NM) ∧ w'.cell? ⟨w.heap.size, 3, none⟩ = some (.string PI) ∧ w'.cell? ⟨w.heap.size, 4, none⟩ = some (.string TX)) (ds := []) #[false, false, false, false, false, false, false, false, false, false, false] (by kernel_rfl) rfl rfl ⟨r0, r1, r2, r3, r4⟩ (fun hHeld => ?_)
      refine pure_ (i := 0) (N := some 66) (v := ?_) (a' := ?_) #[true, false, false, false, false, false, false, false, false, false, false] rfl rfl (by kernel_rfl) (fun _ _ _ h => h) (Or.inl ⟨by rfl, ?_⟩) ?_ ?_
      rotate_left
      · intro w'
        go_simp
        with_reducible rfl
      rotate_left
      · simp only [Act.put, List.setIfInBounds_toArray, List.set_cons_zero, List.set_cons_succ, i64_w, i32_w]
        rfl
      refine take_ (i := 1) (N := some 67) (v := ?_) (a' := ?_) #[true, true, false, false, false, false, false, false, false, false, false] rfl rfl (by kernel_rfl) (fun _ _ _ h => h) (Or.inl ⟨by rfl, ?_⟩) hHeld ?_ ?_
      rotate_left
      · rintro w' ⟨s0, s1, s2, s3, s4⟩
        go_simp
        with_reducible rfl
      rotate_left
      · simp only [Act.put, List.setIfInBounds_toArray, List.set_cons_zero, List.set_cons_succ, i64_w, i32_w]
        rfl
      refine pure_ (i := 2) (N := some 68) (v := ?_) (a' := ?_) #[true, true, true, false, false, false, false, false, false, false, false] rfl rfl (by kernel_rfl) (fun _ _ _ h => h) (Or.inl ⟨by rfl, ?_⟩) ?_ ?_
      rotate_left
      · intro w'
        go_simp
        with_reducible rfl
      rotate_left
      · simp only [Act.put, List.setIfInBounds_toArray, List.set_cons_zero, List.set_cons_succ, i64_w, i32_w]
        rfl
      refine pure_ (i := 3) (N := some 69) (v := ?_) (a' := ?_) #[true, true, true, true, false, false, false, false, false, false, false] rfl rfl (by kernel_rfl) (fun _ _ _ h => h) (Or.inl ⟨by rfl, ?_⟩) ?_ ?_
      rotate_left
      · intro w'
        go_simp
        with_reducible rfl
      rotate_left
      · simp only [Act.put, List.setIfInBounds_toArray, List.set_cons_zero, List.set_cons_succ, i64_w, i32_w]
        rfl
      refine take_ (i := 4) (N := some 70) (v := ?_) (a' := ?_) #[true, true, true, true, true, false, false, false, false, false, false] rfl rfl (by kernel_rfl) (fun _ _ _ h => h) (Or.inl ⟨by rfl, ?_⟩) hHeld ?_ ?_
      rotate_left
      · rintro w' ⟨s0, s1, s2, s3, s4⟩
        go_simp
        with_reducible rfl
      rotate_left
      · simp only [Act.put, List.setIfInBounds_toArray, List.set_cons_zero, List.set_cons_succ, i64_w, i32_w]
        rfl
      refine take_ (i := 7) (N := some 73) (v := ?_) (a' := ?_) #[true, true, true, true, true, false, false, true, false, false, false] rfl rfl (by kernel_rfl) (fun _ _ _ h => h) (Or.inl ⟨by rfl, ?_⟩) hHeld ?_ ?_
      rotate_left
      · rintro w' ⟨s0, s1, s2, s3, s4⟩
        go_simp
        with_reducible rfl
      rotate_left
      · simp only [Act.put, List.setIfInBounds_toArray, List.set_cons_zero, List.set_cons_succ, i64_w, i32_w]
        rfl
      refine one_ (i := 5) (N := some 71) #[true, true, true, true, true, true, false, true, false, false, false] rfl rfl (by kernel_rfl) (by decide) (fun K hK => ?_)
      refine goes_ Try.func42 (by kernel_rfl) rfl #[.agg #[.int .i64 p, .int .i64 f, .string NM, .string PI, .string TX]] (by rfl) rfl rfl (by (try simp only [List.map_toArray, List.map_cons, List.map_nil]); first | done | rfl) ?_
      with_reducible refine (CL.out _).mono ?_
      rintro e w1 ⟨rfl, hb1⟩
      refine ⟨_, rfl, ?_⟩
      refine hK.out _ _ ⟨(pw_cell_below hb1 hHeld.1), (pw_cell_below hb1 hHeld.2.1), (pw_cell_below hb1 hHeld.2.2.1), (pw_cell_below hb1 hHeld.2.2.2.1), (pw_cell_below hb1 hHeld.2.2.2.2)⟩ (fun hHeld => ?_)
      clear hK K
      refine norm_ (a' := ?_) ?_ ?_
      rotate_left
      · show Act.put _ (some 71) _ = _
        simp only [Act.put, List.setIfInBounds_toArray, List.set_cons_zero, List.set_cons_succ, i64_w, i32_w]
        rfl
      refine one_ (i := 6) (N := some 72) #[true, true, true, true, true, true, true, true, false, false, false] rfl rfl (by kernel_rfl) (by decide) (fun K hK => ?_)
      refine goes_ Try.func39 (by kernel_rfl) rfl #[.string S] (by rfl) rfl rfl (by (try simp only [List.map_toArray, List.map_cons, List.map_nil]); first | done | rfl) ?_
      with_reducible refine (CP.out _).mono ?_
      rintro e w2 ⟨rfl, hb2⟩
      refine ⟨_, rfl, ?_⟩
      refine hK.out _ _ ⟨(pw_cell_below hb2 hHeld.1), (pw_cell_below hb2 hHeld.2.1), (pw_cell_below hb2 hHeld.2.2.1), (pw_cell_below hb2 hHeld.2.2.2.1), (pw_cell_below hb2 hHeld.2.2.2.2)⟩ (fun hHeld => ?_)
      clear hK K
      refine norm_ (a' := ?_) ?_ ?_
      rotate_left
      · show Act.put _ (some 72) _ = _
        simp only [Act.put, List.setIfInBounds_toArray, List.set_cons_zero, List.set_cons_succ, i64_w, i32_w]
        rfl
      refine pure_ (i := 8) (N := some 74) (v := ?_) (a' := ?_) #[true, true, true, true, true, true, true, true, true, false, false] rfl rfl (by kernel_rfl) (fun _ _ _ h => h) (Or.inl ⟨by rfl, ?_⟩) ?_ ?_
      rotate_left
      · intro w'
        go_simp
        with_reducible rfl
      rotate_left
      · simp only [Act.put, List.setIfInBounds_toArray, List.set_cons_zero, List.set_cons_succ, i64_w, i32_w]
        rfl
      refine pure_ (i := 9) (N := some 75) (v := ?_) (a' := ?_) #[true, true, true, true, true, true, true, true, true, true, false] rfl rfl (by kernel_rfl) (fun _ _ _ h => h) (Or.inl ⟨by rfl, ?_⟩) ?_ ?_
      rotate_left
      · intro w'
        go_simp
        with_reducible rfl
      rotate_left
      · simp only [Act.put, List.setIfInBounds_toArray, List.set_cons_zero, List.set_cons_succ, i64_w, i32_w]
        rfl
      refine pure_ (i := 10) (N := some 2) (v := ?_) (a' := ?_) #[true, true, true, true, true, true, true, true, true, true, true] rfl rfl (by kernel_rfl) (fun _ _ _ h => h) (Or.inl ⟨by rfl, ?_⟩) ?_ ?_
      rotate_left
      · intro w'
        go_simp
        with_reducible rfl
      rotate_left
      · simp only [Act.put, List.setIfInBounds_toArray, List.set_cons_zero, List.set_cons_succ, i64_w, i32_w]
        rfl
      refine done_ (by kernel_rfl) ?_
      have HB9 := Aside0.mk (below_step (below_step (below_drew HB.out) hb1) hb2)
      clear hb1 hb2
      go_wp2_with fail
      go_ret
      exact ⟨rfl, HB9.out⟩
    · rw [decide_eq_false c2] at hne hne2
      obtain rfl : V = true := by rw [HV.out]; simp [c1, c2]
      clear c1 c2 hp hf
      go_wp2_with fail
      go_quiet (fail)
      go_wp2_with fail
      trace_state
      go_ret
      exact ⟨rfl, pw_below_drewN HB.out _⟩
  · rw [decide_eq_false c1] at hpe hpe2
    cases ok with
    | false =>
      obtain rfl : V = false := by rw [HV.out]; simp [c1]
      clear c1 hp hf
      go_wp2_with fail
      go_ret
      exact ⟨rfl, HB.out⟩
    | true =>
      by_cases c2 : nm = []
      · rw [decide_eq_true c2] at hne hne2
        obtain rfl : V = false := by rw [HV.out]; simp [c1, c2]
        clear c1 c2 hp hf
        go_wp2_with fail
        go_ret
        exact ⟨rfl, HB.out⟩
      · rw [decide_eq_false c2] at hne hne2
        obtain rfl : V = true := by rw [HV.out]; simp [c1, c2]
        clear c1 c2 hp hf
        go_wp2_with fail
        go_quiet (fail)
        go_wp2_with fail
        go_ret
        exact ⟨rfl, pw_below_drewN HB.out _⟩
theorem rRight_calls (p f : Int) (nm pi tx : List Int) (w : World) (hb : isB nm) (hb2 : isB pi) (hb3 : isB tx) (hpl : pi.length ≤ 5000) (htl : tx.length ≤ 5000) :
    Calls Try.prog 32 #[syV (p, f, nm, pi, tx)] w fun e w' => e = .returned (.bool (decide (riP (p, f, nm, pi, tx)))) ∧ Below w.heap.size w w' := by
  by_cases h : p < 0 ∨ 7 < p ∨ f < 0 ∨ 23 < f ∨ 48 < nm.length
  · rw [decide_eq_false (fun hh : riP (p, f, nm, pi, tx) => by have := hh.1; dsimp only at this; omega)]
    exact rRight_far p f _ _ _ _ w (strOf_size nm) h
  · by_cases hk : tw namB nm < nm.length
    · rw [decide_eq_false (fun hh : riP (p, f, nm, pi, tx) => by have := hh.2.1; dsimp only at this; omega)]
      exact rRight_let p f nm pi tx w hb (by omega) (by omega) (by omega) hk
    · exact rRight_near p f nm pi tx w hb hb2 hb3 (by omega) (by omega) (by omega) hpl htl (by have := tw_le namB nm; omega)

end Go.Proofs.Ytplmdgimodgekaa
