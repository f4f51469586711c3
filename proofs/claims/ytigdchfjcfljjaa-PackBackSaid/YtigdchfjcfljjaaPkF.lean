/- Packed bytes: the document's Unpack. -/
import Derived.Test.YtigdchfjcfljjaaPkE
namespace Go.Proofs.Ytigdchfjcfljjaa
open Go.RowKit Go.Proofs.YtigdchfjcfljjaaW.PrintWords Go.Proofs.YtigdchfjcfljjaaW.PrintLast Go.Proofs.YtigdchfjcfljjaaW.PrintMore
attribute [local go_sem] max2_int min2_int max_two min_two max_three min_three max_four min_four   -- for this text's walks alone
set_option linter.unusedVariables false
set_option linter.unusedSimpArgs false

set_option maxHeartbeats 8000000 in
set_option maxRecDepth 100000 in
theorem refUnpack_ok (w : World) (v : Value) (ts : List Tok) (M : Nat) (hr : Rd w .u8 v (pkE ts)) (hok : pkOk ts) (hib : isB (pkE ts)) (hM : (pkX ts).length ≤ M) (hM2 : M ≤ 65536) (hE : (pkE ts).length ≤ 100000) :
    Calls Try.prog 18 #[v, .int .i64 (M : Int)] w fun e w' => ∃ u, e = .returned (.tuple #[u, .bool true]) ∧ OwnO (Value.int .u8) w' w.heap.size 5 u (pkX ts) ∧ Below w.heap.size w w' := by
  obtain ⟨L, hL⟩ : ∃ L, (pkE ts).length = L := ⟨_, rfl⟩
  obtain ⟨A0, c0, ev, hcap, hm, _⟩ := hr.mid
  subst ev
  rw [hL] at hr hE
  have HR := Aside0.mk hr
  have HIB := Aside0.mk hib
  have HL := Aside0.mk hL
  have HM := Aside0.mk hM
  have HOK := Aside0.mk hok
  rw [hL]
  clear hr hib hL hM hok hcap hm
  have g2 : decide ((M : Int) < 0) = false := decide_eq_false (by omega)
  have g3 : decide (65536 < (M : Int)) = false := decide_eq_false (by omega)
  have g3' : decide (65536 < M) = false := decide_eq_false (by omega)
  go_enter Try.func18, Try.ntmps18
  go_upto_block 0 with (fail)
  go_wp2_with fail
  go_loopw [6, 7, 8] (fun v6 v7 v8 w' => ∃ (i a q c : Nat) (A : Option Addr), v6 = .slice A q c ∧ v7 = .int .i64 (a : Int) ∧ v8 = .int .i64 (i : Int) ∧ i ≤ ts.length ∧ i ≤ a ∧ a ≤ L ∧ q ≤ M ∧ Aside0 ((pkE (ts.take i)).length = a) ∧ Aside0 ((pkX (ts.take i)).length = q) ∧ Aside0 (OwnO (Value.int .u8) w' w.heap.size 5 (.slice A q c) (pkX (ts.take i))) ∧ Aside0 (Below w.heap.size w w')) (fun _ v7 v8 _ => L + 1 - (intOf v8).toNat)
  case atStart => exact ⟨0, 0, 0, 0, none, rfl, rfl, rfl, Nat.zero_le _, Nat.zero_le _, Nat.zero_le _, Nat.zero_le _, Aside0.mk rfl, Aside0.mk rfl, Aside0.mk (OwnO.nil _ _ _ _), Aside0.mk (Below.refl _ _)⟩
  case round =>
    obtain ⟨i, a, q, c, A, rfl, rfl, rfl, hi, hia, haL, hqM, HA, HQ, HO, HB⟩ := hrel
    have f1 : decide ((i : Int) ≤ (L : Int)) = true := decide_eq_true (by omega)
    have f1' : decide (i ≤ L) = true := decide_eq_true (by omega)
    have w0 : IntKind.i64.wrap ((i : Int) + 1) = (i : Int) + 1 := by rw [IntKind.wrap_i64]; omega
    by_cases ci : i < ts.length
    · obtain ⟨t, ht⟩ : ∃ t, ts[i]? = some t := ⟨_, List.getElem?_eq_getElem ci⟩
      have hpm : (pkX (ts.take (i + 1))).length ≤ M := Nat.le_trans (pkX_mono ts (i + 1)) HM.out
      have w1 : IntKind.i64.wrap ((a : Int) + 1) = (a : Int) + 1 := by rw [IntKind.wrap_i64]; omega
      rcases HOK.out i t ht with ⟨t0, t1, t2⟩ | ⟨t0, t1, t2, t3, t4⟩
      · obtain ⟨x, hx⟩ : ∃ x, t.c.length = x + 1 := ⟨t.c.length - 1, by omega⟩
        obtain ⟨p1, p2, p3, p4, p5⟩ := pk_lit ts i t ht t0 x a hx HA.out
        rw [HL.out] at p2
        rw [p5, List.length_append, HQ.out, hx] at hpm
        have HX := Aside0.mk hx
        have hxx : x ≤ 127 := by omega
        have P3 := Aside0.mk p3
        have P4 := Aside0.mk p4
        have P5 := Aside0.mk p5
        clear hx t1 t2 p3 p4 p5 t0
        have g1 : decide ((L : Int) ≤ (a : Int)) = false := decide_eq_false (by omega)
        have g1' : decide (L ≤ a) = false := decide_eq_false (by omega)
        obtain ⟨ad, eA, h1⟩ := rdE_at (enc := Value.int .u8) (d := (0 : Int)) (HR.out.below HB.out) a (by rw [HL.out]; omega)
        cases eA
        rw [p1] at h1
        clear p1
        have w2 : IntKind.i64.wrap ((x : Int) + 1) = (x : Int) + 1 := by rw [IntKind.wrap_i64]; omega
        have w3 : IntKind.i64.wrap (x : Int) = (x : Int) := by rw [IntKind.wrap_i64]; omega
        have g4 : decide ((x : Int) < 128) = true := decide_eq_true (by omega)
        have g4' : decide (x < 128) = true := decide_eq_true (by omega)
        have w5 : IntKind.i64.wrap ((L : Int) - ((a : Int) + 1)) = (L : Int) - ((a : Int) + 1) := by rw [IntKind.wrap_i64]; omega
        have w6 : IntKind.i64.wrap ((q : Int) + (x : Int)) = (q : Int) + (x : Int) := by rw [IntKind.wrap_i64]; omega
        have w7 : IntKind.i64.wrap ((q : Int) + (x : Int) + 1) = (q : Int) + (x : Int) + 1 := by rw [IntKind.wrap_i64]; omega
        have g5 : decide ((L : Int) - ((a : Int) + 1) < (x : Int) + 1) = false := decide_eq_false (by omega)
        have g6 : decide ((M : Int) < (q : Int) + (x : Int) + 1) = false := decide_eq_false (by omega)
        have g6' : decide (M < q + x + 1) = false := decide_eq_false (by omega)
        go_upto_block 2 with (fail)
        clear h1 w1 w2 w3 g4 g4' w5 w6 w7 g5 g6 g6' g1 g1' f1 f1'
        go_wp2_with fail
        go_loopw [6, 10] (fun v6 v10 w' => ∃ (k r c' : Nat) (A' : Option Addr), v6 = .slice A' r c' ∧ v10 = .int .i64 (k : Int) ∧ k ≤ x + 1 ∧ Aside0 (r = q + k) ∧ Aside0 (OwnO (Value.int .u8) w' w.heap.size 5 (.slice A' r c') (pkX (ts.take i) ++ t.c.take k)) ∧ Aside0 (Below w.heap.size w w')) (fun _ v10 _ => x + 1 - (intOf v10).toNat)
        case atStart => exact ⟨0, q, c, A, rfl, rfl, Nat.zero_le _, Aside0.mk rfl, by simpa using HO, HB⟩
        case round =>
          clear HO HB
          obtain ⟨k, r, c', A', rfl, rfl, hk, HRQ, HO, HB⟩ := hrel
          have HRL := Aside0.mk (show (pkX (ts.take i) ++ t.c.take k).length = r from by rw [List.length_append, HQ.out, List.length_take, HX.out, HRQ.out]; omega)
          by_cases ck : k ≤ x
          · have g4 : decide ((k : Int) ≤ (x : Int)) = true := decide_eq_true (by omega)
            have g4' : decide (k ≤ x) = true := decide_eq_true (by omega)
            have w6 : IntKind.i64.wrap ((a : Int) + 1 + (k : Int)) = ((a + 1 + k : Nat) : Int) := by rw [IntKind.wrap_i64]; omega
            obtain ⟨ad', eA', h1⟩ := rdE_at (enc := Value.int .u8) (d := (0 : Int)) (HR.out.below HB.out) (a + 1 + k) (by rw [HL.out]; omega)
            cases eA'
            have hr2 : r ≤ 70000 := by have := HRQ.out; omega
            obtain ⟨y, hy⟩ : ∃ y, (pkE ts).getD (a + 1 + k) 0 = y := ⟨_, rfl⟩
            rw [hy] at h1
            have hyc : t.c.getD k 0 = y := by
              rw [← hy, ← P3.out, List.getD_eq_getElem?_getD, List.getElem?_take_of_lt (by omega), List.getElem?_drop, List.getD_eq_getElem?_getD]
            have HY := Aside0.mk (show (pkX (ts.take i) ++ t.c.take k) ++ [y] = pkX (ts.take i) ++ t.c.take (k + 1) from by rw [take_snoc (by rw [HX.out]; omega), hyc, List.append_assoc])
            obtain ⟨A8, d8, w8, hr8, ho8, hk8, hv8⟩ := app8PL (m := 1) [y] rfl HO.out HRL.out rfl HB.out.size (by omega)
            rw [HY.out] at ho8
            have HR8 := Aside0.mk hr8
            have HO8 := Aside0.mk ho8
            have HB8 := Aside0.mk (Kp.from HB.out hk8 (fun k hk => HO.out.ge hk))
            clear hr8 ho8 hk8 hv8 hy hyc
            obtain ⟨j, hj⟩ : ∃ j, a + 1 + k = j := ⟨_, rfl⟩
            rw [hj] at w6 h1
            have hjL : j < L := by omega
            clear hj
            go_wp2_with (first | ((with_reducible refine gate_builtin (b := .append) (xs := #[.tmp 60, .tmp 67]) rfl ?_); at_builtin; refine app_list rfl (.tmp 60) (.tmp 67) rfl rfl rfl HR8.out ?_) | fail)
            go_roundw
            case rel => exact ⟨k + 1, r + 1, d8, A8, by go_num, by go_num, by omega, Aside0.mk (by rw [HRQ.out]; omega), HO8, HB8⟩
            case measure => simp [intOf] <;> omega
          · have g4 : decide ((k : Int) ≤ (x : Int)) = false := decide_eq_false (by omega)
            have g4' : decide (k ≤ x) = false := decide_eq_false (by omega)
            obtain rfl : k = x + 1 := by omega
            have HO9 : Aside0 (OwnO (Value.int .u8) wr w.heap.size 5 (.slice A' r c') (pkX (ts.take (i + 1)))) := Aside0.mk (by rw [P5.out]; have := HO.out; rwa [List.take_of_length_le (l := t.c) (by rw [HX.out]; exact Nat.le_refl _)] at this)
            have w6 : IntKind.i64.wrap ((a : Int) + 1 + (x : Int)) = (a : Int) + 1 + (x : Int) := by rw [IntKind.wrap_i64]; omega
            have w7 : IntKind.i64.wrap ((a : Int) + 1 + (x : Int) + 1) = (a : Int) + 1 + (x : Int) + 1 := by rw [IntKind.wrap_i64]; omega
            go_wp2_with fail
            go_roundw
            case rel => exact ⟨i + 1, a + 1 + (x + 1), r, c', A', rfl, by go_num, by go_num, by omega, by omega, by omega, by rw [HRQ.out]; exact hpm, P4, Aside0.mk (by rw [P5.out, List.length_append, HQ.out, HX.out, HRQ.out]), HO9, HB⟩
            case measure => simp [intOf] <;> omega
      · obtain ⟨p1, p2, p3, p4, p5, p6⟩ := pk_run ts i t ht t0 t2 a HA.out
        rw [HL.out] at p2
        rw [p6, cpR_len, HQ.out] at hpm
        rw [HQ.out] at t1
        obtain ⟨bk, hbk⟩ : ∃ bk, t.back = bk := ⟨_, rfl⟩
        obtain ⟨n, hn⟩ : ∃ n, t.n = n := ⟨_, rfl⟩
        rw [hbk] at t0 t1 t2 p3 p6
        rw [hn] at t3 t4 p1 p6 hpm
        obtain ⟨z, hz⟩ : ∃ z, 124 + n = z := ⟨_, rfl⟩
        rw [hz] at p1
        have P5 := Aside0.mk p5
        have P6 := Aside0.mk p6
        have hz1 : 128 ≤ z := by omega
        have hz2 : z ≤ 254 := by omega
        have w2 : IntKind.i64.wrap ((z : Int) - 124) = (n : Int) := by rw [IntKind.wrap_i64]; omega
        have w3 : IntKind.i64.wrap (z : Int) = (z : Int) := by rw [IntKind.wrap_i64]; omega
        clear hbk hn hz p5 p6
        have g1 : decide ((L : Int) ≤ (a : Int)) = false := decide_eq_false (by omega)
        have g1' : decide (L ≤ a) = false := decide_eq_false (by omega)
        have g4 : decide ((z : Int) < 128) = false := decide_eq_false (by omega)
        have g4' : decide (z < 128) = false := decide_eq_false (by omega)
        obtain ⟨ad, eA, h1⟩ := rdE_at (enc := Value.int .u8) (d := (0 : Int)) (HR.out.below HB.out) a (by rw [HL.out]; omega)
        cases eA
        rw [p1] at h1
        have HG := Aside0.mk (ref_Get_calls (.slice (some ad) L c0) (pkE ts) ((a : Int) + 1) 2 wr (by have := HR.out.below HB.out; exact this) HIB.out)
        rw [p3, p4] at HG
        clear p1 p3 p4
        go_wp2_with fail
        with_reducible refine HG.out.mono ?_
        rintro e w2' ⟨rfl, hb⟩
        have HO2 := Aside0.mk (HO.out.below hb)
        have HB2 := Aside0.mk (below_step HB.out hb)
        clear hb g1 g1' g4 g4' h1 w1 w2 w3 f1 f1'
        have w1 : IntKind.i64.wrap ((a : Int) + 1 + 2) = (a : Int) + 1 + 2 := by rw [IntKind.wrap_i64]; omega
        have w4 : IntKind.i64.wrap (bk : Int) = (bk : Int) := by rw [IntKind.wrap_i64]; omega
        have w5 : IntKind.i64.wrap ((q : Int) + (n : Int)) = (q : Int) + (n : Int) := by rw [IntKind.wrap_i64]; omega
        have g5 : ((bk : Int) == 0) = false := by simp; omega
        have g6 : decide (4096 < (bk : Int)) = false := decide_eq_false (by omega)
        have g6' : decide (4096 < bk) = false := decide_eq_false (by omega)
        have g7 : decide ((q : Int) < (bk : Int)) = false := decide_eq_false (by omega)
        have g7' : decide (q < bk) = false := decide_eq_false (by omega)
        have g8 : decide (130 < (n : Int)) = false := decide_eq_false (by omega)
        have g8' : decide (130 < n) = false := decide_eq_false (by omega)
        have g9 : decide ((M : Int) < (q : Int) + (n : Int)) = false := decide_eq_false (by omega)
        have g9' : decide (M < q + n) = false := decide_eq_false (by omega)
        have g10 : (bk = 0) = False := by simp; omega
        go_upto_block 4 with (fail)
        clear g5 g6 g6' g7 g7' g8 g8' g9 g9' g10 w5
        go_wp2_with fail
        go_loopw [6, 14] (fun v6 v14 w' => ∃ (k r c' : Nat) (A' : Option Addr), v6 = .slice A' r c' ∧ v14 = .int .i64 (k : Int) ∧ k ≤ n ∧ Aside0 (r = q + k) ∧ Aside0 (OwnO (Value.int .u8) w' w.heap.size 5 (.slice A' r c') (cpR (pkX (ts.take i)) bk k)) ∧ Aside0 (Below w.heap.size w w')) (fun _ v14 _ => n - (intOf v14).toNat)
        case atStart => exact ⟨0, q, c, A, rfl, rfl, Nat.zero_le _, Aside0.mk rfl, HO2, HB2⟩
        case round =>
          clear HO HB HO2 HB2
          obtain ⟨k, r, c', A', rfl, rfl, hk, HRQ, HO, HB⟩ := hrel
          have HRL := Aside0.mk (show (cpR (pkX (ts.take i)) bk k).length = r from by rw [cpR_len, HQ.out, HRQ.out])
          by_cases ck : k < n
          · have g4 : decide ((k : Int) < (n : Int)) = true := decide_eq_true (by omega)
            have g4' : decide (k < n) = true := decide_eq_true (by omega)
            obtain ⟨j, hj⟩ : ∃ j, r - bk = j := ⟨_, rfl⟩
            have hr1 := HRQ.out
            have hjr : j < r := by omega
            have w6 : IntKind.i64.wrap ((r : Int) - (bk : Int)) = (j : Int) := by rw [IntKind.wrap_i64]; omega
            obtain ⟨ad', eA', h1⟩ := rdE_at (HO.out.rdE (0 : Int)) j (by rw [HRL.out]; exact hjr)
            cases eA'
            have hr2 : r ≤ 70000 := by omega
            obtain ⟨y, hy⟩ : ∃ y, (cpR (pkX (ts.take i)) bk k).getD j 0 = y := ⟨_, rfl⟩
            rw [hy] at h1
            have HY := Aside0.mk (show cpR (pkX (ts.take i)) bk k ++ [y] = cpR (pkX (ts.take i)) bk (k + 1) from by rw [cpR, HRL.out, hj, hy])
            obtain ⟨A8, d8, w8, hr8, ho8, hk8, hv8⟩ := app8PL (m := 1) [y] rfl HO.out HRL.out rfl HB.out.size (by omega)
            rw [HY.out] at ho8
            have HR8 := Aside0.mk hr8
            have HO8 := Aside0.mk ho8
            have HB8 := Aside0.mk (Kp.from HB.out hk8 (fun k hk => HO.out.ge hk))
            clear hr8 ho8 hk8 hv8 hj hr1 hy w1
            go_wp2_with (first | ((with_reducible refine gate_builtin (b := .append) (xs := #[.tmp 115, .tmp 124]) rfl ?_); at_builtin; refine app_list rfl (.tmp 115) (.tmp 124) rfl rfl rfl HR8.out ?_) | fail)
            go_roundw
            case rel => exact ⟨k + 1, r + 1, d8, A8, by go_num, by go_num, by omega, Aside0.mk (by rw [HRQ.out]; omega), HO8, HB8⟩
            case measure => simp [intOf] <;> omega
          · have g4 : decide ((k : Int) < (n : Int)) = false := decide_eq_false (by omega)
            have g4' : decide (k < n) = false := decide_eq_false (by omega)
            obtain rfl : k = n := by omega
            rw [← P6.out] at HO
            go_wp2_with fail
            go_roundw
            case rel => exact ⟨i + 1, a + 1 + 2, r, c', A', rfl, by go_num, by go_num, by omega, by omega, by omega, by rw [HRQ.out]; exact hpm, Aside0.mk (by rw [P5.out]), Aside0.mk (by rw [P6.out, cpR_len, HQ.out, HRQ.out]), HO, HB⟩
            case measure => simp [intOf] <;> omega
    · obtain ⟨z1, z2⟩ := pk_end ts i (by omega)
      have haz : a = L := by rw [← HA.out, z1, HL.out]
      have g1 : decide ((L : Int) ≤ (a : Int)) = true := decide_eq_true (by omega)
      have g1' : decide (L ≤ a) = true := decide_eq_true (by omega)
      rw [z2] at HO
      clear haz
      go_wp2_with fail
      go_ret2
      exact ⟨_, rfl, HO.out, HB.out⟩
end Go.Proofs.Ytigdchfjcfljjaa
