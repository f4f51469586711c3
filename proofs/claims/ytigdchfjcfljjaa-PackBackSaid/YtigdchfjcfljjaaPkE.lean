/- Packed bytes: every sign where it stands. Unpack. -/
import Derived.Test.YtigdchfjcfljjaaPkC
namespace Go.Proofs.Ytigdchfjcfljjaa
open Go.RowKit Go.Proofs.YtigdchfjcfljjaaW.PrintWords Go.Proofs.YtigdchfjcfljjaaW.PrintLast Go.Proofs.YtigdchfjcfljjaaW.PrintMore
attribute [local go_sem] max2_int min2_int max_two min_two max_three min_three max_four min_four   -- for this text's walks alone
set_option linter.unusedVariables false
set_option linter.unusedSimpArgs false

theorem pk_at (ts : List Tok) (i : Nat) (t : Tok) (h : ts[i]? = some t) : ∃ R, pkE ts = pkE (ts.take i) ++ (t.enc ++ R) :=
  ⟨pkE (ts.drop (i + 1)), by rw [pkE_split ts (i + 1), (pkE_take ts i t h).1, List.append_assoc]⟩
theorem pk_lit (ts : List Tok) (i : Nat) (t : Tok) (h : ts[i]? = some t) (h0 : t.back = 0) (x a : Nat) (hx : t.c.length = x + 1) (ha : (pkE (ts.take i)).length = a) :
    (pkE ts).getD a 0 = (x : Int) ∧ a + 1 + (x + 1) ≤ (pkE ts).length ∧ ((pkE ts).drop (a + 1)).take (x + 1) = t.c ∧ (pkE (ts.take (i + 1))).length = a + 1 + (x + 1) ∧ pkX (ts.take (i + 1)) = pkX (ts.take i) ++ t.c := by
  obtain ⟨R, hR⟩ := pk_at ts i t h
  obtain ⟨e1, e2⟩ := pkE_take ts i t h
  have he : t.enc = (x : Int) :: t.c := by rw [Tok.enc, if_pos h0, hx]; simp
  rw [e2, Tok.out, if_pos h0, e1, List.length_append, ha, hR, he]
  refine ⟨?_, ?_, ?_, by simp; omega, rfl⟩
  · rw [List.getD_eq_getElem?_getD, List.getElem?_append_right (by omega), ha, Nat.sub_self]; rfl
  · simp; omega
  · rw [List.drop_append, List.drop_eq_nil_of_le (by omega), ha, show a + 1 - a = 1 by omega, List.nil_append]
    show (t.c ++ R).take (x + 1) = t.c
    rw [← hx, List.take_left]
theorem pk_run (ts : List Tok) (i : Nat) (t : Tok) (h : ts[i]? = some t) (h0 : 1 ≤ t.back) (h1 : t.back ≤ 4096) (a : Nat) (ha : (pkE (ts.take i)).length = a) :
    (pkE ts).getD a 0 = ((124 + t.n : Nat) : Int) ∧ a + 3 ≤ (pkE ts).length ∧ getN (pkE ts) ((a : Int) + 1) 2 = (t.back : Int) ∧ fitsB (pkE ts).length ((a : Int) + 1) 2 = true ∧ (pkE (ts.take (i + 1))).length = a + 3 ∧ pkX (ts.take (i + 1)) = cpR (pkX (ts.take i)) t.back t.n := by
  obtain ⟨R, hR⟩ := pk_at ts i t h
  obtain ⟨e1, e2⟩ := pkE_take ts i t h
  have he : t.enc = ((124 + t.n : Nat) : Int) :: leB (t.back : Int) 2 := by rw [Tok.enc, if_neg (by omega)]
  rw [e2, Tok.out, if_neg (by omega), e1, List.length_append, ha, hR, he]
  have hl : a + 3 ≤ (pkE (ts.take i) ++ ((((124 + t.n : Nat) : Int) :: leB (t.back : Int) 2) ++ R)).length := by simp [leB_len]; omega
  have hf : fitsB (pkE (ts.take i) ++ ((((124 + t.n : Nat) : Int) :: leB (t.back : Int) 2) ++ R)).length ((a : Int) + 1) 2 = true := by
    unfold fitsB
    exact decide_eq_true ⟨.inr (.inl rfl), by omega, by omega, by omega⟩
  refine ⟨?_, hl, ?_, hf, by simp [leB_len], rfl⟩
  · rw [List.getD_eq_getElem?_getD, List.getElem?_append_right (by omega), ha, Nat.sub_self]; rfl
  · rw [getN, if_pos hf, show ((a : Int) + 1).toNat = a + 1 by omega, List.drop_append, List.drop_eq_nil_of_le (by omega), ha, show a + 1 - a = 1 by omega, List.nil_append]
    show leN ((leB (t.back : Int) 2 ++ R).take 2) = _
    rw [List.take_append_of_le_length (by rw [leB_len]; exact Nat.le_refl 2), List.take_of_length_le (by rw [leB_len]; exact Nat.le_refl 2), leN_leB 2 _ (by omega)]
    omega
theorem pk_end (ts : List Tok) (i : Nat) (h : ts.length ≤ i) : pkE (ts.take i) = pkE ts ∧ pkX (ts.take i) = pkX ts := by
  rw [List.take_of_length_le h]; exact ⟨rfl, rfl⟩
theorem cpR_pre (x : List Int) (b : Nat) : ∀ n, x <+: cpR x b n
  | 0 => List.prefix_refl x
  | n + 1 => (cpR_pre x b n).trans (List.prefix_append _ _)
theorem pkX_pre (ts : List Tok) (i : Nat) : pkX (ts.take i) <+: pkX ts := by
  have key : ∀ (us : List Tok) (x : List Int), x <+: us.foldl Tok.out x := by
    intro us
    induction us with
    | nil => intro x; exact List.prefix_refl x
    | cons u us ih =>
      intro x
      refine List.IsPrefix.trans ?_ (ih (Tok.out x u))
      rw [Tok.out]
      split
      · exact List.prefix_append _ _
      · exact cpR_pre _ _ _
  have e : pkX ts = (ts.drop i).foldl Tok.out (pkX (ts.take i)) := by rw [pkX, pkX, ← List.foldl_append, List.take_append_drop]
  rw [e]
  exact key _ _
theorem pkE_isB {ts : List Tok} (hok : pkOk ts) (hx : isB (pkX ts)) : isB (pkE ts) := fun y hy => by
  obtain ⟨t, ht, hy⟩ := List.mem_flatMap.1 hy
  obtain ⟨i, hi⟩ := List.getElem?_of_mem ht
  rcases hok i t hi with ⟨h0, h1, h2⟩ | ⟨h0, h1, h2, h3, h4⟩
  · rw [Tok.enc, if_pos h0] at hy
    rcases List.mem_cons.1 hy with rfl | hy
    · omega
    · have e2 := (pkE_take ts i t hi).2
      rw [Tok.out, if_pos h0] at e2
      have hp := pkX_pre ts (i + 1)
      rw [e2] at hp
      exact hx y (hp.subset (List.mem_append_right _ hy))
  · rw [Tok.enc, if_neg (by omega)] at hy
    rcases List.mem_cons.1 hy with rfl | hy
    · omega
    · exact leB_isB _ _ y hy
set_option maxHeartbeats 8000000 in
set_option maxRecDepth 100000 in
theorem Unpack_ok (w : World) (v : Value) (ts : List Tok) (M : Nat) (hr : Rd w .u8 v (pkE ts)) (hok : pkOk ts) (hib : isB (pkE ts)) (hM : (pkX ts).length ≤ M) (hM2 : M ≤ 65536) (hE : (pkE ts).length ≤ 100000) :
    Calls Try.prog 17 #[v, .int .i64 (M : Int)] w fun e w' => ∃ u, e = .returned (.tuple #[u, .int .i64 0]) ∧ OwnO (Value.int .u8) w' w.heap.size 5 u (pkX ts) ∧ Below w.heap.size w w' := by
  obtain ⟨L, hL⟩ : ∃ L, (pkE ts).length = L := ⟨_, rfl⟩
  obtain ⟨A0, c0, ev, hcap, hm, _⟩ := hr.mid
  subst ev
  rw [hL] at hr hE
  have HR := Aside0.mk hr
  have HIB := Aside0.mk hib
  have HL := Aside0.mk hL
  have HM := Aside0.mk hM
  have HOK := Aside0.mk hok
  rw [hL]
  clear hr hib hL hM hok hcap hm
  have g0 : max (M : Int) 0 = (M : Int) := by omega
  have g1 : min (M : Int) 65536 = (M : Int) := by omega
  have g2 : ((M : Int) < 0) = False := by simp
  have g3 : (65536 < (M : Int)) = False := by simp; omega
  go_enter Try.func17, Try.ntmps17
  go_upto_block 0 with (fail)
  go_cut [6] (fun v6 wx => Aside0 (OwnO (Value.int .u8) wx w.heap.size 5 v6 (pkX ts)) ∧ Aside0 (Below w.heap.size w wx))
  case first =>
    go_wp2_with fail
    go_loopw [6, 7] (fun v6 v7 w' => ∃ (i a q c : Nat) (A : Option Addr), v6 = .slice A q c ∧ v7 = .int .i64 (a : Int) ∧ i ≤ ts.length ∧ a ≤ L ∧ q ≤ M ∧ Aside0 ((pkE (ts.take i)).length = a) ∧ Aside0 ((pkX (ts.take i)).length = q) ∧ Aside0 (OwnO (Value.int .u8) w' w.heap.size 5 (.slice A q c) (pkX (ts.take i))) ∧ Aside0 (Below w.heap.size w w')) (fun _ v7 _ => L - (intOf v7).toNat)
    case atStart => exact ⟨0, 0, 0, 0, none, rfl, rfl, Nat.zero_le _, Nat.zero_le _, Nat.zero_le _, Aside0.mk rfl, Aside0.mk rfl, Aside0.mk (OwnO.nil _ _ _ _), Aside0.mk (Below.refl _ _)⟩
    case round =>
      obtain ⟨i, a, q, c, A, rfl, rfl, hi, haL, hqM, HA, HQ, HO, HB⟩ := hrel
      by_cases ci : i < ts.length
      · obtain ⟨t, ht⟩ : ∃ t, ts[i]? = some t := ⟨_, List.getElem?_eq_getElem ci⟩
        have hpm : (pkX (ts.take (i + 1))).length ≤ M := Nat.le_trans (pkX_mono ts (i + 1)) HM.out
        rcases HOK.out i t ht with ⟨t0, t1, t2⟩ | ⟨t0, t1, t2, t3, t4⟩
        · obtain ⟨x, hx⟩ : ∃ x, t.c.length = x + 1 := ⟨t.c.length - 1, by omega⟩
          obtain ⟨p1, p2, p3, p4, p5⟩ := pk_lit ts i t ht t0 x a hx HA.out
          rw [HL.out] at p2
          rw [p5, List.length_append, HQ.out, hx] at hpm
          have HX := Aside0.mk hx
          have hxx : x ≤ 127 := by omega
          have P3 := Aside0.mk p3
          have P4 := Aside0.mk p4
          have P5 := Aside0.mk p5
          clear hx t1 t2 p3 p4 p5 t0
          have g1 : decide ((a : Int) < (L : Int)) = true := decide_eq_true (by omega)
          have g1' : decide (a < L) = true := decide_eq_true (by omega)
          obtain ⟨ad, eA, h1⟩ := rdE_at (enc := Value.int .u8) (d := (0 : Int)) (HR.out.below HB.out) a (by rw [HL.out]; omega)
          cases eA
          rw [p1] at h1
          clear p1
          have w1 : IntKind.i64.wrap ((a : Int) + 1) = (a : Int) + 1 := by rw [IntKind.wrap_i64]; omega
          have w2 : IntKind.i64.wrap ((x : Int) + 1) = (x : Int) + 1 := by rw [IntKind.wrap_i64]; omega
          have w3 : IntKind.i64.wrap (x : Int) = (x : Int) := by rw [IntKind.wrap_i64]; omega
          have g4 : decide ((x : Int) < 128) = true := decide_eq_true (by omega)
          have g4' : decide (x < 128) = true := decide_eq_true (by omega)
          have w5 : IntKind.i64.wrap ((L : Int) - ((a : Int) + 1)) = (L : Int) - ((a : Int) + 1) := by rw [IntKind.wrap_i64]; omega
          have w6 : IntKind.i64.wrap ((M : Int) - (q : Int)) = (M : Int) - (q : Int) := by rw [IntKind.wrap_i64]; omega
          have g5 : decide ((L : Int) - ((a : Int) + 1) < (x : Int) + 1) = false := decide_eq_false (by omega)
          have g6 : decide ((M : Int) - (q : Int) < (x : Int) + 1) = false := decide_eq_false (by omega)
          obtain ⟨A7, hsl0, hrd0⟩ := Rd.midP HR.out HL.out .i64 (a + 1) (a + 1 + (x + 1)) (by omega) p2
          rw [show a + 1 + (x + 1) - (a + 1) = x + 1 by omega, P3.out] at hrd0
          rw [show a + 1 + (x + 1) - (a + 1) = x + 1 by omega, show ((a + 1 + (x + 1) : Nat) : Int) = (a : Int) + 1 + ((x : Int) + 1) by omega, show ((a + 1 : Nat) : Int) = (a : Int) + 1 by omega] at hsl0
          have w7 : IntKind.i64.wrap ((a : Int) + 1 + ((x : Int) + 1)) = (a : Int) + 1 + ((x : Int) + 1) := by rw [IntKind.wrap_i64]; omega
          obtain ⟨A8, d8, w8, hr8, ho8, hk8, hv8⟩ := app8PR HO.out (hrd0 _ (HR.out.below HB.out)) HQ.out HX.out HB.out.size (by omega)
          have HR8 := Aside0.mk hr8
          have HO8 := Aside0.mk ho8
          have HB8 := Aside0.mk (Kp.from HB.out hk8 (fun k hk => HO.out.ge hk))
          clear hr8 ho8 hk8 hv8 hrd0
          go_wp2_with (first | ((with_reducible refine gate_builtin (b := .append) (xs := #[.tmp 43, .tmp 49]) rfl ?_); at_builtin; refine app_list rfl (.tmp 43) (.tmp 49) rfl rfl rfl HR8.out ?_) | fail)
          go_roundw
          case rel => exact ⟨i + 1, a + 1 + (x + 1), q + (x + 1), d8, A8, by go_num, by go_num, by omega, p2, hpm, P4, Aside0.mk (by rw [P5.out, List.length_append, HQ.out, HX.out]), Aside0.mk (by rw [P5.out]; exact HO8.out), HB8⟩
          case measure => simp [intOf] <;> omega
        · obtain ⟨p1, p2, p3, p4, p5, p6⟩ := pk_run ts i t ht t0 t2 a HA.out
          rw [HL.out] at p2
          rw [p6, cpR_len, HQ.out] at hpm
          rw [HQ.out] at t1
          obtain ⟨bk, hbk⟩ : ∃ bk, t.back = bk := ⟨_, rfl⟩
          obtain ⟨n, hn⟩ : ∃ n, t.n = n := ⟨_, rfl⟩
          rw [hbk] at t0 t1 t2 p3 p6
          rw [hn] at t3 t4 p1 p6 hpm
          obtain ⟨z, hz⟩ : ∃ z, 124 + n = z := ⟨_, rfl⟩
          rw [hz] at p1
          have P5 := Aside0.mk p5
          have P6 := Aside0.mk p6
          have HZ := Aside0.mk hz
          have hz1 : 128 ≤ z := by omega
          have hz2 : z ≤ 254 := by omega
          have w1 : IntKind.i64.wrap ((a : Int) + 1) = (a : Int) + 1 := by rw [IntKind.wrap_i64]; omega
          have w2 : IntKind.i64.wrap ((z : Int) + -124) = (n : Int) := by rw [IntKind.wrap_i64]; omega
          have w3 : IntKind.i64.wrap (z : Int) = (z : Int) := by rw [IntKind.wrap_i64]; omega
          clear hbk hn hz p5 p6
          have g1 : decide ((a : Int) < (L : Int)) = true := decide_eq_true (by omega)
          have g1' : decide (a < L) = true := decide_eq_true (by omega)
          have g4 : decide ((z : Int) < 128) = false := decide_eq_false (by omega)
          have g4' : decide (z < 128) = false := decide_eq_false (by omega)
          obtain ⟨ad, eA, h1⟩ := rdE_at (enc := Value.int .u8) (d := (0 : Int)) (HR.out.below HB.out) a (by rw [HL.out]; omega)
          cases eA
          rw [p1] at h1
          have HG := Aside0.mk (le_Get_calls (.slice (some ad) L c0) (pkE ts) ((a : Int) + 1) 2 wr (by have := HR.out.below HB.out; exact this) HIB.out)
          rw [p3, p4] at HG
          clear p1 p3 p4
          go_wp2_with fail
          with_reducible refine HG.out.mono ?_
          rintro e w2' ⟨rfl, hb⟩
          have HO2 := Aside0.mk (HO.out.below hb)
          have HB2 := Aside0.mk (below_step HB.out hb)
          clear hb g1 g1' g4 g4' h1 w1 w2 w3
          have w1 : IntKind.i64.wrap ((a : Int) + 1 + 2) = (a : Int) + 1 + 2 := by rw [IntKind.wrap_i64]; omega
          have w4 : IntKind.i64.wrap (bk : Int) = (bk : Int) := by rw [IntKind.wrap_i64]; omega
          have w5 : IntKind.i64.wrap ((M : Int) - (q : Int)) = (M : Int) - (q : Int) := by rw [IntKind.wrap_i64]; omega
          have g5 : decide ((bk : Int) < 1) = false := decide_eq_false (by omega)
          have g5' : decide (bk < 1) = false := decide_eq_false (by omega)
          have g6 : decide (4096 < (bk : Int)) = false := decide_eq_false (by omega)
          have g6' : decide (4096 < bk) = false := decide_eq_false (by omega)
          have g7 : decide ((q : Int) < (bk : Int)) = false := decide_eq_false (by omega)
          have g7' : decide (q < bk) = false := decide_eq_false (by omega)
          have g8 : decide (130 < (n : Int)) = false := decide_eq_false (by omega)
          have g8' : decide (130 < n) = false := decide_eq_false (by omega)
          have g9 : decide ((M : Int) - (q : Int) < (n : Int)) = false := decide_eq_false (by omega)
          have g10 : (bk = 0) = False := by simp; omega
          go_upto_block 2 with (fail)
          clear g5 g5' g6 g6' g7 g7' g8 g8' g9 g10 w5 w1
          go_wp2_with fail
          go_loopw [6, 94] (fun v6 v94 w' => ∃ (k r c' : Nat) (A' : Option Addr), v6 = .slice A' r c' ∧ v94 = .int .i64 (k : Int) ∧ k ≤ n ∧ Aside0 (r = q + k) ∧ Aside0 (OwnO (Value.int .u8) w' w.heap.size 5 (.slice A' r c') (cpR (pkX (ts.take i)) bk k)) ∧ Aside0 (Below w.heap.size w w')) (fun _ v94 _ => n - (intOf v94).toNat)
          case atStart => exact ⟨0, q, c, A, rfl, rfl, Nat.zero_le _, Aside0.mk rfl, HO2, HB2⟩
          case round =>
            clear HO HB HO2 HB2
            obtain ⟨k, r, c', A', rfl, rfl, hk, HRQ, HO, HB⟩ := hrel
            have HRL := Aside0.mk (show (cpR (pkX (ts.take i)) bk k).length = r from by rw [cpR_len, HQ.out, HRQ.out])
            by_cases ck : k < n
            · have g4 : decide ((k : Int) < (n : Int)) = true := decide_eq_true (by omega)
              have g4' : decide (k < n) = true := decide_eq_true (by omega)
              obtain ⟨j, hj⟩ : ∃ j, r - bk = j := ⟨_, rfl⟩
              have hr1 := HRQ.out
              have hjr : j < r := by omega
              have w6 : IntKind.i64.wrap ((r : Int) - (bk : Int)) = (j : Int) := by rw [IntKind.wrap_i64]; omega
              obtain ⟨ad', eA', h1⟩ := rdE_at (HO.out.rdE (0 : Int)) j (by rw [HRL.out]; exact hjr)
              cases eA'
              have hr2 : r ≤ 70000 := by omega
              obtain ⟨y, hy⟩ : ∃ y, (cpR (pkX (ts.take i)) bk k).getD j 0 = y := ⟨_, rfl⟩
              rw [hy] at h1
              have HY := Aside0.mk (show cpR (pkX (ts.take i)) bk k ++ [y] = cpR (pkX (ts.take i)) bk (k + 1) from by rw [cpR, HRL.out, hj, hy])
              obtain ⟨A8, d8, w8, hr8, ho8, hk8, hv8⟩ := app8PL (m := 1) [y] rfl HO.out HRL.out rfl HB.out.size (by omega)
              rw [HY.out] at ho8
              have HR8 := Aside0.mk hr8
              have HO8 := Aside0.mk ho8
              have HB8 := Aside0.mk (Kp.from HB.out hk8 (fun k hk => HO.out.ge hk))
              clear hr8 ho8 hk8 hv8 hj hr1 hy
              go_wp2_with (first | ((with_reducible refine gate_builtin (b := .append) (xs := #[.tmp 96, .tmp 105]) rfl ?_); at_builtin; refine app_list rfl (.tmp 96) (.tmp 105) rfl rfl rfl HR8.out ?_) | fail)
              go_roundw
              case rel => exact ⟨k + 1, r + 1, d8, A8, by go_num, by go_num, by omega, Aside0.mk (by rw [HRQ.out]; omega), HO8, HB8⟩
              case measure => simp [intOf] <;> omega
            · have g4 : decide ((k : Int) < (n : Int)) = false := decide_eq_false (by omega)
              have g4' : decide (k < n) = false := decide_eq_false (by omega)
              obtain rfl : k = n := by omega
              rw [← P6.out] at HO
              go_wp2_with fail
              go_roundw
              case rel => exact ⟨i + 1, a + 1 + 2, r, c', A', by go_num, by go_num, by omega, by omega, by rw [HRQ.out]; exact hpm, Aside0.mk (by rw [P5.out]), Aside0.mk (by rw [P6.out, cpR_len, HQ.out, HRQ.out]), HO, HB⟩
              case measure => simp [intOf] <;> omega
      · obtain ⟨z1, z2⟩ := pk_end ts i (by omega)
        have haz : a = L := by rw [← HA.out, z1, HL.out]
        have g1 : decide ((a : Int) < (L : Int)) = false := decide_eq_false (by omega)
        have g1' : decide (a < L) = false := decide_eq_false (by omega)
        rw [z2] at HO
        clear haz
        go_wp2_with fail
        go_meet
        exact ⟨HO, HB⟩
  case rest =>
  obtain ⟨HO, HB⟩ := hcut
  go_wp2_with fail
  go_ret2
  exact ⟨_, rfl, HO.out, HB.out⟩
end Go.Proofs.Ytigdchfjcfljjaa
