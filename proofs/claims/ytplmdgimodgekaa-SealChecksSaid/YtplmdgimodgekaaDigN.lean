/- SHA-256, the reference: its constants. -/
import Derived.Test.YtplmdgimodgekaaDigC
import Derived.Test.YtplmdgimodgekaaDigQ
import Derived.Test.YtplmdgimodgekaaAp
namespace Go.Proofs.Ytplmdgimodgekaa
open Go.RowKit Go.Proofs.YtplmdgimodgekaaW.PrintWords Go.Proofs.YtplmdgimodgekaaW.PrintLast Go.Proofs.YtplmdgimodgekaaW.PrintMore
attribute [local go_sem] max2_int min2_int max_two min_two max_three min_three max_four min_four   -- for this text's walks alone
set_option linter.unusedVariables false
set_option linter.unusedSimpArgs false

theorem infoN64 : (Try.prog.info? 45).map (fun i => (i.zero, i.size, i.bytes)) = some (some (.int .u64 0), 1, 8) := by kernel_rfl
theorem appN {W : World} {base : Nat} {v : Value} {xs : List Nat} (y : Nat) {k : Nat} (HO : OwnO encN W base 45 v xs) (hk : xs.length = k) (hbase : base ≤ W.heap.size) (hl : k ≤ 1000000) :
    ∃ A1 c1 w1, (Builtin.append_ #[161, 161] 161 #[v, .slice (some ⟨W.heap.size, 0, none⟩) 1 1]).run Try.prog (W.alloc (.cells #[.int .u64 (y : Int)] 45)) = .ok (.slice A1 (k + 1) c1) w1 ∧ OwnO encN w1 base 45 (.slice A1 (k + 1) c1) (xs ++ [y]) ∧ Kp (fun b => v.ownBlock = some b) W w1 ∧ ((Value.slice A1 (k + 1) c1).ownBlock = v.ownBlock ∨ ∃ b, (Value.slice A1 (k + 1) c1).ownBlock = some b ∧ W.heap.size ≤ b) :=
  app_lits (P := Try.prog) (d := (0 : Nat)) oneN Try.underlying161 infoN64 rfl (by omega) [y] rfl HO hk rfl hbase (by omega)
set_option maxHeartbeats 8000000 in
set_option maxRecDepth 100000 in
theorem times_calls (vd : Value) (d : List Nat) (x : Nat) (w : World) (hr : RdE encN 0 w vd d) (hd : isD d) (hl : d.length ≤ 100) (hx : x < 1099511627776) :
    Calls Try.prog 150 #[vd, .int .u64 (x : Int)] w fun e w' => ∃ v', e = .returned v' ∧ OwnO encN w' w.heap.size 45 v' (tmP d x) ∧ Below w.heap.size w w' := by
  obtain ⟨n, hn⟩ : ∃ n, d.length = n := ⟨_, rfl⟩
  have hr0 := hr
  obtain ⟨A, c, ev, hc, _⟩ := hr0
  rw [hn] at ev hl
  subst ev
  have HR := Aside0.mk hr
  have HN := Aside0.mk hn
  have HD := Aside0.mk hd
  clear hr hn hd hc
  go_enter Try.func150, Try.ntmps150
  go_wp2_with fail
  go_loopw [5, 6, 7] (fun v3 v4 v5 w' => ∃ k : Nat, k ≤ n ∧ v5 = .int .i64 k ∧ v4 = .int .u64 (tC d x k : Nat) ∧ Aside0 (OwnO encN w' w.heap.size 45 v3 (tmO d x k)) ∧ Aside0 (Below w.heap.size w w')) (fun _ _ v5 _ => n - (intOf v5).toNat)
  case atStart => exact ⟨0, by omega, rfl, rfl, ⟨OwnO.nil _ _ _ _⟩, ⟨Below.refl _ _⟩⟩
  case round =>
    obtain ⟨k, hk, rfl, rfl, HO, HB⟩ := hrel
    obtain ⟨A3, c3, e3, hc3, _⟩ := HO.out.sl (tmO_len d x k)
    subst e3
    have hcx := tC_le HD.out x k
    have HT := Aside0.mk (tmO_succ d x k)
    have HC1 := Aside0.mk (show tC d x (k + 1) = (tC d x k + d.getD k 0 * x) / 65536 from rfl)
    have HT1 := Aside0.mk (show tD d x k = (tC d x k + d.getD k 0 * x) % 65536 from rfl)
    by_cases c1 : k < n
    · obtain ⟨ad, eA, hce⟩ := rdE_at (HR.out.below HB.out) k (by rw [HN.out]; exact c1)
      have ha := HD.out.getD k
      obtain ⟨a, ea⟩ : ∃ a, d.getD k 0 = a := ⟨_, rfl⟩
      obtain ⟨t, et⟩ : ∃ t, tC d x k = t := ⟨_, rfl⟩
      rw [ea] at hce ha HC1 HT1
      rw [et] at hcx HC1 HT1 ⊢
      cases eA
      have hp : a * x ≤ 65535 * x := Nat.mul_le_mul_right x (by omega)
      obtain ⟨m, hm⟩ : ∃ m, a * x = m := ⟨_, rfl⟩
      rw [hm] at hp HC1 HT1
      have hmi : (a : Int) * (x : Int) = (m : Int) := by rw [← hm]; exact (Int.natCast_mul a x).symm
      have hbd : m ≤ 72057594037927936 := by omega
      clear ea et hm hp
      obtain ⟨A7, c7, w7, hr7, ho7, hk7, _⟩ := appN ((t + m) % 65536) HO.out (tmO_len d x k) HB.out.size (by omega)
      rw [← HT1.out, HT.out] at ho7
      have HO7 := Aside0.mk ho7
      have HB7 := Aside0.mk (Kp.from HB.out hk7 (fun b hb => HO.out.ge hb))
      rw [show (((t + m) % 65536 : Nat) : Int) = ((t : Int) + (m : Int)) % 65536 by omega] at hr7
      have HR7 := Aside0.mk hr7
      clear hr7 ho7 hk7
      go_wp2_with (first | ((with_reducible refine gate_builtin (b := .append) (xs := #[.tmp 22, .tmp 25]) rfl ?_); at_builtin; refine app_list rfl (.tmp 22) (.tmp 25) rfl rfl rfl HR7.out ?_))
      go_roundw
      case rel => exact ⟨k + 1, by omega, by go_num, congrArg (Value.int .u64) (by rw [HC1.out]; omega), HO7, HB7⟩
      case measure => simp [intOf] <;> omega
    · obtain rfl : k = n := by omega
      have HCF := Aside0.mk (show tC d x k < 65536 ^ 4 by have : (65536 : Nat) ^ 4 = 18446744073709551616 := rfl; omega)
      have HE := Aside0.mk (show tmO d x k ++ dgs 4 (tC d x k) = tmP d x by rw [tmP, HN.out])
      have HLK := Aside0.mk (tmO_len d x k)
      obtain ⟨t, et⟩ : ∃ t, tC d x k = t := ⟨_, rfl⟩
      rw [et] at hcx HCF HE ⊢
      clear et HC1 HT1 HT
      go_wp2_with fail
      go_loopg [5, 6] 4 (fun kq v3 v4 w' => ∃ (f c m : Nat) (ds : List Nat), f ≤ kq ∧ m + f ≤ 200 ∧ c < 281474976710656 ∧ v4 = .int .u64 (c : Int) ∧ Aside0 (c < 65536 ^ f) ∧ Aside0 (ds.length = m) ∧ Aside0 (ds ++ dgs f c = tmP d x) ∧ Aside0 (OwnO encN w' w.heap.size 45 v3 ds) ∧ Aside0 (Below w.heap.size w w'))
      case atStart => exact ⟨4, t, k, tmO d x k, by omega, by omega, by omega, rfl, HCF, HLK, HE, HO, HB⟩
      case round =>
        clear HO HB HE HCF HLK
        obtain ⟨f, c, m, ds, hf, hmf, hc48, rfl, HC, HM, HE, HO, HB⟩ := hrel
        obtain ⟨A3, c3, e3, hc3, _⟩ := HO.out.sl HM.out
        subst e3
        by_cases c1 : 0 < c
        · obtain ⟨f', hf'⟩ : ∃ f', f' + 1 = f := by
            rcases Nat.eq_zero_or_pos f with h | h
            · exfalso; have := HC.out; rw [h] at this; simp at this; omega
            · exact ⟨f - 1, by omega⟩
          have HE2 := Aside0.mk (show (ds ++ [c % 65536]) ++ dgs f' (c / 65536) = tmP d x by have := HE.out; rw [← hf', dgs, if_pos c1] at this; rw [List.append_assoc]; exact this)
          have HC2 := Aside0.mk (show c / 65536 < 65536 ^ f' by have := HC.out; rw [← hf', Nat.pow_succ] at this; exact Nat.div_lt_of_lt_mul (by rw [Nat.mul_comm]; exact this))
          have hf2 : f' < f := by omega
          clear hf'
          obtain ⟨A7, c7, w7, hr7, ho7, hk7, _⟩ := appN (c % 65536) HO.out HM.out HB.out.size (by omega)
          have HO7 := Aside0.mk ho7
          have HM7 := Aside0.mk (show (ds ++ [c % 65536]).length = m + 1 by rw [List.length_append, HM.out]; rfl)
          have HB7 := Aside0.mk (Kp.from HB.out hk7 (fun b hb => HO.out.ge hb))
          rw [show ((c % 65536 : Nat) : Int) = (c : Int) % 65536 by omega] at hr7
          have HR7 := Aside0.mk hr7
          clear hr7 ho7 hk7
          go_wp2_with (first | ((with_reducible refine gate_builtin (b := .append) (xs := #[.tmp 31, .tmp 34]) rfl ?_); at_builtin; refine app_list rfl (.tmp 31) (.tmp 34) rfl rfl rfl HR7.out ?_))
          go_roundg f'
          case measure => omega
          case rel => exact ⟨f', c / 65536, m + 1, _, by omega, by omega, by omega, congrArg (Value.int .u64) (by omega), HC2, HM7, HE2, HO7, HB7⟩
        · obtain rfl : c = 0 := by omega
          have HE2 := Aside0.mk (show ds = tmP d x by
            have := HE.out
            rw [show dgs f 0 = [] by cases f <;> rfl, List.append_nil] at this
            exact this)
          go_wp2_with fail
          go_ret
          exact ⟨_, rfl, by rw [← HE2.out]; exact HO.out, HB.out⟩

set_option maxHeartbeats 8000000 in
set_option maxRecDepth 100000 in
theorem high_2 (x p : Nat) (xi : Int) (w : World) (hxi : xi = (x : Int)) (hx : x < 1099511627776) (hp : p ≤ 1000) :
    Calls Try.prog 144 #[.int .u64 xi, .int .i64 2, .int .u64 (p : Int)] w fun e w' => e = .returned (.bool (hiN x 2 p)) ∧ Below w.heap.size w w' := by
  subst hxi
  have HO0 := Aside0.mk (show OwnO encN (w.alloc (.cells #[.int .u64 1] 45)) w.heap.size 45 (.slice (some ⟨w.heap.size, 0, none⟩) 1 1) (hiD x 0) from OwnO.of_own (own_lit_of (enc := encN) w w.heap.size 45 [1] (Nat.le_refl _) (by simp)))
  have HB0 := Aside0.mk (below_alloc (Below.refl w.heap.size w) (.cells #[.int .u64 1] 45))
  go_enter Try.func144, Try.ntmps144
  go_wp2_with fail
  go_loopw [7, 8] (fun v4 v5 w' => ∃ (i m : Nat), i ≤ 2 ∧ v5 = .int .i64 i ∧ m ≤ 1 + 4 * i ∧ Aside0 ((hiD x i).length = m) ∧ Aside0 (OwnO encN w' w.heap.size 45 v4 (hiD x i)) ∧ Aside0 (Below w.heap.size w w')) (fun _ v5 _ => 2 - (intOf v5).toNat)
  case atStart => exact ⟨0, 1, by omega, rfl, by omega, ⟨rfl⟩, HO0, HB0⟩
  case round =>
    clear HO0 HB0
    obtain ⟨i, m, hi, rfl, hm, HM, HO, HB⟩ := hrel
    obtain ⟨A4, c4, e4, hc4, _⟩ := HO.out.sl HM.out
    subst e4
    by_cases c1 : i < 2
    · go_wp2_with fail
      with_reducible refine (times_calls _ (hiD x i) x _ (HO.out.rdE 0) (hiD_isD x i) (by rw [HM.out]; omega) hx).mono ?_
      rintro e w1 ⟨v1, rfl, ho, hb⟩
      have HO1 := Aside0.mk (show OwnO encN w1 w.heap.size 45 v1 (hiD x (i + 1)) from ho.weaken HB.out.size)
      have HB1 := Aside0.mk (below_step HB.out hb)
      have HL1 := Aside0.mk (hiD_len x (i + 1))
      clear ho hb
      go_wp2_with fail
      go_roundw
      case rel => exact ⟨i + 1, _, by omega, by go_num, HL1.out, ⟨rfl⟩, HO1, HB1⟩
      case measure => simp [intOf] <;> omega
    · obtain rfl : i = 2 := by omega
      have HP0 := Aside0.mk (show OwnO encN wr w.heap.size 45 (.slice A4 m c4) (padD (hiD x 2) 0) by rw [padD, List.replicate, List.append_nil]; exact HO.out)
      go_wp2_with fail
      go_loopg [7] 6 (fun kq v4 w' => ∃ (z q : Nat), 6 ≤ q + kq ∧ q ≤ 100 ∧ Aside0 ((padD (hiD x 2) z).length = q) ∧ Aside0 (OwnO encN w' w.heap.size 45 v4 (padD (hiD x 2) z)) ∧ Aside0 (Below w.heap.size w w'))
      case atStart => exact ⟨0, m, by omega, by omega, ⟨by rw [padD_len]; exact HM.out⟩, HP0, HB⟩
      case round =>
        clear HO HB HM HP0
        obtain ⟨z, q, hz, hq, HM, HO, HB⟩ := hrel
        obtain ⟨A5, c5, e5, hc5, _⟩ := HO.out.sl HM.out
        subst e5
        by_cases c1 : q < 6
        · obtain ⟨A7, c7, w7, hr7, ho7, hk7, _⟩ := appN 0 HO.out HM.out HB.out.size (by omega)
          rw [padD_succ] at ho7
          have HO7 := Aside0.mk ho7
          have HM7 := Aside0.mk (show (padD (hiD x 2) (z + 1)).length = q + 1 by have := HM.out; rw [padD_len] at this ⊢; omega)
          have HB7 := Aside0.mk (Kp.from HB.out hk7 (fun b hb => HO.out.ge hb))
          rw [show ((0 : Nat) : Int) = 0 from rfl] at hr7
          have HR7 := Aside0.mk hr7
          clear hr7 ho7 hk7
          go_wp2_with (first | ((with_reducible refine gate_builtin (b := .append) (xs := #[.tmp 25, .tmp 26]) rfl ?_); at_builtin; refine app_list rfl (.tmp 25) (.tmp 26) rfl rfl rfl HR7.out ?_))
          go_roundg (6 - (q + 1))
          case measure => omega
          case rel => exact ⟨z + 1, q + 1, by omega, by omega, HM7, HO7, HB7⟩
        · obtain ⟨ad, eA, h1⟩ := rdE_at (HO.out.rdE 0) 4 (by rw [HM.out]; omega)
          obtain ⟨ad2, eA2, h2⟩ := rdE_at (HO.out.rdE 0) 5 (by rw [HM.out]; omega)
          cases eA
          cases eA2
          rw [padD_get] at h1 h2
          have HW := Aside0.mk (hiW_of x 2 (by omega))
          have b1 := (hiD_isD x 2).getD 4
          have b2 := (hiD_isD x 2).getD 5
          rw [show 2 * 2 = 4 from rfl, show 4 + 1 = 5 from rfl] at HW
          obtain ⟨y1, e1⟩ : ∃ y, (hiD x 2).getD 4 0 = y := ⟨_, rfl⟩
          obtain ⟨y2, e2⟩ : ∃ y, (hiD x 2).getD 5 0 = y := ⟨_, rfl⟩
          rw [e1] at h1 b1 HW
          rw [e2] at h2 b2 HW
          rw [Addr.add, if_neg (by omega)] at h1 h2
          clear e1 e2
          go_wp2_with fail
          go_quiet (fail)
          go_wp2_with fail
          go_ret
          refine ⟨?_, pw_below_drewN HB.out _⟩
          rw [hiN, ← HW.out]
          show Ending.returned (.bool (decide ((p : Int) ≤ (y1 : Int) + (y2 : Int) * 65536))) = _
          exact congrArg (fun b => Ending.returned (.bool b)) (decide_eq_decide.2 (by omega))
set_option maxHeartbeats 8000000 in
set_option maxRecDepth 100000 in
theorem high_3 (x p : Nat) (xi : Int) (w : World) (hxi : xi = (x : Int)) (hx : x < 1099511627776) (hp : p ≤ 1000) :
    Calls Try.prog 144 #[.int .u64 xi, .int .i64 3, .int .u64 (p : Int)] w fun e w' => e = .returned (.bool (hiN x 3 p)) ∧ Below w.heap.size w w' := by
  subst hxi
  have HO0 := Aside0.mk (show OwnO encN (w.alloc (.cells #[.int .u64 1] 45)) w.heap.size 45 (.slice (some ⟨w.heap.size, 0, none⟩) 1 1) (hiD x 0) from OwnO.of_own (own_lit_of (enc := encN) w w.heap.size 45 [1] (Nat.le_refl _) (by simp)))
  have HB0 := Aside0.mk (below_alloc (Below.refl w.heap.size w) (.cells #[.int .u64 1] 45))
  go_enter Try.func144, Try.ntmps144
  go_wp2_with fail
  go_loopw [7, 8] (fun v4 v5 w' => ∃ (i m : Nat), i ≤ 3 ∧ v5 = .int .i64 i ∧ m ≤ 1 + 4 * i ∧ Aside0 ((hiD x i).length = m) ∧ Aside0 (OwnO encN w' w.heap.size 45 v4 (hiD x i)) ∧ Aside0 (Below w.heap.size w w')) (fun _ v5 _ => 3 - (intOf v5).toNat)
  case atStart => exact ⟨0, 1, by omega, rfl, by omega, ⟨rfl⟩, HO0, HB0⟩
  case round =>
    clear HO0 HB0
    obtain ⟨i, m, hi, rfl, hm, HM, HO, HB⟩ := hrel
    obtain ⟨A4, c4, e4, hc4, _⟩ := HO.out.sl HM.out
    subst e4
    by_cases c1 : i < 3
    · go_wp2_with fail
      with_reducible refine (times_calls _ (hiD x i) x _ (HO.out.rdE 0) (hiD_isD x i) (by rw [HM.out]; omega) hx).mono ?_
      rintro e w1 ⟨v1, rfl, ho, hb⟩
      have HO1 := Aside0.mk (show OwnO encN w1 w.heap.size 45 v1 (hiD x (i + 1)) from ho.weaken HB.out.size)
      have HB1 := Aside0.mk (below_step HB.out hb)
      have HL1 := Aside0.mk (hiD_len x (i + 1))
      clear ho hb
      go_wp2_with fail
      go_roundw
      case rel => exact ⟨i + 1, _, by omega, by go_num, HL1.out, ⟨rfl⟩, HO1, HB1⟩
      case measure => simp [intOf] <;> omega
    · obtain rfl : i = 3 := by omega
      have HP0 := Aside0.mk (show OwnO encN wr w.heap.size 45 (.slice A4 m c4) (padD (hiD x 3) 0) by rw [padD, List.replicate, List.append_nil]; exact HO.out)
      go_wp2_with fail
      go_loopg [7] 8 (fun kq v4 w' => ∃ (z q : Nat), 8 ≤ q + kq ∧ q ≤ 100 ∧ Aside0 ((padD (hiD x 3) z).length = q) ∧ Aside0 (OwnO encN w' w.heap.size 45 v4 (padD (hiD x 3) z)) ∧ Aside0 (Below w.heap.size w w'))
      case atStart => exact ⟨0, m, by omega, by omega, ⟨by rw [padD_len]; exact HM.out⟩, HP0, HB⟩
      case round =>
        clear HO HB HM HP0
        obtain ⟨z, q, hz, hq, HM, HO, HB⟩ := hrel
        obtain ⟨A5, c5, e5, hc5, _⟩ := HO.out.sl HM.out
        subst e5
        by_cases c1 : q < 8
        · obtain ⟨A7, c7, w7, hr7, ho7, hk7, _⟩ := appN 0 HO.out HM.out HB.out.size (by omega)
          rw [padD_succ] at ho7
          have HO7 := Aside0.mk ho7
          have HM7 := Aside0.mk (show (padD (hiD x 3) (z + 1)).length = q + 1 by have := HM.out; rw [padD_len] at this ⊢; omega)
          have HB7 := Aside0.mk (Kp.from HB.out hk7 (fun b hb => HO.out.ge hb))
          rw [show ((0 : Nat) : Int) = 0 from rfl] at hr7
          have HR7 := Aside0.mk hr7
          clear hr7 ho7 hk7
          go_wp2_with (first | ((with_reducible refine gate_builtin (b := .append) (xs := #[.tmp 25, .tmp 26]) rfl ?_); at_builtin; refine app_list rfl (.tmp 25) (.tmp 26) rfl rfl rfl HR7.out ?_))
          go_roundg (8 - (q + 1))
          case measure => omega
          case rel => exact ⟨z + 1, q + 1, by omega, by omega, HM7, HO7, HB7⟩
        · obtain ⟨ad, eA, h1⟩ := rdE_at (HO.out.rdE 0) 6 (by rw [HM.out]; omega)
          obtain ⟨ad2, eA2, h2⟩ := rdE_at (HO.out.rdE 0) 7 (by rw [HM.out]; omega)
          cases eA
          cases eA2
          rw [padD_get] at h1 h2
          have HW := Aside0.mk (hiW_of x 3 (by omega))
          have b1 := (hiD_isD x 3).getD 6
          have b2 := (hiD_isD x 3).getD 7
          rw [show 2 * 3 = 6 from rfl, show 6 + 1 = 7 from rfl] at HW
          obtain ⟨y1, e1⟩ : ∃ y, (hiD x 3).getD 6 0 = y := ⟨_, rfl⟩
          obtain ⟨y2, e2⟩ : ∃ y, (hiD x 3).getD 7 0 = y := ⟨_, rfl⟩
          rw [e1] at h1 b1 HW
          rw [e2] at h2 b2 HW
          rw [Addr.add, if_neg (by omega)] at h1 h2
          clear e1 e2
          go_wp2_with fail
          go_quiet (fail)
          go_wp2_with fail
          go_ret
          refine ⟨?_, pw_below_drewN HB.out _⟩
          rw [hiN, ← HW.out]
          show Ending.returned (.bool (decide ((p : Int) ≤ (y1 : Int) + (y2 : Int) * 65536))) = _
          exact congrArg (fun b => Ending.returned (.bool b)) (decide_eq_decide.2 (by omega))


set_option maxHeartbeats 8000000 in
set_option maxRecDepth 100000 in
theorem root_2 (p : Nat) (w : World) (hp : p ≤ 1000) :
    Calls Try.prog 124 #[.int .u64 (p : Int), .int .i64 2] w fun e w' => e = .returned (.int .u32 (rtW p 2 : Nat)) ∧ Below w.heap.size w w' := by
  go_enter Try.func124, Try.ntmps124
  go_wp2_with fail
  go_loopg [5, 6] 37 (fun kq v3 v4 w' => ∃ (k X B : Nat), k ≤ kq ∧ k ≤ 37 ∧ v3 = .int .u64 (X : Int) ∧ v4 = .int .u64 (B : Int) ∧ Aside0 (B = bitN k) ∧ Aside0 (X + 2 ^ k ≤ 2 ^ 37) ∧ Aside0 (rtN p 2 k X = rtN p 2 37 0) ∧ Aside0 (Below w.heap.size w w'))
  case atStart => exact ⟨37, 0, 68719476736, by omega, by omega, rfl, rfl, ⟨rfl⟩, ⟨by omega⟩, ⟨rfl⟩, ⟨Below.refl _ _⟩⟩
  case round =>
    obtain ⟨k, X, B, hk, hk37, rfl, rfl, HBB, HX, HR, HB⟩ := hrel
    cases k with
    | zero =>
      obtain rfl : B = 0 := HBB.out
      have HT := Aside0.mk (show X % 4294967296 = rtW p 2 by rw [rtW, ← HR.out]; rfl)
      go_wp2_with fail
      go_ret
      exact ⟨congrArg (fun z => Ending.returned (Value.int .u32 z)) (show (X : Int) % 4294967296 = ((rtW p 2 : Nat) : Int) by have := HT.out; omega), HB.out⟩
    | succ j =>
      have hb1 : B = 2 ^ j := HBB.out
      have hb2 : 0 < B := by rw [hb1]; exact Nat.two_pow_pos j
      have hx2 : X + 2 * B ≤ 137438953472 := by have := HX.out; rw [Nat.pow_succ] at this; rw [hb1]; omega
      have HH := Aside0.mk (bitN_half j)
      have HH2 := Aside0.mk (show B / 2 = bitN j by rw [← HH.out, HBB.out])
      have HR1 := Aside0.mk (show rtN p 2 j (if hiN (X + B) 2 p then X else X + B) = rtN p 2 37 0 by rw [← HR.out, rtN, hb1])
      have HX1 := Aside0.mk (show X + B + 2 ^ j ≤ 2 ^ 37 by rw [← hb1]; have : (2 : Nat) ^ 37 = 137438953472 := rfl; omega)
      have HX0 := Aside0.mk (show X + 2 ^ j ≤ 2 ^ 37 by rw [← hb1]; have : (2 : Nat) ^ 37 = 137438953472 := rfl; omega)
      clear hb1
      go_wp2_with fail
      with_reducible refine (high_2 (X + B) p _ _ (by omega) (by omega) hp).mono ?_
      rintro e w1 ⟨rfl, hb⟩
      have HB1 := Aside0.mk (below_step HB.out hb)
      clear hb
      cases hh : hiN (X + B) 2 p with
      | true =>
        have HR2 := Aside0.mk (show rtN p 2 j X = rtN p 2 37 0 by rw [← HR1.out, if_pos hh])
        clear hh
        go_wp2_with fail
        go_roundg j
        case measure => omega
        case rel => exact ⟨j, X, B / 2, by omega, by omega, rfl, congrArg (Value.int .u64) (by omega), HH2, HX0, HR2, HB1⟩
      | false =>
        have HR2 := Aside0.mk (show rtN p 2 j (X + B) = rtN p 2 37 0 by rw [← HR1.out, if_neg (by rw [hh]; decide)])
        clear hh
        go_wp2_with fail
        go_roundg j
        case measure => omega
        case rel => exact ⟨j, X + B, B / 2, by omega, by omega, congrArg (Value.int .u64) (by omega), congrArg (Value.int .u64) (by omega), HH2, HX1, HR2, HB1⟩
set_option maxHeartbeats 8000000 in
set_option maxRecDepth 100000 in
theorem root_3 (p : Nat) (w : World) (hp : p ≤ 1000) :
    Calls Try.prog 124 #[.int .u64 (p : Int), .int .i64 3] w fun e w' => e = .returned (.int .u32 (rtW p 3 : Nat)) ∧ Below w.heap.size w w' := by
  go_enter Try.func124, Try.ntmps124
  go_wp2_with fail
  go_loopg [5, 6] 37 (fun kq v3 v4 w' => ∃ (k X B : Nat), k ≤ kq ∧ k ≤ 37 ∧ v3 = .int .u64 (X : Int) ∧ v4 = .int .u64 (B : Int) ∧ Aside0 (B = bitN k) ∧ Aside0 (X + 2 ^ k ≤ 2 ^ 37) ∧ Aside0 (rtN p 3 k X = rtN p 3 37 0) ∧ Aside0 (Below w.heap.size w w'))
  case atStart => exact ⟨37, 0, 68719476736, by omega, by omega, rfl, rfl, ⟨rfl⟩, ⟨by omega⟩, ⟨rfl⟩, ⟨Below.refl _ _⟩⟩
  case round =>
    obtain ⟨k, X, B, hk, hk37, rfl, rfl, HBB, HX, HR, HB⟩ := hrel
    cases k with
    | zero =>
      obtain rfl : B = 0 := HBB.out
      have HT := Aside0.mk (show X % 4294967296 = rtW p 3 by rw [rtW, ← HR.out]; rfl)
      go_wp2_with fail
      go_ret
      exact ⟨congrArg (fun z => Ending.returned (Value.int .u32 z)) (show (X : Int) % 4294967296 = ((rtW p 3 : Nat) : Int) by have := HT.out; omega), HB.out⟩
    | succ j =>
      have hb1 : B = 2 ^ j := HBB.out
      have hb2 : 0 < B := by rw [hb1]; exact Nat.two_pow_pos j
      have hx2 : X + 2 * B ≤ 137438953472 := by have := HX.out; rw [Nat.pow_succ] at this; rw [hb1]; omega
      have HH := Aside0.mk (bitN_half j)
      have HH2 := Aside0.mk (show B / 2 = bitN j by rw [← HH.out, HBB.out])
      have HR1 := Aside0.mk (show rtN p 3 j (if hiN (X + B) 3 p then X else X + B) = rtN p 3 37 0 by rw [← HR.out, rtN, hb1])
      have HX1 := Aside0.mk (show X + B + 2 ^ j ≤ 2 ^ 37 by rw [← hb1]; have : (2 : Nat) ^ 37 = 137438953472 := rfl; omega)
      have HX0 := Aside0.mk (show X + 2 ^ j ≤ 2 ^ 37 by rw [← hb1]; have : (2 : Nat) ^ 37 = 137438953472 := rfl; omega)
      clear hb1
      go_wp2_with fail
      with_reducible refine (high_3 (X + B) p _ _ (by omega) (by omega) hp).mono ?_
      rintro e w1 ⟨rfl, hb⟩
      have HB1 := Aside0.mk (below_step HB.out hb)
      clear hb
      cases hh : hiN (X + B) 3 p with
      | true =>
        have HR2 := Aside0.mk (show rtN p 3 j X = rtN p 3 37 0 by rw [← HR1.out, if_pos hh])
        clear hh
        go_wp2_with fail
        go_roundg j
        case measure => omega
        case rel => exact ⟨j, X, B / 2, by omega, by omega, rfl, congrArg (Value.int .u64) (by omega), HH2, HX0, HR2, HB1⟩
      | false =>
        have HR2 := Aside0.mk (show rtN p 3 j (X + B) = rtN p 3 37 0 by rw [← HR1.out, if_neg (by rw [hh]; decide)])
        clear hh
        go_wp2_with fail
        go_roundg j
        case measure => omega
        case rel => exact ⟨j, X + B, B / 2, by omega, by omega, congrArg (Value.int .u64) (by omega), congrArg (Value.int .u64) (by omega), HH2, HX1, HR2, HB1⟩

theorem okP_succ (l : List Nat) (p k : Nat) (h : k < l.length) : okP (l.take (k + 1)) p = (okP (l.take k) p && (p % l.getD k 0 != 0)) := by
  rw [List.take_add_one, List.getElem?_eq_getElem h, List.getD_eq_getElem?_getD, List.getElem?_eq_getElem h, okP, okP, List.all_append]; simp
set_option maxHeartbeats 8000000 in
set_option maxRecDepth 100000 in
theorem primes_64 (w : World) :
    Calls Try.prog 123 #[.int .i64 64] w fun e w' => ∃ v', e = .returned v' ∧ OwnO encN w' w.heap.size 45 v' p64L ∧ Below w.heap.size w w' := by
  go_enter Try.func123, Try.ntmps123
  go_wp2_with fail
  go_loopg [3, 4, 5, 6] 310 (fun kq v2 v3 v4 v5 w' => ∃ (k pp n : Nat), 310 ≤ k + kq ∧ k ≤ 310 ∧ n ≤ 310 ∧ v3 = .int .u64 (pp : Int) ∧ Aside0 (k + 2 = pp) ∧ Aside0 ((prL k).length = n) ∧ Aside0 (OwnO encN w' w.heap.size 45 v2 (prL k)) ∧ Aside0 (Below w.heap.size w w'))
  case atStart => exact ⟨0, 2, 0, by omega, by omega, by omega, rfl, ⟨rfl⟩, ⟨rfl⟩, ⟨OwnO.nil _ _ _ _⟩, ⟨Below.refl _ _⟩⟩
  case round =>
    obtain ⟨k, pp, n, hkq, hk, hn, rfl, HP, HN, HO, HB⟩ := hrel
    obtain ⟨A2, c2, e2, hc2, _⟩ := HO.out.sl HN.out
    subst e2
    have hpp : pp ≤ 312 := by have := HP.out; omega
    by_cases c1 : n < 64
    · have hk3 : k < 310 := by
        rcases Nat.lt_or_ge k 310 with h | h
        · exact h
        · exfalso
          have := HN.out
          rw [show k = 310 by omega, prL_310] at this
          have : p64L.length = 64 := rfl
          omega
      go_wp2_with fail
      go_loopw [5, 6] (fun v4 v5 w' => ∃ (j : Nat) (b : Bool), j ≤ n ∧ v5 = .int .i64 j ∧ v4 = .bool b ∧ Aside0 (b = okP ((prL k).take j) pp) ∧ Aside0 (OwnO encN w' w.heap.size 45 (.slice A2 n c2) (prL k)) ∧ Aside0 (Below w.heap.size w w')) (fun _ v5 _ => n - (intOf v5).toNat)
      case atStart => exact ⟨0, true, by omega, rfl, rfl, ⟨rfl⟩, HO, HB⟩
      case round =>
        clear HO HB
        obtain ⟨j, b, hj, rfl, rfl, HBB, HO, HB⟩ := hrel
        by_cases c3 : j < n
        · have HSU := Aside0.mk (okP_succ (prL k) pp j (by rw [HN.out]; exact c3))
          obtain ⟨ad, eA, hce⟩ := rdE_at (HO.out.rdE 0) j (by rw [HN.out]; exact c3)
          have hq0 : 2 ≤ (prL k).getD j 0 := by
            rw [List.getD_eq_getElem?_getD, List.getElem?_eq_getElem (by rw [HN.out]; exact c3)]
            exact (prL_bd k _ (List.getElem_mem _)).1
          cases eA
          obtain ⟨q, eq⟩ : ∃ q, (prL k).getD j 0 = q := ⟨_, rfl⟩
          rw [eq] at hce hq0 HSU
          clear eq
          cases b with
          | false =>
            rw [← HBB.out, Bool.false_and] at HSU
            go_wp2_with fail
            go_roundw
            case rel => exact ⟨j + 1, false, by omega, by go_num, rfl, ⟨HSU.out.symm⟩, HO, HB⟩
            case measure => simp [intOf] <;> omega
          | true =>
            rw [← HBB.out, Bool.true_and] at HSU
            obtain ⟨r, hr⟩ : ∃ r, pp % q = r := ⟨_, rfl⟩
            rw [hr] at HSU
            have hm1 : (pp : Int) % (q : Int) = (r : Int) := by rw [← hr]; exact (Int.natCast_emod pp q).symm
            have hm2 : (pp : Int).tmod (q : Int) = (r : Int) := by rw [Int.tmod_eq_emod_of_nonneg (by omega)]; exact hm1
            have hq1 : ((q : Int) == 0) = false := by rw [beq_eq_false_iff_ne]; omega
            have hq2 : ¬ q = 0 := by omega
            clear hr
            go_wp2_with fail
            go_roundw
            case rel => exact ⟨j + 1, _, by omega, by go_num, rfl, ⟨by rw [HSU.out, Bool.eq_iff_iff]; simp⟩, HO, HB⟩
            case measure => simp [intOf] <;> omega
        · obtain rfl : j = n := by omega
          have HT := Aside0.mk (show b = okP (prL k) pp by rw [HBB.out, List.take_of_length_le (by rw [HN.out]; exact Nat.le_refl _)])
          cases b with
          | false =>
            have HPL := Aside0.mk (show prL (k + 1) = prL k by rw [prL, HP.out, if_neg (by rw [← HT.out]; decide)])
            go_wp2_with fail
            go_roundg (310 - (k + 1))
            case measure => omega
            case rel => exact ⟨k + 1, pp + 1, j, by omega, by omega, hn, by go_num, ⟨by have := HP.out; omega⟩, ⟨by rw [HPL.out]; exact HN.out⟩, ⟨by rw [HPL.out]; exact HO.out⟩, HB⟩
          | true =>
            have HPL := Aside0.mk (show prL k ++ [pp] = prL (k + 1) by rw [prL, HP.out, if_pos HT.out.symm])
            obtain ⟨A7, c7, w7, hr7, ho7, hk7, _⟩ := appN pp HO.out HN.out HB.out.size (by omega)
            rw [HPL.out] at ho7
            have HN7 := Aside0.mk (show (prL (k + 1)).length = j + 1 by rw [← HPL.out, List.length_append, HN.out]; rfl)
            have HO7 := Aside0.mk ho7
            have HB7 := Aside0.mk (Kp.from HB.out hk7 (fun b hb => HO.out.ge hb))
            have HR7 := Aside0.mk hr7
            clear hr7 ho7 hk7
            go_wp2_with (first | ((with_reducible refine gate_builtin (b := .append) (xs := #[.tmp 30, .tmp 32]) rfl ?_); at_builtin; refine app_list rfl (.tmp 30) (.tmp 32) rfl rfl rfl HR7.out ?_))
            go_roundg (310 - (k + 1))
            case measure => omega
            case rel => exact ⟨k + 1, pp + 1, j + 1, by omega, by omega, by omega, by go_num, ⟨by have := HP.out; omega⟩, HN7, HO7, HB7⟩
    · have HF := Aside0.mk (prL_64 k hk (by rw [HN.out]; exact c1))
      go_wp2_with fail
      go_ret
      exact ⟨_, rfl, by rw [← HF.out]; exact HO.out, HB.out⟩
abbrev encM (n : Nat) : Value := .int .u32 (n : Int)
theorem oneM : ∀ x : Nat, (encM x).oneCell' = true := fun _ => rfl
theorem own_cast {W : World} {base e : Nat} {v : Value} {l : List Nat} (h : OwnO encM W base e v l) : OwnO (Value.int .u32) W base e v (l.map Int.ofNat) := by
  have he : encs (Value.int .u32) (l.map Int.ofNat) = encs encM l := by simp [encs]
  rcases h with ⟨h1, h2⟩ | ⟨g, o, cap, cur, h1, h2, h3, h4, h5, h6, h7⟩
  · exact .inl ⟨h1, by rw [h2]; rfl⟩
  · exact .inr ⟨g, o, cap, cur, by rw [List.length_map]; exact h1, h2, h3, by rw [List.length_map]; exact h4, h5, h6, by rw [List.length_map, he]; exact h7⟩
theorem appM {W : World} {base : Nat} {v : Value} {xs : List Nat} (y : Nat) {k : Nat} (HO : OwnO encM W base 196 v xs) (hk : xs.length = k) (hbase : base ≤ W.heap.size) (hl : k ≤ 1000000) :
    ∃ A1 c1 w1, (Builtin.append_ #[76, 76] 76 #[v, .slice (some ⟨W.heap.size, 0, none⟩) 1 1]).run Try.prog (W.alloc (.cells #[.int .u32 (y : Int)] 196)) = .ok (.slice A1 (k + 1) c1) w1 ∧ OwnO encM w1 base 196 (.slice A1 (k + 1) c1) (xs ++ [y]) ∧ Kp (fun b => v.ownBlock = some b) W w1 ∧ ((Value.slice A1 (k + 1) c1).ownBlock = v.ownBlock ∨ ∃ b, (Value.slice A1 (k + 1) c1).ownBlock = some b ∧ W.heap.size ≤ b) :=
  app_lits (P := Try.prog) (d := (0 : Nat)) oneM Try.underlying76 infoU32 rfl (by omega) [y] rfl HO hk rfl hbase (by omega)
theorem cA_len (i : Nat) : (cA i).length = min i 8 := by simp [cA]
theorem cB_len (i : Nat) : (cB i).length = i := by simp [cB]
/-- Two rows, none in the other's block. -/
def Apart (v u : Value) : Prop := ∀ k, v.ownBlock = some k → ¬ u.ownBlock = some k
theorem Apart.symm {v u : Value} (h : Apart v u) : Apart u v := fun k hk hk' => h k hk' hk
theorem Apart.grow {α : Type} {enc : α → Value} {v u v' : Value} {W : World} {base e : Nat} {ys : List α} (h : Apart v u) (hu : OwnO enc W base e u ys) (hat : v'.ownBlock = v.ownBlock ∨ ∃ b, v'.ownBlock = some b ∧ W.heap.size ≤ b) : Apart v' u := fun k hk hk' => by
  rcases hat with e | ⟨b, e, hb⟩
  · exact h k (by rw [← e]; exact hk) hk'
  · rw [e] at hk
    injection hk with hk
    have := hu.lt hk'
    omega

set_option maxHeartbeats 8000000 in
set_option maxRecDepth 100000 in
theorem Constants_calls (w : World) :
    Calls Try.prog 96 #[] w fun e w' => ∃ va vk, e = .returned (.tuple #[va, vk]) ∧ OwnO (Value.int .u32) w' w.heap.size 196 va h0L ∧ OwnO (Value.int .u32) w' w.heap.size 196 vk kT ∧ Apart va vk ∧ Below w.heap.size w w' := by
  go_enter Try.func96, Try.ntmps96
  go_wp2_with fail
  with_reducible refine (primes_64 _).mono ?_
  rintro e w1 ⟨vp, rfl, hp, hb⟩
  obtain ⟨Ap, cp, ep, _, _⟩ := hp.sl (show p64L.length = 64 from rfl)
  subst ep
  have HP1 := Aside0.mk hp
  have HB1 := Aside0.mk hb
  clear hp hb
  go_wp2_with fail
  go_loopw [3, 4, 5] (fun v3 v4 v5 w' => ∃ i n : Nat, i ≤ 64 ∧ v5 = .int .i64 i ∧ n = min i 8 ∧ Aside0 (OwnO encN w' w.heap.size 45 (.slice Ap 64 cp) p64L) ∧ Aside0 (OwnO encM w' w.heap.size 196 v3 (cA i)) ∧ Aside0 (OwnO encM w' w.heap.size 196 v4 (cB i)) ∧ Aside0 (Apart v3 v4) ∧ Aside0 (Below w.heap.size w w')) (fun _ _ v5 _ => 64 - (intOf v5).toNat)
  case atStart => exact ⟨0, 0, by omega, rfl, rfl, HP1, ⟨OwnO.nil _ _ _ _⟩, ⟨OwnO.nil _ _ _ _⟩, ⟨fun k hk => by cases hk⟩, HB1⟩
  case round =>
    clear HP1 HB1
    obtain ⟨i, n, hi, rfl, hn, HP, HA, HB', HAP, HB⟩ := hrel
    have HNA := Aside0.mk (show (cA i).length = n by rw [cA_len, hn])
    have HNB := Aside0.mk (cB_len i)
    obtain ⟨A3, c3, e3, _, _⟩ := HA.out.sl HNA.out
    obtain ⟨A4, c4, e4, _, _⟩ := HB'.out.sl HNB.out
    subst e3
    subst e4
    have hn8 : n ≤ 8 := by omega
    have HNN := Aside0.mk hn
    clear hn
    by_cases c1 : i < 64
    · obtain ⟨ad, eA, hce⟩ := rdE_at (HP.out.rdE 0) i c1
      cases eA
      obtain ⟨q, eq⟩ : ∃ q, p64L.getD i 0 = q := ⟨_, rfl⟩
      have HSB := Aside0.mk (cB_succ i)
      rw [eq] at hce HSB
      have hq : q ≤ 1000 := by
        rw [← eq]
        have : ∀ x ∈ p64L, x ≤ 1000 := by decide
        rw [List.getD_eq_getElem?_getD, List.getElem?_eq_getElem (by exact c1)]
        exact this _ (List.getElem_mem _)
      have HEQ := Aside0.mk eq
      clear eq
      by_cases c2 : i < 8
      · have HSA := Aside0.mk (cA_succ i c2)
        rw [HEQ.out] at HSA
        go_wp2_with fail
        with_reducible refine (root_2 q _ hq).mono ?_
        rintro e wa ⟨rfl, hb⟩
        have P1a := Aside0.mk (HP.out.below hb)
        have U1a := Aside0.mk (HB'.out.below hb)
        have S1a := Aside0.mk (HA.out.below hb)
        have B1a := Aside0.mk (below_step HB.out hb)
        clear hb
        obtain ⟨Aa, ca, va, hr, ho, hk, ha⟩ := appM (rtW q 2) S1a.out (HNA.out) B1a.out.size (by omega)
        have P2a := Aside0.mk (P1a.out.kp hk (fun b hb hs => OwnO.apart P1a.out S1a.out (by decide) b hb hs))
        have U2a := Aside0.mk (U1a.out.kp hk (fun b hb hs => HAP.out b hs hb))
        have APa := Aside0.mk (Apart.grow HAP.out U1a.out ha)
        have B2a := Aside0.mk (Kp.from B1a.out hk (fun b hb => S1a.out.ge hb))
        rw [HSA.out] at ho
        have S2a := Aside0.mk ho
        have HR := Aside0.mk hr
        clear hr ho hk ha

        obtain ⟨ad2, eA2, hce2⟩ := rdE_at (P2a.out.rdE 0) i c1
        cases eA2
        rw [HEQ.out] at hce2
        go_wp2_with (first | ((with_reducible refine gate_builtin (b := .append) (xs := #[.tmp 13, .tmp 19]) rfl ?_); at_builtin; refine app_list rfl (.tmp 13) (.tmp 19) rfl rfl rfl HR.out ?_))
        with_reducible refine (root_3 q _ hq).mono ?_
        rintro e wb ⟨rfl, hb⟩
        have P1b := Aside0.mk (P2a.out.below hb)
        have U1b := Aside0.mk (S2a.out.below hb)
        have S1b := Aside0.mk (U2a.out.below hb)
        have B1b := Aside0.mk (below_step B2a.out hb)
        clear hb
        obtain ⟨Ab, cb, vb, hr, ho, hk, ha⟩ := appM (rtW q 3) S1b.out (HNB.out) B1b.out.size (by omega)
        have P2b := Aside0.mk (P1b.out.kp hk (fun b hb hs => OwnO.apart P1b.out S1b.out (by decide) b hb hs))
        have U2b := Aside0.mk (U1b.out.kp hk (fun b hb hs => APa.out.symm b hs hb))
        have APb := Aside0.mk (Apart.grow APa.out.symm U1b.out ha)
        have B2b := Aside0.mk (Kp.from B1b.out hk (fun b hb => S1b.out.ge hb))
        rw [HSB.out] at ho
        have S2b := Aside0.mk ho
        have HR := Aside0.mk hr
        clear hr ho hk ha

        go_wp2_with (first | ((with_reducible refine gate_builtin (b := .append) (xs := #[.tmp 21, .tmp 27]) rfl ?_); at_builtin; refine app_list rfl (.tmp 21) (.tmp 27) rfl rfl rfl HR.out ?_))
        go_roundw
        case rel => exact ⟨i + 1, n + 1, by omega, by go_num, by have := HNN.out; omega, P2b, U2b, S2b, ⟨APb.out.symm⟩, B2b⟩
        case measure => simp [intOf] <;> omega
      · have HST := Aside0.mk (cA_stay i (by omega))
        go_wp2_with fail
        with_reducible refine (root_3 q _ hq).mono ?_
        rintro e wb ⟨rfl, hb⟩
        have P1b := Aside0.mk (HP.out.below hb)
        have U1b := Aside0.mk (HA.out.below hb)
        have S1b := Aside0.mk (HB'.out.below hb)
        have B1b := Aside0.mk (below_step HB.out hb)
        clear hb
        obtain ⟨Ab, cb, vb, hr, ho, hk, ha⟩ := appM (rtW q 3) S1b.out (HNB.out) B1b.out.size (by omega)
        have P2b := Aside0.mk (P1b.out.kp hk (fun b hb hs => OwnO.apart P1b.out S1b.out (by decide) b hb hs))
        have U2b := Aside0.mk (U1b.out.kp hk (fun b hb hs => HAP.out.symm b hs hb))
        have APb := Aside0.mk (Apart.grow HAP.out.symm U1b.out ha)
        have B2b := Aside0.mk (Kp.from B1b.out hk (fun b hb => S1b.out.ge hb))
        rw [HSB.out] at ho
        have S2b := Aside0.mk ho
        have HR := Aside0.mk hr
        clear hr ho hk ha

        rw [HST.out] at U2b
        go_wp2_with (first | ((with_reducible refine gate_builtin (b := .append) (xs := #[.tmp 21, .tmp 27]) rfl ?_); at_builtin; refine app_list rfl (.tmp 21) (.tmp 27) rfl rfl rfl HR.out ?_))
        go_roundw
        case rel => exact ⟨i + 1, n, by omega, by go_num, by have := HNN.out; omega, P2b, U2b, S2b, ⟨APb.out.symm⟩, B2b⟩
        case measure => simp [intOf] <;> omega
    · obtain rfl : i = 64 := by omega
      have HRA := Aside0.mk (own_cast HA.out)
      have HRB := Aside0.mk (own_cast HB'.out)
      rw [cA_8] at HRA
      rw [cB_64] at HRB
      go_wp2_with fail
      go_ret2
      exact ⟨_, _, rfl, HRA.out, HRB.out, HAP.out, HB.out⟩
end Go.Proofs.Ytplmdgimodgekaa
