/- SHA-256, the reference: Of. -/
import Derived.Test.YtplmdgimodgekaaDigS
import Derived.Test.YtplmdgimodgekaaDigN
namespace Go.Proofs.Ytplmdgimodgekaa
open Go.RowKit Go.Proofs.YtplmdgimodgekaaW.PrintWords Go.Proofs.YtplmdgimodgekaaW.PrintLast Go.Proofs.YtplmdgimodgekaaW.PrintMore
attribute [local go_sem] max2_int min2_int max_two min_two max_three min_three max_four min_four   -- for this text's walks alone
set_option linter.unusedVariables false
set_option linter.unusedSimpArgs false

theorem app8L {W : World} {base : Nat} {v : Value} {xs : List Int} (ys : List Int) {cs : Array Value} (hcs : cs = (nums .u8 ys).toArray) {k m : Nat} (HO : OwnO (Value.int .u8) W base 5 v xs) (hk : xs.length = k) (hm : ys.length = m) (hbase : base ≤ W.heap.size) (hl : k + m ≤ 140737488355328) :
    ∃ A1 c1 w1, (Builtin.append_ #[37, 37] 37 #[v, .slice (some ⟨W.heap.size, 0, none⟩) m m]).run Try.prog (W.alloc (.cells cs 5)) = .ok (.slice A1 (k + m) c1) w1 ∧ OwnO (Value.int .u8) w1 base 5 (.slice A1 (k + m) c1) (xs ++ ys) ∧ Kp (fun b => v.ownBlock = some b) W w1 ∧ ((Value.slice A1 (k + m) c1).ownBlock = v.ownBlock ∨ ∃ b, (Value.slice A1 (k + m) c1).ownBlock = some b ∧ W.heap.size ≤ b) :=
  app_lits (P := Try.prog) (d := (0 : Int)) oneU8 Try.underlying37 infoU8 rfl (by omega) ys hcs HO hk hm hbase (by omega)
theorem app8R {W : World} {base : Nat} {v u : Value} {xs ys : List Int} {k m : Nat} (HO : OwnO (Value.int .u8) W base 5 v xs) (HR : Rd W .u8 u ys) (hk : xs.length = k) (hm : ys.length = m) (hbase : base ≤ W.heap.size) (hl : k + m ≤ 140737488355328) :
    ∃ A1 c1 w1, (Builtin.append_ #[37, 37] 37 #[v, u]).run Try.prog W = .ok (.slice A1 (k + m) c1) w1 ∧ OwnO (Value.int .u8) w1 base 5 (.slice A1 (k + m) c1) (xs ++ ys) ∧ Kp (fun b => v.ownBlock = some b) W w1 ∧ ((Value.slice A1 (k + m) c1).ownBlock = v.ownBlock ∨ ∃ b, (Value.slice A1 (k + m) c1).ownBlock = some b ∧ W.heap.size ≤ b) :=
  app_rd (P := Try.prog) (d := (0 : Int)) oneU8 Try.underlying37 infoU8 rfl (by omega) HO HR hk hm hbase (by omega)
def ou (ws : List Int) (i : Nat) : List Int := (List.range (4 * i)).map (outB ws)
theorem ou_succ (ws : List Int) (i : Nat) : ou ws i ++ [outB ws (4 * i + 0), outB ws (4 * i + 1), outB ws (4 * i + 2), outB ws (4 * i + 3)] = ou ws (i + 1) := by
  rw [ou, ou, show 4 * (i + 1) = 4 * i + 1 + 1 + 1 + 1 by omega, List.range_succ, List.range_succ, List.range_succ, List.range_succ]
  simp
theorem ou_len (ws : List Int) (i : Nat) : (ou ws i).length = 4 * i := by simp [ou]
set_option maxHeartbeats 8000000 in
set_option maxRecDepth 100000 in
theorem refOf_calls (va vk vb : Value) (L : List Int) (w : World) (ha : Rd w .u32 va h0L) (hk : Rd w .u32 vk kT) (hb : Rd w .u8 vb L) (hib : isB L) (hL : L.length ≤ 100000) :
    Calls Try.prog 131 #[va, vk, vb] w fun e w' => ∃ v', e = .returned v' ∧ OwnO (Value.int .u8) w' w.heap.size 5 v' (shaP L) ∧ Below w.heap.size w w' := by
  obtain ⟨A0, c0, ev, hc0, hm0, _⟩ := hb.mid
  obtain ⟨N, hN⟩ : ∃ N, L.length = N := ⟨_, rfl⟩
  rw [hN] at ev hc0 hm0 hL
  subst ev
  obtain ⟨Z, hZ⟩ : ∃ Z, zP L = Z := ⟨_, rfl⟩
  have hZ1 : (119 - N % 64) % 64 = Z := by rw [← hZ, zP, hN]
  have hZ2 : (N + 1 + Z) % 64 = 56 := by omega
  have hZ3 : Z ≤ 63 := by omega
  have HZM := Aside0.mk hZ1
  have HZZ := Aside0.mk hZ
  have HA := Aside0.mk ha
  have HK := Aside0.mk hk
  have HBR := Aside0.mk hb
  have HIB := Aside0.mk hib
  have HN := Aside0.mk hN
  -- []byte{}, all bytes, 0x80
  have ho0 : OwnO (Value.int .u8) (w.alloc (.cells #[] 5)) w.heap.size 5 (.slice (some ⟨w.heap.size, 0, none⟩) 0 0) [] := OwnO.of_own (own_lit_of (enc := Value.int .u8) w w.heap.size 5 [] (Nat.le_refl _) (by simp))
  have hb0 := below_alloc (Below.refl w.heap.size w) (.cells #[] 5)
  obtain ⟨A1, c1, w1, hr1, ho1, hk1, _⟩ := app8R (k := 0) ho0 (hb.below hb0) rfl hN hb0.size (by omega)
  rw [List.nil_append] at ho1
  have hb1 := Kp.from hb0 hk1 (fun b hb => ho0.ge hb)
  obtain ⟨A2, c2, w2, hr2, ho2, hk2, _⟩ := app8L (m := 1) [128] rfl ho1 hN rfl hb1.size (by omega)
  rw [← padZ_0] at ho2
  have HO2 := Aside0.mk ho2
  have HB2 := Aside0.mk (Kp.from hb1 hk2 (fun b hb => ho1.ge hb))
  rw [Nat.zero_add] at hr1 hr2
  have HR1 := Aside0.mk hr1
  have HR2 := Aside0.mk hr2
  clear ha hk hb hib hZ hZ1 ho0 hb0 ho1 hk1 hb1 hr1 hr2 ho2 hk2
  go_enter Try.func131, Try.ntmps131
  go_wp2_with (first | ((with_reducible refine gate_builtin (b := .append) (xs := #[.tmp 14, .tmp 15]) rfl ?_); at_builtin; refine app_list rfl (.tmp 14) (.tmp 15) rfl rfl rfl HR1.out ?_) | ((with_reducible refine gate_builtin (b := .append) (xs := #[.tmp 16, .tmp 17]) rfl ?_); at_builtin; refine app_list rfl (.tmp 16) (.tmp 17) rfl rfl rfl HR2.out ?_))
  go_loopg [7] Z (fun kq v7 w' => ∃ z m : Nat, z + kq = Z ∧ m ≤ 100064 ∧ Aside0 (m = N + 1 + z) ∧ Aside0 (OwnO (Value.int .u8) w' w.heap.size 5 v7 (padZ L z)) ∧ Aside0 (Below w.heap.size w w'))
  case atStart => exact ⟨0, N + 1, by omega, by omega, ⟨rfl⟩, HO2, HB2⟩
  case round =>
    clear HO2 HB2 HR1 HR2
    obtain ⟨z, m, hz, hm, HM, HO, HB⟩ := hrel
    have HLZ := Aside0.mk (show (padZ L z).length = m by rw [padZ_len, HN.out, HM.out])
    obtain ⟨A3, c3, e3, hc3, _⟩ := HO.out.sl HLZ.out
    subst e3
    obtain ⟨r, hr⟩ : ∃ r, m % 64 = r := ⟨_, rfl⟩
    have hrr : r = (N + 1 + z) % 64 := by rw [← HM.out]; exact hr.symm
    by_cases c1 : r = 56
    · have hr1 : (m : Int) % 64 = 56 := by omega
      have hzz : z = Z := by omega
      have HQ0 : (m + 8) % 64 = 0 := by omega
      have HQM := Aside0.mk HQ0
      have HZE := Aside0.mk hzz
      have hw8 : IntKind.u64.wrap ((N : Int) * 8) = (N : Int) * 8 := by rw [IntKind.wrap_u64]; omega
      have hw9 : (N : Int) * 8 % 18446744073709551616 = (N : Int) * 8 := by omega
      have HO0 := Aside0.mk (show OwnO (Value.int .u8) wr w.heap.size 5 (.slice A3 m c3) (padZ L z ++ be8 N 0) by simpa [be8] using HO.out)
      clear hr hrr c1 hzz HQ0 hz
      go_wp2_with fail
      clear hr1 hw8 hw9
      go_loopw [7, 9] (fun v7 v9 w' => ∃ i q : Nat, i ≤ 8 ∧ q ≤ 100072 ∧ v9 = .int .i64 i ∧ Aside0 (q = m + i) ∧ Aside0 (OwnO (Value.int .u8) w' w.heap.size 5 v7 (padZ L z ++ be8 N i)) ∧ Aside0 (Below w.heap.size w w')) (fun _ v9 _ => 8 - (intOf v9).toNat)
      case atStart => exact ⟨0, m, by omega, by omega, rfl, ⟨rfl⟩, HO0, HB⟩
      case round =>
        clear HO HB HO0
        obtain ⟨i, q, hi, hq, rfl, HQ, HO, HB⟩ := hrel
        have HLQ := Aside0.mk (show (padZ L z ++ be8 N i).length = q by rw [List.length_append, HLZ.out, be8_len, HQ.out])
        obtain ⟨A4, c4, e4, hc4, _⟩ := HO.out.sl HLQ.out
        subst e4
        by_cases c2 : i < 8
        · obtain ⟨x, hx⟩ : ∃ x, (N : Int) * 8 / 2 ^ (56 - 8 * i) % 256 = x := ⟨_, rfl⟩
          have hx2 : IntKind.u8.wrap ((N : Int) * 8 / 2 ^ (56 - 8 * i)) = x := by rw [IntKind.wrap_u8]; exact hx
          have HSU := Aside0.mk (show (padZ L z ++ be8 N i) ++ [x] = padZ L z ++ be8 N (i + 1) by rw [List.append_assoc, ← hx, be8_succ])
          have m0 : IntKind.i64.wrap (8 * (i : Int)) = 8 * (i : Int) := by rw [IntKind.wrap_i64]; omega
          have m1 : IntKind.i64.wrap (56 - 8 * (i : Int)) = 56 - 8 * (i : Int) := by rw [IntKind.wrap_i64]; omega
          have m2 : (56 - 8 * (i : Int)).toNat = 56 - 8 * i := by omega
          have m3 : (0 : Int) ≤ 56 - 8 * (i : Int) := by omega
          have m4 : 56 - 8 * (i : Int) ≤ 64 := by omega
          have m5 : 8 * (i : Int) ≤ 56 := by omega
          obtain ⟨A7, c7, w7, hr7, ho7, hk7, _⟩ := app8L (m := 1) [x] rfl HO.out HLQ.out rfl HB.out.size (by omega)
          rw [HSU.out] at ho7
          have HO7 := Aside0.mk ho7
          have HB7 := Aside0.mk (Kp.from HB.out hk7 (fun b hb => HO.out.ge hb))
          have HR7 := Aside0.mk (show (Builtin.append_ #[37, 37] 37 #[.slice A4 q c4, .slice (some ⟨wr.heap.size, 0, none⟩) 1 1]).run Try.prog (wr.alloc (.cells #[.int .u8 x] 5)) = .ok (.slice A7 (q + 1) c7) w7 from hr7)
          clear hx hr7 ho7 hk7
          go_wp2_with (first | ((with_reducible refine gate_builtin (b := .append) (xs := #[.tmp 34, .tmp 42]) rfl ?_); at_builtin; refine app_list rfl (.tmp 34) (.tmp 42) rfl rfl rfl HR7.out ?_))
          clear m0 m1 m2 m3 m4 m5 hx2
          go_roundw
          case rel => exact ⟨i + 1, q + 1, by omega, by have := HQ.out; omega, by go_num, ⟨by have := HQ.out; omega⟩, HO7, HB7⟩
          case measure => simp [intOf] <;> omega
        · obtain rfl : i = 8 := by omega
          obtain ⟨Q, hQ⟩ : ∃ Q, q = 64 * Q := ⟨q / 64, by have := HQ.out; have := HQM.out; omega⟩
          have HPE : padZ L z ++ be8 N 8 = padP L := by rw [padP, HZZ.out, HZE.out, HN.out]
          rw [HPE] at HO HLQ
          have hQ1 : 64 * Q ≤ q := by omega
          have hQ2 : q ≤ 64 * Q := by omega
          have HQW := Aside0.mk (show bkN h0L (padP L) Q = shaW L by rw [shaW, HLQ.out, hQ, Nat.mul_div_cancel_left _ (by omega)])
          have HIP := Aside0.mk (show isB (padP L) from (padZ_isB HIB.out _).app (be8_isB _ _))
          clear HPE hQ
          rw [show ((8 : Nat) : Int) = 8 from rfl]
          go_wp2_with fail
          go_loopw [10, 11] (fun v10 v11 w' => ∃ k : Nat, k ≤ Q ∧ v11 = .int .i64 (64 * (k : Int)) ∧ Aside0 (Rd w' .u32 v10 (bkN h0L (padP L) k)) ∧ Aside0 (OwnO (Value.int .u8) w' w.heap.size 5 (.slice A4 q c4) (padP L)) ∧ Aside0 (Below w.heap.size w w')) (fun _ v11 _ => q - (intOf v11).toNat)
          case atStart => exact ⟨0, by omega, rfl, ⟨HA.out.below HB.out⟩, HO, HB⟩
          case round =>
            clear HO HB
            obtain ⟨k, hk, rfl, HH, HO, HB⟩ := hrel
            have HH8 := Aside0.mk (bkN_8 h0L_8 (padP L) k)
            obtain ⟨Ah, ch, eh, _, _, _⟩ := HH.out.mid
            rw [HH8.out.1] at eh
            subst eh
            by_cases c3 : 64 * (k : Int) < (q : Int)
            · obtain ⟨i5, hi5, hz5⟩ := infoU8'
              obtain ⟨v', hcut, hrd⟩ := Rd.cut 37 5 Try.underlying37 hi5 hz5 (OwnO.rd HO.out) (64 * (k : Int)) (64 * (k : Int) + 64) (by omega) (by omega) (by rw [HLQ.out]; omega)
              have hbl : ((padP L).take (64 * (k : Int) + 64).toNat).drop (64 * (k : Int)).toNat = ((padP L).drop (64 * k)).take 64 := by rw [List.drop_take]; rw [show (64 * (k : Int)).toNat = 64 * k by omega, show (64 * (k : Int) + 64).toNat - 64 * k = 64 by omega]
              have HRD := Aside0.mk (hrd _ (OwnO.rd HO.out))
              rw [hbl] at HRD
              have HLB := Aside0.mk (show (((padP L).drop (64 * k)).take 64).length = 64 by rw [List.length_take, List.length_drop, HLQ.out]; omega)
              clear hrd hi5 hz5 hbl
              go_wp2_with fail
              with_reducible refine (refblock_calls _ _ _ (bkN h0L (padP L) k) (((padP L).drop (64 * k)).take 64) _ HH.out HH8.out (HK.out.below HB.out) HRD.out ((HIP.out.drop _).take _) HLB.out).mono ?_
              rintro e w5 ⟨v5, rfl, ho5, hb5⟩
              have HH5 := Aside0.mk (show Rd w5 .u32 v5 (bkN h0L (padP L) (k + 1)) from OwnO.rd ho5)
              have HO5 := Aside0.mk (HO.out.below hb5)
              have HB5 := Aside0.mk (below_step HB.out hb5)
              clear ho5 hb5 hcut
              go_wp2_with fail
              go_roundw
              case rel => exact ⟨k + 1, by omega, congrArg (Value.int .i64) (by omega), HH5, HO5, HB5⟩
              case measure => simp [intOf] <;> omega
            · obtain rfl : k = Q := by omega
              rw [HQW.out] at HH HH8
              obtain ⟨wq, hwq⟩ : ∃ x, x = wr := ⟨_, rfl⟩
              subst hwq
              have HBQ := Aside0.mk HB.out
              clear HB HO
              go_wp2_with fail
              go_loopw [12, 13] (fun v12 v13 w' => ∃ i : Nat, i ≤ 8 ∧ v13 = .int .i64 i ∧ Aside0 (OwnO (Value.int .u8) w' wq.heap.size 5 v12 (ou (shaW L) i)) ∧ Aside0 (Below wq.heap.size wq w')) (fun _ v13 _ => 8 - (intOf v13).toNat)
              case atStart => exact ⟨0, by omega, rfl, ⟨OwnO.nil _ _ _ _⟩, ⟨Below.refl _ _⟩⟩
              case round =>
                obtain ⟨i, hi, rfl, HO, HB⟩ := hrel
                obtain ⟨Ao, co, eo, _, _⟩ := HO.out.sl (ou_len (shaW L) i)
                subst eo
                by_cases c4 : i < 8
                · obtain ⟨ad, eA, hce⟩ := rdE_at (enc := Value.int .u32) (d := (0 : Int)) (HH.out.below HB.out) i (by rw [HH8.out.1]; exact c4)
                  cases eA
                  obtain ⟨x, ex⟩ : ∃ x, (shaW L).getD i 0 = x := ⟨_, rfl⟩
                  rw [ex] at hce
                  obtain ⟨x0, x1⟩ : 0 ≤ x ∧ x ≤ 4294967295 := by
                    rw [← ex, List.getD_eq_getElem?_getD, List.getElem?_eq_getElem (by rw [HH8.out.1]; exact c4)]
                    exact HH8.out.2 _ (List.getElem_mem _)
                  have hv0 : outB (shaW L) (4 * i + 0) = x / 16777216 := (outB_at _ i 0 (by omega)).trans (by rw [ex]; simp; omega)
                  have hv1 : outB (shaW L) (4 * i + 1) = x / 65536 % 256 := (outB_at _ i 1 (by omega)).trans (by rw [ex]; simp)
                  have hv2 : outB (shaW L) (4 * i + 2) = x / 256 % 256 := (outB_at _ i 2 (by omega)).trans (by rw [ex]; simp)
                  have hv3 : outB (shaW L) (4 * i + 3) = x % 256 := (outB_at _ i 3 (by omega)).trans (by rw [ex]; show x / 1 % 256 = _; rw [Int.ediv_one])
                  have HSU := Aside0.mk (ou_succ (shaW L) i)
                  rw [hv0, hv1, hv2, hv3] at HSU
                  clear ex hv0 hv1 hv2 hv3
                  have hu0 : IntKind.u8.wrap (x / 16777216) = x / 16777216 := by rw [IntKind.wrap_u8]; omega
                  have hu1 : IntKind.u8.wrap (x / 65536) = x / 65536 % 256 := by rw [IntKind.wrap_u8]
                  have hu2 : IntKind.u8.wrap (x / 256) = x / 256 % 256 := by rw [IntKind.wrap_u8]
                  have hu3 : IntKind.u8.wrap x = x % 256 := by rw [IntKind.wrap_u8]
                  obtain ⟨A9, c9, w9, hr9, ho9, hk9, _⟩ := app8L (W := wr.drew) (k := 4 * i) (m := 4) [x / 16777216, x / 65536 % 256, x / 256 % 256, x % 256] rfl (HO.out.below (below_drew (Below.refl _ _))) (ou_len _ _) rfl (below_drew HB.out).size (by omega)
                  rw [HSU.out] at ho9
                  have HO9 := Aside0.mk ho9
                  have HB9 := Aside0.mk (Kp.from (below_drew HB.out) hk9 (fun b hb => HO.out.ge hb))
                  have HR9 := Aside0.mk (show (Builtin.append_ #[37, 37] 37 #[.slice Ao (4 * i) co, .slice (some ⟨wr.drew.heap.size, 0, none⟩) 4 4]).run Try.prog (wr.drew.alloc (.cells #[.int .u8 (x / 16777216), .int .u8 (x / 65536 % 256), .int .u8 (x / 256 % 256), .int .u8 (x % 256)] 5)) = .ok (.slice A9 (4 * i + 4) c9) w9 from hr9)
                  clear hr9 ho9 hk9
                  go_wp2_with fail
                  refine start_ (n := 27) (S := fun w' => w'.cell? (ad.add i) = some (.int .u32 x)) (ds := [25]) #[false, false, false, false, false, false, false, false, false, false, false, false, false, false, false, false, false, false, false, false, false, false, false, false, false, false, false] (by kernel_rfl) rfl rfl (hce) (fun hHeld => ?_)
                  refine pure_ (i := 0) (N := some 63) (v := ?_) (a' := ?_) #[true, false, false, false, false, false, false, false, false, false, false, false, false, false, false, false, false, false, false, false, false, false, false, false, false, false, false] rfl rfl (by kernel_rfl) (fun _ _ _ h => h) (Or.inl ⟨by rfl, ?_⟩) ?_ ?_
                  rotate_left
                  · intro w'
                    go_simp
                    with_reducible rfl
                  rotate_left
                  · simp only [Act.put, List.setIfInBounds_toArray, List.set_cons_zero, List.set_cons_succ, i64_w, i32_w]
                    rfl
                  refine pure_ (i := 1) (N := some 64) (v := ?_) (a' := ?_) #[true, true, false, false, false, false, false, false, false, false, false, false, false, false, false, false, false, false, false, false, false, false, false, false, false, false, false] rfl rfl (by kernel_rfl) (fun _ _ _ h => h) (Or.inl ⟨by rfl, ?_⟩) ?_ ?_
                  rotate_left
                  · intro w'
                    go_simp
                    with_reducible rfl
                  rotate_left
                  · simp only [Act.put, List.setIfInBounds_toArray, List.set_cons_zero, List.set_cons_succ, i64_w, i32_w]
                    rfl
                  refine pure_ (i := 2) (N := some 65) (v := ?_) (a' := ?_) #[true, true, true, false, false, false, false, false, false, false, false, false, false, false, false, false, false, false, false, false, false, false, false, false, false, false, false] rfl rfl (by kernel_rfl) (fun _ _ _ h => h) (Or.inl ⟨by rfl, ?_⟩) ?_ ?_
                  rotate_left
                  · intro w'
                    go_simp
                    with_reducible rfl
                  rotate_left
                  · simp only [Act.put, List.setIfInBounds_toArray, List.set_cons_zero, List.set_cons_succ, i64_w, i32_w]
                    rfl
                  refine pure_ (i := 3) (N := some 66) (v := ?_) (a' := ?_) #[true, true, true, true, false, false, false, false, false, false, false, false, false, false, false, false, false, false, false, false, false, false, false, false, false, false, false] rfl rfl (by kernel_rfl) (fun _ _ _ h => h) (Or.inl ⟨by rfl, ?_⟩) ?_ ?_
                  rotate_left
                  · intro w'
                    go_simp
                    with_reducible rfl
                  rotate_left
                  · simp only [Act.put, List.setIfInBounds_toArray, List.set_cons_zero, List.set_cons_succ, i64_w, i32_w]
                    rfl
                  refine pure_ (i := 7) (N := some 70) (v := ?_) (a' := ?_) #[true, true, true, true, false, false, false, true, false, false, false, false, false, false, false, false, false, false, false, false, false, false, false, false, false, false, false] rfl rfl (by kernel_rfl) (fun _ _ _ h => h) (Or.inl ⟨by rfl, ?_⟩) ?_ ?_
                  rotate_left
                  · intro w'
                    go_simp
                    with_reducible rfl
                  rotate_left
                  · simp only [Act.put, List.setIfInBounds_toArray, List.set_cons_zero, List.set_cons_succ, i64_w, i32_w]
                    rfl
                  refine pure_ (i := 8) (N := some 71) (v := ?_) (a' := ?_) #[true, true, true, true, false, false, false, true, true, false, false, false, false, false, false, false, false, false, false, false, false, false, false, false, false, false, false] rfl rfl (by kernel_rfl) (fun _ _ _ h => h) (Or.inl ⟨by rfl, ?_⟩) ?_ ?_
                  rotate_left
                  · intro w'
                    go_simp
                    with_reducible rfl
                  rotate_left
                  · simp only [Act.put, List.setIfInBounds_toArray, List.set_cons_zero, List.set_cons_succ, i64_w, i32_w]
                    rfl
                  refine pure_ (i := 9) (N := some 72) (v := ?_) (a' := ?_) #[true, true, true, true, false, false, false, true, true, true, false, false, false, false, false, false, false, false, false, false, false, false, false, false, false, false, false] rfl rfl (by kernel_rfl) (fun _ _ _ h => h) (Or.inl ⟨by rfl, ?_⟩) ?_ ?_
                  rotate_left
                  · intro w'
                    go_simp
                    with_reducible rfl
                  rotate_left
                  · simp only [Act.put, List.setIfInBounds_toArray, List.set_cons_zero, List.set_cons_succ, i64_w, i32_w]
                    rfl
                  refine pure_ (i := 13) (N := some 76) (v := ?_) (a' := ?_) #[true, true, true, true, false, false, false, true, true, true, false, false, false, true, false, false, false, false, false, false, false, false, false, false, false, false, false] rfl rfl (by kernel_rfl) (fun _ _ _ h => h) (Or.inl ⟨by rfl, ?_⟩) ?_ ?_
                  rotate_left
                  · intro w'
                    go_simp
                    with_reducible rfl
                  rotate_left
                  · simp only [Act.put, List.setIfInBounds_toArray, List.set_cons_zero, List.set_cons_succ, i64_w, i32_w]
                    rfl
                  refine pure_ (i := 14) (N := some 77) (v := ?_) (a' := ?_) #[true, true, true, true, false, false, false, true, true, true, false, false, false, true, true, false, false, false, false, false, false, false, false, false, false, false, false] rfl rfl (by kernel_rfl) (fun _ _ _ h => h) (Or.inl ⟨by rfl, ?_⟩) ?_ ?_
                  rotate_left
                  · intro w'
                    go_simp
                    with_reducible rfl
                  rotate_left
                  · simp only [Act.put, List.setIfInBounds_toArray, List.set_cons_zero, List.set_cons_succ, i64_w, i32_w]
                    rfl
                  refine pure_ (i := 15) (N := some 78) (v := ?_) (a' := ?_) #[true, true, true, true, false, false, false, true, true, true, false, false, false, true, true, true, false, false, false, false, false, false, false, false, false, false, false] rfl rfl (by kernel_rfl) (fun _ _ _ h => h) (Or.inl ⟨by rfl, ?_⟩) ?_ ?_
                  rotate_left
                  · intro w'
                    go_simp
                    with_reducible rfl
                  rotate_left
                  · simp only [Act.put, List.setIfInBounds_toArray, List.set_cons_zero, List.set_cons_succ, i64_w, i32_w]
                    rfl
                  refine pure_ (i := 19) (N := some 82) (v := ?_) (a' := ?_) #[true, true, true, true, false, false, false, true, true, true, false, false, false, true, true, true, false, false, false, true, false, false, false, false, false, false, false] rfl rfl (by kernel_rfl) (fun _ _ _ h => h) (Or.inl ⟨by rfl, ?_⟩) ?_ ?_
                  rotate_left
                  · intro w'
                    go_simp
                    with_reducible rfl
                  rotate_left
                  · simp only [Act.put, List.setIfInBounds_toArray, List.set_cons_zero, List.set_cons_succ, i64_w, i32_w]
                    rfl
                  refine pure_ (i := 20) (N := some 83) (v := ?_) (a' := ?_) #[true, true, true, true, false, false, false, true, true, true, false, false, false, true, true, true, false, false, false, true, true, false, false, false, false, false, false] rfl rfl (by kernel_rfl) (fun _ _ _ h => h) (Or.inl ⟨by rfl, ?_⟩) ?_ ?_
                  rotate_left
                  · intro w'
                    go_simp
                    with_reducible rfl
                  rotate_left
                  · simp only [Act.put, List.setIfInBounds_toArray, List.set_cons_zero, List.set_cons_succ, i64_w, i32_w]
                    rfl
                  refine pure_ (i := 21) (N := some 84) (v := ?_) (a' := ?_) #[true, true, true, true, false, false, false, true, true, true, false, false, false, true, true, true, false, false, false, true, true, true, false, false, false, false, false] rfl rfl (by kernel_rfl) (fun _ _ _ h => h) (Or.inl ⟨by rfl, ?_⟩) ?_ ?_
                  rotate_left
                  · intro w'
                    go_simp
                    with_reducible rfl
                  rotate_left
                  · simp only [Act.put, List.setIfInBounds_toArray, List.set_cons_zero, List.set_cons_succ, i64_w, i32_w]
                    rfl
                  refine take_ (i := 4) (N := some 67) (v := ?_) (a' := ?_) #[true, true, true, true, true, false, false, true, true, true, false, false, false, true, true, true, false, false, false, true, true, true, false, false, false, false, false] rfl rfl (by kernel_rfl) (fun _ _ _ h => h) (Or.inl ⟨by rfl, ?_⟩) hHeld ?_ ?_
                  rotate_left
                  · intro w' s0
                    go_simp
                    with_reducible rfl
                  rotate_left
                  · simp only [Act.put, List.setIfInBounds_toArray, List.set_cons_zero, List.set_cons_succ, i64_w, i32_w]
                    rfl
                  refine pure_ (i := 5) (N := some 68) (v := ?_) (a' := ?_) #[true, true, true, true, true, true, false, true, true, true, false, false, false, true, true, true, false, false, false, true, true, true, false, false, false, false, false] rfl rfl (by kernel_rfl) (fun _ _ _ h => h) (Or.inl ⟨by rfl, ?_⟩) ?_ ?_
                  rotate_left
                  · intro w'
                    go_simp
                    with_reducible rfl
                  rotate_left
                  · simp only [Act.put, List.setIfInBounds_toArray, List.set_cons_zero, List.set_cons_succ, i64_w, i32_w]
                    rfl
                  refine pure_ (i := 6) (N := some 69) (v := ?_) (a' := ?_) #[true, true, true, true, true, true, true, true, true, true, false, false, false, true, true, true, false, false, false, true, true, true, false, false, false, false, false] rfl rfl (by kernel_rfl) (fun _ _ _ h => h) (Or.inl ⟨by rfl, ?_⟩) ?_ ?_
                  rotate_left
                  · intro w'
                    go_simp
                    with_reducible rfl
                  rotate_left
                  · simp only [Act.put, List.setIfInBounds_toArray, List.set_cons_zero, List.set_cons_succ, i64_w, i32_w]
                    rfl
                  refine take_ (i := 10) (N := some 73) (v := ?_) (a' := ?_) #[true, true, true, true, true, true, true, true, true, true, true, false, false, true, true, true, false, false, false, true, true, true, false, false, false, false, false] rfl rfl (by kernel_rfl) (fun _ _ _ h => h) (Or.inl ⟨by rfl, ?_⟩) hHeld ?_ ?_
                  rotate_left
                  · intro w' s0
                    go_simp
                    with_reducible rfl
                  rotate_left
                  · simp only [Act.put, List.setIfInBounds_toArray, List.set_cons_zero, List.set_cons_succ, i64_w, i32_w]
                    rfl
                  refine pure_ (i := 11) (N := some 74) (v := ?_) (a' := ?_) #[true, true, true, true, true, true, true, true, true, true, true, true, false, true, true, true, false, false, false, true, true, true, false, false, false, false, false] rfl rfl (by kernel_rfl) (fun _ _ _ h => h) (Or.inl ⟨by rfl, ?_⟩) ?_ ?_
                  rotate_left
                  · intro w'
                    go_simp
                    with_reducible rfl
                  rotate_left
                  · simp only [Act.put, List.setIfInBounds_toArray, List.set_cons_zero, List.set_cons_succ, i64_w, i32_w]
                    rfl
                  refine pure_ (i := 12) (N := some 75) (v := ?_) (a' := ?_) #[true, true, true, true, true, true, true, true, true, true, true, true, true, true, true, true, false, false, false, true, true, true, false, false, false, false, false] rfl rfl (by kernel_rfl) (fun _ _ _ h => h) (Or.inl ⟨by rfl, ?_⟩) ?_ ?_
                  rotate_left
                  · intro w'
                    go_simp
                    with_reducible rfl
                  rotate_left
                  · simp only [Act.put, List.setIfInBounds_toArray, List.set_cons_zero, List.set_cons_succ, i64_w, i32_w]
                    rfl
                  refine take_ (i := 16) (N := some 79) (v := ?_) (a' := ?_) #[true, true, true, true, true, true, true, true, true, true, true, true, true, true, true, true, true, false, false, true, true, true, false, false, false, false, false] rfl rfl (by kernel_rfl) (fun _ _ _ h => h) (Or.inl ⟨by rfl, ?_⟩) hHeld ?_ ?_
                  rotate_left
                  · intro w' s0
                    go_simp
                    with_reducible rfl
                  rotate_left
                  · simp only [Act.put, List.setIfInBounds_toArray, List.set_cons_zero, List.set_cons_succ, i64_w, i32_w]
                    rfl
                  refine pure_ (i := 17) (N := some 80) (v := ?_) (a' := ?_) #[true, true, true, true, true, true, true, true, true, true, true, true, true, true, true, true, true, true, false, true, true, true, false, false, false, false, false] rfl rfl (by kernel_rfl) (fun _ _ _ h => h) (Or.inl ⟨by rfl, ?_⟩) ?_ ?_
                  rotate_left
                  · intro w'
                    go_simp
                    with_reducible rfl
                  rotate_left
                  · simp only [Act.put, List.setIfInBounds_toArray, List.set_cons_zero, List.set_cons_succ, i64_w, i32_w]
                    rfl
                  refine pure_ (i := 18) (N := some 81) (v := ?_) (a' := ?_) #[true, true, true, true, true, true, true, true, true, true, true, true, true, true, true, true, true, true, true, true, true, true, false, false, false, false, false] rfl rfl (by kernel_rfl) (fun _ _ _ h => h) (Or.inl ⟨by rfl, ?_⟩) ?_ ?_
                  rotate_left
                  · intro w'
                    go_simp
                    with_reducible rfl
                  rotate_left
                  · simp only [Act.put, List.setIfInBounds_toArray, List.set_cons_zero, List.set_cons_succ, i64_w, i32_w]
                    rfl
                  refine take_ (i := 22) (N := some 85) (v := ?_) (a' := ?_) #[true, true, true, true, true, true, true, true, true, true, true, true, true, true, true, true, true, true, true, true, true, true, true, false, false, false, false] rfl rfl (by kernel_rfl) (fun _ _ _ h => h) (Or.inl ⟨by rfl, ?_⟩) hHeld ?_ ?_
                  rotate_left
                  · intro w' s0
                    go_simp
                    with_reducible rfl
                  rotate_left
                  · simp only [Act.put, List.setIfInBounds_toArray, List.set_cons_zero, List.set_cons_succ, i64_w, i32_w]
                    rfl
                  refine pure_ (i := 23) (N := some 86) (v := ?_) (a' := ?_) #[true, true, true, true, true, true, true, true, true, true, true, true, true, true, true, true, true, true, true, true, true, true, true, true, false, false, false] rfl rfl (by kernel_rfl) (fun _ _ _ h => h) (Or.inl ⟨by rfl, ?_⟩) ?_ ?_
                  rotate_left
                  · intro w'
                    go_simp
                    with_reducible rfl
                  rotate_left
                  · simp only [Act.put, List.setIfInBounds_toArray, List.set_cons_zero, List.set_cons_succ, i64_w, i32_w]
                    rfl
                  refine one_ (i := 24) (N := some 87) #[true, true, true, true, true, true, true, true, true, true, true, true, true, true, true, true, true, true, true, true, true, true, true, true, true, false, false] rfl rfl (by kernel_rfl) (by decide) (fun K hK => ?_)
                  refine value_ (w1 := ?_) (v := ?_) (by rfl) rfl ?_ ?_
                  rotate_left 2
                  · go_simp
                    constructor
                    · rfl
                    · rfl
                  refine hK.out _ _ ((pw_cell_below (below_alloc (Below.refl _ _) _) hHeld)) (fun hHeld => ?_)
                  clear hK K
                  refine norm_ (a' := ?_) ?_ ?_
                  rotate_left
                  · show Act.put _ (some 87) _ = _
                    simp only [Act.put, List.setIfInBounds_toArray, List.set_cons_zero, List.set_cons_succ, i64_w, i32_w]
                    rfl
                  refine last_ (i := 25) (N := some 88) #[true, true, true, true, true, true, true, true, true, true, true, true, true, true, true, true, true, true, true, true, true, true, true, true, true, true, false] rfl rfl (by kernel_rfl) (by decide) (fun K hK => ?_)
                  refine app_step (by rfl) (.tmp 63) (.tmp 87) rfl rfl rfl HR9.out ?_
                  refine hK.out _ _ ?_
                  clear hK K
                  refine norm_ (a' := ?_) ?_ ?_
                  rotate_left
                  · show Act.put _ (some 88) _ = _
                    simp only [Act.put, List.setIfInBounds_toArray, List.set_cons_zero, List.set_cons_succ, i64_w, i32_w]
                    rfl
                  refine pure_ (i := 26) (N := some 12) (v := ?_) (a' := ?_) #[true, true, true, true, true, true, true, true, true, true, true, true, true, true, true, true, true, true, true, true, true, true, true, true, true, true, true] rfl rfl (by kernel_rfl) (fun _ _ _ h => h) (Or.inl ⟨by rfl, ?_⟩) ?_ ?_
                  rotate_left
                  · intro w'
                    go_simp
                    with_reducible rfl
                  rotate_left
                  · simp only [Act.put, List.setIfInBounds_toArray, List.set_cons_zero, List.set_cons_succ, i64_w, i32_w]
                    rfl
                  refine done_ (by kernel_rfl) ?_
                  clear HR9 hce hu0 hu1 hu2 hu3
                  go_wp2_with fail
                  go_roundw
                  case rel => exact ⟨i + 1, by omega, by go_num, HO9, HB9⟩
                  case measure => simp [intOf] <;> omega
                · obtain rfl : i = 8 := by omega
                  have HF := Aside0.mk (show ou (shaW L) 8 = shaP L from rfl)
                  rw [HF.out] at HO
                  go_wp2_with fail
                  go_ret
                  exact ⟨_, rfl, HO.out.weaken HBQ.out.size, below_step HBQ.out HB.out⟩
    · have hr1 : (m : Int) % 64 = (r : Int) := by omega
      have hb1 : ((r : Int) == 56) = false := by rw [beq_eq_false_iff_ne]; omega
      have hb2 : ((r : Int) != 56) = true := by rw [bne_iff_ne]; omega
      have hzz : z < Z := by omega
      obtain ⟨A7, c7, w7, hr7, ho7, hk7, _⟩ := app8L (m := 1) [0] rfl HO.out HLZ.out rfl HB.out.size (by omega)
      rw [padZ_succ] at ho7
      have HO7 := Aside0.mk ho7
      have HB7 := Aside0.mk (Kp.from HB.out hk7 (fun b hb => HO.out.ge hb))
      have HR7 := Aside0.mk (show (Builtin.append_ #[37, 37] 37 #[.slice A3 m c3, .slice (some ⟨wr.heap.size, 0, none⟩) 1 1]).run Try.prog (wr.alloc (.cells #[.int .u8 0] 5)) = .ok (.slice A7 (m + 1) c7) w7 from hr7)
      have hm2 : m ≤ 100063 := by have := HM.out; omega
      clear hr hrr hr7 ho7 hk7 c1
      go_wp2_with (first | ((with_reducible refine gate_builtin (b := .append) (xs := #[.tmp 23, .tmp 24]) rfl ?_); at_builtin; refine app_list rfl (.tmp 23) (.tmp 24) rfl rfl rfl HR7.out ?_))
      go_roundg (Z - (z + 1))
      case measure => omega
      case rel => exact ⟨z + 1, m + 1, by omega, by omega, ⟨by have := HM.out; omega⟩, HO7, HB7⟩
/-- The key's bytes, each by xor. -/
def ipd (c : Int) (k : List Int) (n : Nat) : List Int := (List.range n).map fun i => bits .xor .u8 (k.getD i 0) c
theorem ipd_succ (c : Int) (k : List Int) (n : Nat) : ipd c k n ++ [bits .xor .u8 (k.getD n 0) c] = ipd c k (n + 1) := by rw [ipd, ipd, List.range_succ, List.map_append]; rfl
theorem ipd_len (c : Int) (k : List Int) (n : Nat) : (ipd c k n).length = n := by simp [ipd]
theorem bits8_bd (op : BinOp) (a b : Int) : 0 ≤ bits op .u8 a b ∧ bits op .u8 a b ≤ 255 := by
  have : ∀ v : BitVec 8, 0 ≤ IntKind.u8.wrap (v.toNat : Int) ∧ IntKind.u8.wrap (v.toNat : Int) ≤ 255 := fun v => by
    have := v.isLt; rw [IntKind.wrap_u8]; omega
  exact this _
theorem ipd_isB (c : Int) (k : List Int) (n : Nat) : isB (ipd c k n) := fun x hx => by
  simp only [ipd, List.mem_map] at hx
  obtain ⟨i, _, rfl⟩ := hx
  exact bits8_bd _ _ _
def keyP (key : List Int) : List Int := if 64 < key.length then shaP key else key
def kyP (key b : List Int) : List Int := shaP (ipd 92 (keyP key) 64 ++ shaP (ipd 54 (keyP key) 64 ++ b))
theorem shaP_isB (L : List Int) : isB (shaP L) := fun x hx => by
  simp only [shaP, List.mem_map, outB] at hx
  obtain ⟨i, _, rfl⟩ := hx
  omega

set_option maxHeartbeats 8000000 in
set_option maxRecDepth 100000 in
theorem refKeyed_big (va vk vy vb : Value) (y L : List Int) (w : World) (ha : Rd w .u32 va h0L) (hk : Rd w .u32 vk kT) (hy : Rd w .u8 vy y) (hib : isB y) (hb : Rd w .u8 vb L) (hibL : isB L) (hL : L.length ≤ 90000) (hy1 : y.length ≤ 90000) (hy64 : 64 < y.length) :
    Calls Try.prog 105 #[va, vk, vy, vb] w fun e w' => ∃ v', e = .returned v' ∧ OwnO (Value.int .u8) w' w.heap.size 5 v' (kyP y L) ∧ Below w.heap.size w w' := by
  have HA := Aside0.mk ha
  have HK := Aside0.mk hk
  have HY := Aside0.mk hy
  have HIY := Aside0.mk hib
  have HL := Aside0.mk hb
  have HIL := Aside0.mk hibL
  obtain ⟨Ay, cy, ey, _, _, _⟩ := hy.mid
  subst ey
  obtain ⟨Y, hY⟩ : ∃ n, y.length = n := ⟨_, rfl⟩
  have HYL := Aside0.mk hY
  rw [hY] at HY hy64 hy1 ⊢
  have HE := Aside0.mk (show keyP y = shaP y by rw [keyP, if_pos (by have := HYL.out; omega)])
  clear ha hk hy hib hb hibL hY
  go_enter Try.func105, Try.ntmps105
  go_wp2_with fail
  with_reducible refine (refOf_calls _ _ _ y _ HA.out HK.out HY.out HIY.out (by rw [HYL.out]; omega)).mono ?_
  rintro e wq ⟨vK, rfl, hoK, hbK⟩
  obtain ⟨AK, cK, eK, _, _⟩ := hoK.sl (shaP_len y)
  subst eK
  have HBQ := Aside0.mk hbK
  have HKR := Aside0.mk (OwnO.rd hoK)
  have HKI := Aside0.mk (shaP_isB y)
  have HKL := Aside0.mk (shaP_len y)
  clear hoK hbK hy64
  obtain ⟨K, hK⟩ : ∃ K, shaP y = K := ⟨_, rfl⟩
  rw [hK] at HKR HKI HKL HE
  clear hK HYL hy1
  obtain ⟨Y, hY⟩ : ∃ Y : Nat, Y = 32 := ⟨_, rfl⟩
  rw [← hY] at HKL ⊢
  have hY2 : Y ≤ 32 := by omega
  clear hY
  go_wp2_with fail
  go_loopw [9, 10, 11, 12] (fun v9 v10 v11 v12 w' => ∃ i : Nat, i ≤ 64 ∧ v11 = .int .i64 i ∧ Aside0 (OwnO (Value.int .u8) w' wq.heap.size 5 v9 (ipd 54 K i)) ∧ Aside0 (OwnO (Value.int .u8) w' wq.heap.size 5 v10 (ipd 92 K i)) ∧ Aside0 (Apart v9 v10) ∧ Aside0 (Below wq.heap.size wq w')) (fun _ _ v11 _ _ => 64 - (intOf v11).toNat)
  case atStart => exact ⟨0, by omega, rfl, ⟨OwnO.nil _ _ _ _⟩, ⟨OwnO.nil _ _ _ _⟩, ⟨fun k hk => by cases hk⟩, ⟨Below.refl _ _⟩⟩
  case round =>
    obtain ⟨i, hi, rfl, H9, H10, HAP, HB⟩ := hrel
    obtain ⟨A9, c9, e9, _, _⟩ := H9.out.sl (ipd_len 54 K i)
    obtain ⟨A10, c10, e10, _, _⟩ := H10.out.sl (ipd_len 92 K i)
    subst e9
    subst e10
    by_cases c1 : i < 64
    · obtain ⟨x, ex⟩ : ∃ x, K.getD i 0 = x := ⟨_, rfl⟩
      have HS9 := Aside0.mk (ipd_succ 54 K i)
      have HS10 := Aside0.mk (ipd_succ 92 K i)
      rw [ex] at HS9 HS10
      obtain ⟨x9, e9⟩ : ∃ z, bits .xor .u8 x 54 = z := ⟨_, rfl⟩
      obtain ⟨x10, e10⟩ : ∃ z, bits .xor .u8 x 92 = z := ⟨_, rfl⟩
      rw [e9] at HS9
      rw [e10] at HS10
      obtain ⟨B9, d9, w9, hr9, ho9, hk9, ha9⟩ := app8L (m := 1) [x9] rfl H9.out (ipd_len _ _ _) rfl HB.out.size (by omega)
      have H10a := Aside0.mk (H10.out.kp hk9 (fun b hb hs => HAP.out b hs hb))
      have HAPa := Aside0.mk (HAP.out.grow H10.out ha9)
      have HBa := Aside0.mk (Kp.from HB.out hk9 (fun b hb => H9.out.ge hb))
      rw [HS9.out] at ho9
      have H9a := Aside0.mk ho9
      obtain ⟨B10, d10, w10, hr10, ho10, hk10, ha10⟩ := app8L (m := 1) [x10] rfl H10a.out (ipd_len _ _ _) rfl HBa.out.size (by omega)
      have H9b := Aside0.mk (H9a.out.kp hk10 (fun b hb hs => HAPa.out b hb hs))
      have HAPb := Aside0.mk (HAPa.out.symm.grow H9a.out ha10)
      have HBb := Aside0.mk (Kp.from HBa.out hk10 (fun b hb => H10a.out.ge hb))
      rw [HS10.out] at ho10
      have H10b := Aside0.mk ho10
      have HR9 := Aside0.mk (show (Builtin.append_ #[37, 37] 37 #[.slice A9 i c9, .slice (some ⟨wr.heap.size, 0, none⟩) 1 1]).run Try.prog (wr.alloc (.cells #[.int .u8 x9] 5)) = .ok (.slice B9 (i + 1) d9) w9 from hr9)
      have HR10 := Aside0.mk (show (Builtin.append_ #[37, 37] 37 #[.slice A10 i c10, .slice (some ⟨w9.heap.size, 0, none⟩) 1 1]).run Try.prog (w9.alloc (.cells #[.int .u8 x10] 5)) = .ok (.slice B10 (i + 1) d10) w10 from hr10)
      clear hr9 ho9 hk9 ha9 hr10 ho10 hk10 ha10
      by_cases c2 : i < Y
      · obtain ⟨ad, eA, hce⟩ := rdE_at (enc := Value.int .u8) (d := (0 : Int)) (HKR.out.below HB.out) i (by rw [HKL.out]; exact c2)
        cases eA
        rw [ex] at hce
        have hib := HKI.out.getD i
        rw [ex] at hib
        obtain ⟨x0, x1⟩ := hib
        clear ex
        go_wp2_with (first | ((with_reducible refine gate_builtin (b := .append) (xs := #[.tmp 32, .tmp 35]) rfl ?_); at_builtin; refine app_list rfl (.tmp 32) (.tmp 35) rfl rfl rfl HR9.out ?_) | ((with_reducible refine gate_builtin (b := .append) (xs := #[.tmp 37, .tmp 40]) rfl ?_); at_builtin; refine app_list rfl (.tmp 37) (.tmp 40) rfl rfl rfl HR10.out ?_))
        go_roundw
        case rel => exact ⟨i + 1, by omega, by go_num, H9b, H10b, ⟨HAPb.out.symm⟩, HBb⟩
        case measure => simp [intOf] <;> omega
      · obtain rfl : x = 0 := by rw [← ex, List.getD_eq_getElem?_getD, List.getElem?_eq_none (by rw [HKL.out]; omega)]; rfl
        clear ex
        go_wp2_with (first | ((with_reducible refine gate_builtin (b := .append) (xs := #[.tmp 32, .tmp 35]) rfl ?_); at_builtin; refine app_list rfl (.tmp 32) (.tmp 35) rfl rfl rfl HR9.out ?_) | ((with_reducible refine gate_builtin (b := .append) (xs := #[.tmp 37, .tmp 40]) rfl ?_); at_builtin; refine app_list rfl (.tmp 37) (.tmp 40) rfl rfl rfl HR10.out ?_))
        go_roundw
        case rel => exact ⟨i + 1, by omega, by go_num, H9b, H10b, ⟨HAPb.out.symm⟩, HBb⟩
        case measure => simp [intOf] <;> omega
    · obtain rfl : i = 64 := by omega
      obtain ⟨M, hM⟩ : ∃ n, L.length = n := ⟨_, rfl⟩
      obtain ⟨B9, d9, w9, hr9, ho9, hk9, ha9⟩ := app8R H9.out (HL.out.below (below_step HBQ.out HB.out)) (ipd_len _ _ _) hM HB.out.size (by omega)
      have H10a := Aside0.mk (H10.out.kp hk9 (fun b hb hs => HAP.out b hs hb))
      have HAPa := Aside0.mk (HAP.out.grow H10.out ha9)
      have HBa := Aside0.mk (below_step HBQ.out (Kp.from HB.out hk9 (fun b hb => H9.out.ge hb)))
      have HBz := Aside0.mk (Kp.from HB.out hk9 (fun b hb => H9.out.ge hb))
      have H9a := Aside0.mk ho9
      have HR9 := Aside0.mk hr9
      have hM9 : M ≤ 90000 := by omega
      have HMM := Aside0.mk hM
      clear hr9 ho9 hk9 ha9 hM hL
      go_wp2_with (first | ((with_reducible refine gate_builtin (b := .append) (xs := #[.tmp 47, .tmp 48]) rfl ?_); at_builtin; refine app_list rfl (.tmp 47) (.tmp 48) rfl rfl rfl HR9.out ?_))
      with_reducible refine (refOf_calls _ _ _ (ipd 54 K 64 ++ L) _ (HA.out.below HBa.out) (HK.out.below HBa.out) (OwnO.rd H9a.out) ((ipd_isB _ _ _).app HIL.out) (by rw [List.length_append, ipd_len, HMM.out]; omega)).mono ?_
      rintro e w11 ⟨v11, rfl, ho11, hb11⟩
      have HB11 := Aside0.mk (below_step HBa.out hb11)
      have HBz11 := Aside0.mk (below_step HBz.out hb11)
      have H10c := Aside0.mk (H10a.out.below hb11)
      obtain ⟨B10, d10, w12, hr12, ho12, hk12, ha12⟩ := app8R H10c.out (OwnO.rd ho11) (ipd_len _ _ _) (shaP_len _) HBz11.out.size (by omega)
      have HB12 := Aside0.mk (below_step HBQ.out (Kp.from HBz11.out hk12 (fun b hb => H10c.out.ge hb)))
      have H12 := Aside0.mk ho12
      have HR12 := Aside0.mk hr12
      clear hr12 ho12 hk12 ha12 ho11 hb11
      go_wp2_with (first | ((with_reducible refine gate_builtin (b := .append) (xs := #[.tmp 44, .tmp 50]) rfl ?_); at_builtin; refine app_list rfl (.tmp 44) (.tmp 50) rfl rfl rfl HR12.out ?_))
      with_reducible refine (refOf_calls _ _ _ (ipd 92 K 64 ++ shaP (ipd 54 K 64 ++ L)) _ (HA.out.below HB12.out) (HK.out.below HB12.out) (OwnO.rd H12.out) ((ipd_isB _ _ _).app (shaP_isB _)) (by rw [List.length_append, ipd_len, shaP_len]; omega)).mono ?_
      rintro e w13 ⟨v13, rfl, ho13, hb13⟩
      have H13 := Aside0.mk (show OwnO (Value.int .u8) w13 w.heap.size 5 v13 (kyP y L) by rw [kyP, HE.out]; exact ho13.weaken HB12.out.size)
      have HB13 := Aside0.mk (below_step HB12.out hb13)
      clear ho13 hb13
      go_wp2_with fail
      go_ret
      exact ⟨_, rfl, H13.out, HB13.out⟩
set_option maxHeartbeats 8000000 in
set_option maxRecDepth 100000 in
theorem refKeyed_small (va vk vy vb : Value) (y L : List Int) (w : World) (ha : Rd w .u32 va h0L) (hk : Rd w .u32 vk kT) (hy : Rd w .u8 vy y) (hib : isB y) (hb : Rd w .u8 vb L) (hibL : isB L) (hL : L.length ≤ 90000) (hy1 : y.length ≤ 90000) (hy64 : y.length ≤ 64) :
    Calls Try.prog 105 #[va, vk, vy, vb] w fun e w' => ∃ v', e = .returned v' ∧ OwnO (Value.int .u8) w' w.heap.size 5 v' (kyP y L) ∧ Below w.heap.size w w' := by
  have HA := Aside0.mk ha
  have HK := Aside0.mk hk
  have HY := Aside0.mk hy
  have HIY := Aside0.mk hib
  have HL := Aside0.mk hb
  have HIL := Aside0.mk hibL
  obtain ⟨Ay, cy, ey, _, _, _⟩ := hy.mid
  subst ey
  obtain ⟨Y, hY⟩ : ∃ n, y.length = n := ⟨_, rfl⟩
  have HYL := Aside0.mk hY
  rw [hY] at HY hy64 hy1 ⊢
  have HE := Aside0.mk (show keyP y = y by rw [keyP, if_neg (by have := HYL.out; omega)])
  clear ha hk hy hib hb hibL hY
  go_enter Try.func105, Try.ntmps105
  go_wp2_with fail
  have HBQ := Aside0.mk (Below.refl w.heap.size w)
  have HKR := Aside0.mk HY.out
  have HKI := Aside0.mk HIY.out
  have HKL := Aside0.mk HYL.out
  go_loopw [9, 10, 11, 12] (fun v9 v10 v11 v12 w' => ∃ i : Nat, i ≤ 64 ∧ v11 = .int .i64 i ∧ Aside0 (OwnO (Value.int .u8) w' w.heap.size 5 v9 (ipd 54 y i)) ∧ Aside0 (OwnO (Value.int .u8) w' w.heap.size 5 v10 (ipd 92 y i)) ∧ Aside0 (Apart v9 v10) ∧ Aside0 (Below w.heap.size w w')) (fun _ _ v11 _ _ => 64 - (intOf v11).toNat)
  case atStart => exact ⟨0, by omega, rfl, ⟨OwnO.nil _ _ _ _⟩, ⟨OwnO.nil _ _ _ _⟩, ⟨fun k hk => by cases hk⟩, ⟨Below.refl _ _⟩⟩
  case round =>
    obtain ⟨i, hi, rfl, H9, H10, HAP, HB⟩ := hrel
    obtain ⟨A9, c9, e9, _, _⟩ := H9.out.sl (ipd_len 54 y i)
    obtain ⟨A10, c10, e10, _, _⟩ := H10.out.sl (ipd_len 92 y i)
    subst e9
    subst e10
    by_cases c1 : i < 64
    · obtain ⟨x, ex⟩ : ∃ x, y.getD i 0 = x := ⟨_, rfl⟩
      have HS9 := Aside0.mk (ipd_succ 54 y i)
      have HS10 := Aside0.mk (ipd_succ 92 y i)
      rw [ex] at HS9 HS10
      obtain ⟨x9, e9⟩ : ∃ z, bits .xor .u8 x 54 = z := ⟨_, rfl⟩
      obtain ⟨x10, e10⟩ : ∃ z, bits .xor .u8 x 92 = z := ⟨_, rfl⟩
      rw [e9] at HS9
      rw [e10] at HS10
      obtain ⟨B9, d9, w9, hr9, ho9, hk9, ha9⟩ := app8L (m := 1) [x9] rfl H9.out (ipd_len _ _ _) rfl HB.out.size (by omega)
      have H10a := Aside0.mk (H10.out.kp hk9 (fun b hb hs => HAP.out b hs hb))
      have HAPa := Aside0.mk (HAP.out.grow H10.out ha9)
      have HBa := Aside0.mk (Kp.from HB.out hk9 (fun b hb => H9.out.ge hb))
      rw [HS9.out] at ho9
      have H9a := Aside0.mk ho9
      obtain ⟨B10, d10, w10, hr10, ho10, hk10, ha10⟩ := app8L (m := 1) [x10] rfl H10a.out (ipd_len _ _ _) rfl HBa.out.size (by omega)
      have H9b := Aside0.mk (H9a.out.kp hk10 (fun b hb hs => HAPa.out b hb hs))
      have HAPb := Aside0.mk (HAPa.out.symm.grow H9a.out ha10)
      have HBb := Aside0.mk (Kp.from HBa.out hk10 (fun b hb => H10a.out.ge hb))
      rw [HS10.out] at ho10
      have H10b := Aside0.mk ho10
      have HR9 := Aside0.mk (show (Builtin.append_ #[37, 37] 37 #[.slice A9 i c9, .slice (some ⟨wr.heap.size, 0, none⟩) 1 1]).run Try.prog (wr.alloc (.cells #[.int .u8 x9] 5)) = .ok (.slice B9 (i + 1) d9) w9 from hr9)
      have HR10 := Aside0.mk (show (Builtin.append_ #[37, 37] 37 #[.slice A10 i c10, .slice (some ⟨w9.heap.size, 0, none⟩) 1 1]).run Try.prog (w9.alloc (.cells #[.int .u8 x10] 5)) = .ok (.slice B10 (i + 1) d10) w10 from hr10)
      clear hr9 ho9 hk9 ha9 hr10 ho10 hk10 ha10
      by_cases c2 : i < Y
      · obtain ⟨ad, eA, hce⟩ := rdE_at (enc := Value.int .u8) (d := (0 : Int)) (HKR.out.below HB.out) i (by rw [HKL.out]; exact c2)
        cases eA
        rw [ex] at hce
        have hib := HKI.out.getD i
        rw [ex] at hib
        obtain ⟨x0, x1⟩ := hib
        clear ex
        go_wp2_with (first | ((with_reducible refine gate_builtin (b := .append) (xs := #[.tmp 32, .tmp 35]) rfl ?_); at_builtin; refine app_list rfl (.tmp 32) (.tmp 35) rfl rfl rfl HR9.out ?_) | ((with_reducible refine gate_builtin (b := .append) (xs := #[.tmp 37, .tmp 40]) rfl ?_); at_builtin; refine app_list rfl (.tmp 37) (.tmp 40) rfl rfl rfl HR10.out ?_))
        go_roundw
        case rel => exact ⟨i + 1, by omega, by go_num, H9b, H10b, ⟨HAPb.out.symm⟩, HBb⟩
        case measure => simp [intOf] <;> omega
      · obtain rfl : x = 0 := by rw [← ex, List.getD_eq_getElem?_getD, List.getElem?_eq_none (by rw [HKL.out]; omega)]; rfl
        clear ex
        go_wp2_with (first | ((with_reducible refine gate_builtin (b := .append) (xs := #[.tmp 32, .tmp 35]) rfl ?_); at_builtin; refine app_list rfl (.tmp 32) (.tmp 35) rfl rfl rfl HR9.out ?_) | ((with_reducible refine gate_builtin (b := .append) (xs := #[.tmp 37, .tmp 40]) rfl ?_); at_builtin; refine app_list rfl (.tmp 37) (.tmp 40) rfl rfl rfl HR10.out ?_))
        go_roundw
        case rel => exact ⟨i + 1, by omega, by go_num, H9b, H10b, ⟨HAPb.out.symm⟩, HBb⟩
        case measure => simp [intOf] <;> omega
    · obtain rfl : i = 64 := by omega
      obtain ⟨M, hM⟩ : ∃ n, L.length = n := ⟨_, rfl⟩
      obtain ⟨B9, d9, w9, hr9, ho9, hk9, ha9⟩ := app8R H9.out (HL.out.below (below_step HBQ.out HB.out)) (ipd_len _ _ _) hM HB.out.size (by omega)
      have H10a := Aside0.mk (H10.out.kp hk9 (fun b hb hs => HAP.out b hs hb))
      have HAPa := Aside0.mk (HAP.out.grow H10.out ha9)
      have HBa := Aside0.mk (below_step HBQ.out (Kp.from HB.out hk9 (fun b hb => H9.out.ge hb)))
      have HBz := Aside0.mk (Kp.from HB.out hk9 (fun b hb => H9.out.ge hb))
      have H9a := Aside0.mk ho9
      have HR9 := Aside0.mk hr9
      have hM9 : M ≤ 90000 := by omega
      have HMM := Aside0.mk hM
      clear hr9 ho9 hk9 ha9 hM hL
      go_wp2_with (first | ((with_reducible refine gate_builtin (b := .append) (xs := #[.tmp 47, .tmp 48]) rfl ?_); at_builtin; refine app_list rfl (.tmp 47) (.tmp 48) rfl rfl rfl HR9.out ?_))
      with_reducible refine (refOf_calls _ _ _ (ipd 54 y 64 ++ L) _ (HA.out.below HBa.out) (HK.out.below HBa.out) (OwnO.rd H9a.out) ((ipd_isB _ _ _).app HIL.out) (by rw [List.length_append, ipd_len, HMM.out]; omega)).mono ?_
      rintro e w11 ⟨v11, rfl, ho11, hb11⟩
      have HB11 := Aside0.mk (below_step HBa.out hb11)
      have HBz11 := Aside0.mk (below_step HBz.out hb11)
      have H10c := Aside0.mk (H10a.out.below hb11)
      obtain ⟨B10, d10, w12, hr12, ho12, hk12, ha12⟩ := app8R H10c.out (OwnO.rd ho11) (ipd_len _ _ _) (shaP_len _) HBz11.out.size (by omega)
      have HB12 := Aside0.mk (below_step HBQ.out (Kp.from HBz11.out hk12 (fun b hb => H10c.out.ge hb)))
      have H12 := Aside0.mk ho12
      have HR12 := Aside0.mk hr12
      clear hr12 ho12 hk12 ha12 ho11 hb11
      go_wp2_with (first | ((with_reducible refine gate_builtin (b := .append) (xs := #[.tmp 44, .tmp 50]) rfl ?_); at_builtin; refine app_list rfl (.tmp 44) (.tmp 50) rfl rfl rfl HR12.out ?_))
      with_reducible refine (refOf_calls _ _ _ (ipd 92 y 64 ++ shaP (ipd 54 y 64 ++ L)) _ (HA.out.below HB12.out) (HK.out.below HB12.out) (OwnO.rd H12.out) ((ipd_isB _ _ _).app (shaP_isB _)) (by rw [List.length_append, ipd_len, shaP_len]; omega)).mono ?_
      rintro e w13 ⟨v13, rfl, ho13, hb13⟩
      have H13 := Aside0.mk (show OwnO (Value.int .u8) w13 w.heap.size 5 v13 (kyP y L) by rw [kyP, HE.out]; exact ho13.weaken HB12.out.size)
      have HB13 := Aside0.mk (below_step HB12.out hb13)
      clear ho13 hb13
      go_wp2_with fail
      go_ret
      exact ⟨_, rfl, H13.out, HB13.out⟩

theorem refKeyed_calls (va vk vy vb : Value) (y L : List Int) (w : World) (ha : Rd w .u32 va h0L) (hk : Rd w .u32 vk kT) (hy : Rd w .u8 vy y) (hib : isB y) (hb : Rd w .u8 vb L) (hibL : isB L) (hL : L.length ≤ 90000) (hy1 : y.length ≤ 90000) :
    Calls Try.prog 105 #[va, vk, vy, vb] w fun e w' => ∃ v', e = .returned v' ∧ OwnO (Value.int .u8) w' w.heap.size 5 v' (kyP y L) ∧ Below w.heap.size w w' := by
  by_cases h : 64 < y.length
  · exact refKeyed_big va vk vy vb y L w ha hk hy hib hb hibL hL hy1 h
  · exact refKeyed_small va vk vy vb y L w ha hk hy hib hb hibL hL hy1 (by omega)
end Go.Proofs.Ytplmdgimodgekaa
