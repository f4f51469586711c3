/- Objects as bytes: the reference's Encode. -/
import Derived.Test.YtigdchfjcfljjaaObjE
namespace Go.Proofs.Ytigdchfjcfljjaa
open Go.RowKit Go.Proofs.YtigdchfjcfljjaaW.PrintWords Go.Proofs.YtigdchfjcfljjaaW.PrintLast Go.Proofs.YtigdchfjcfljjaaW.PrintMore
attribute [local go_sem] max2_int min2_int max_two min_two max_three min_three max_four min_four   -- for this text's walks alone
set_option linter.unusedVariables false
set_option linter.unusedSimpArgs false

theorem leW8 : leW 8 = 8 := by decide
theorem words8_take (pre ws : List Int) (i : Nat) (h : i < ws.length) : pre ++ words8 (ws.take (i + 1)) = (pre ++ words8 (ws.take i)) ++ leB (ws.getD i 0) 8 := by
  rw [take_snoc h, words8_snoc, List.append_assoc]

set_option maxHeartbeats 8000000 in
set_option maxRecDepth 100000 in
theorem ref_oEncode_yes (k : Int) (ws raw it : List Int) (A1 A2 A3 : Option Addr) (c1 c2 c3 : Nat) (w : World) (h1 : Rd w .u64 (.slice A1 ws.length c1) ws) (h2 : Rd w .u8 (.slice A2 raw.length c2) raw) (h3 : Rd w .u64 (.slice A3 it.length c3) it)
    (b1 : isW ws) (b2 : isB raw) (b3 : isW it) (hr : oR k ws.length raw.length it.length = true) :
    Calls Try.prog 148 #[.agg #[.int .i64 k, .slice A1 ws.length c1, .slice A2 raw.length c2, .slice A3 it.length c3]] w fun e w' => ∃ v, e = .returned v ∧ Own (Value.int .u8) w' w.heap.size 5 v (objZ k ws raw it) ∧ Below w.heap.size w w' := by
  obtain ⟨k0, k1, kw, n1, n2, n3⟩ := oR_of hr
  have HR := Aside0.mk hr
  have H1 := Aside0.mk h1
  have H2 := Aside0.mk h2
  have H3 := Aside0.mk h3
  have W1 := Aside0.mk b1
  have W3 := Aside0.mk b3
  have HBX := Aside0.mk (blk_new w (.cells #[.int .i64 k, .slice A1 ws.length c1, .slice A2 raw.length c2, .slice A3 it.length c3] 48))
  clear hr h1 h2 h3 b1 b2 b3 kw
  go_enter Try.func148, Try.ntmps148
  go_wp2_with fail
  refine (ref_oRight_calls k A1 A2 A3 ws.length raw.length it.length c1 c2 c3 _ (by omega) (by omega) (by omega)).mono ?_
  rintro e w1 ⟨rfl, hb⟩
  have HB1 := Aside0.mk (below_step (below_alloc (Below.refl _ _) (.cells #[.int .i64 k, .slice A1 ws.length c1, .slice A2 raw.length c2, .slice A3 it.length c3] 48)) hb)
  have HX1 := Aside0.mk (blk_below HBX.out hb)
  clear hb
  rw [HR.out]
  have z0 := blk_cell HX1.out 0
  have z1 := blk_cell HX1.out 1
  have z2 := blk_cell HX1.out 2
  have z3 := blk_cell HX1.out 3
  go_wp2_with fail
  with_reducible refine (ref_Bytes_calls k 8 _ (by omega) (by omega)).mono ?_
  rintro e w2 ⟨v2, rfl, hR2, hb2⟩
  have HB2 := Aside0.mk (below_step HB1.out hb2)
  have HX2 := Aside0.mk (blk_below HX1.out hb2)
  have HO2 := Aside0.mk (Own.weaken (Own.of_R hR2) HB1.out.size)
  clear hR2 hb2 z0 z1 z2 z3
  obtain ⟨z, hz⟩ : ∃ z, 16 + 8 * (ws.length : Int) + (raw.length : Int) + 8 * (it.length : Int) = z := ⟨_, rfl⟩
  have hz0 : 0 ≤ z := by omega
  have hz1 : z ≤ 100000 := by omega
  have HZ := Aside0.mk hz
  clear hz
  go_wp2_with fail
  rw [HZ.out]
  with_reducible refine (ref_Bytes_calls z 8 _ hz0 (by omega)).mono ?_
  rintro e w3 ⟨v3, rfl, hR3, hb3⟩
  obtain ⟨A4, c4, w4, hrun4, hO4, hg4, hat4⟩ := app8 (HO2.out.below hb3) (Own.rd (Own.of_R hR3)) (Nat.le_trans HB2.out.size hb3.size) (by simp only [leB_len]; unfold leW; omega)
  have HX4 := Aside0.mk (blk_grown (blk_below HX2.out hb3) hg4 (fun e => (HO2.out.below hb3).ne (blk_below HX2.out hb3) (by decide) e.symm))
  have HB4 := Aside0.mk (Kp.from (below_step HB2.out hb3) (Kp.of_grown hg4) (fun k hk => HO2.out.ge hk))
  have hp : leB k (leW 8) ++ leB z (leW 8) = words8 [k, z] := by rw [leW8]; simp [words8]
  rw [hp] at hrun4 hO4
  obtain ⟨m, hm⟩ : ∃ m, (words8 [k, z]).length = m := ⟨_, rfl⟩
  rw [hm] at hrun4 hO4
  have HO4 := Aside0.mk hO4
  have HR4 := Aside0.mk hrun4
  clear hR3 hb3 hrun4 hO4 hg4 hat4 hm hp
  go_wp2_with (first | ((with_reducible refine gate_builtin (b := .append) (xs := #[.tmp 27, .tmp 30]) rfl ?_); at_builtin; refine app_list rfl (.tmp 27) (.tmp 30) rfl rfl rfl HR4.out ?_))
  go_loopw [4, 5] (fun v4 v5 w' => ∃ i : Nat, i ≤ ws.length ∧ v5 = .int .i64 i ∧ Aside0 (Own (Value.int .u8) w' w.heap.size 5 v4 (words8 [k, z] ++ words8 (ws.take i))) ∧ Aside0 (Below w.heap.size w w') ∧ Aside0 (w'.heap[w.heap.size]? = some (.cells #[.int .i64 k, .slice A1 ws.length c1, .slice A2 raw.length c2, .slice A3 it.length c3] 48 (0, 0)))) (fun _ v5 _ => ws.length - (intOf v5).toNat)
  case atStart => exact ⟨0, by omega, rfl, ⟨by simpa [words8] using HO4.out⟩, HB4, HX4⟩
  case round =>
    obtain ⟨i, hi, rfl, HO, HB, HX⟩ := hrel
    have z0 := blk_cell HX.out 0
    have z1 := blk_cell HX.out 1
    have z2 := blk_cell HX.out 2
    have z3 := blk_cell HX.out 3
    by_cases hcc : i < ws.length
    · obtain ⟨ad, e, hcell⟩ := rd_at (H1.out.reads HB.out) i hcc
      have hxb := W1.out.getD i
      have HN := Aside0.mk (words8_take (words8 [k, z]) ws i hcc)
      obtain ⟨x, hx⟩ : ∃ x, ws.getD i 0 = x := ⟨_, rfl⟩
      rw [hx] at hcell hxb HN
      obtain ⟨x0, x1⟩ := hxb
      have HLEN := Aside0.mk (show (words8 [k, z] ++ words8 (ws.take i)).length ≤ 100000 by simp only [List.length_append, words8_len, List.length_take, List.length_cons, List.length_nil]; omega)
      clear hx
      cases e
      go_wp2_with fail
      with_reducible refine (ref_Bytes_calls x 8 _ x0 x1).mono ?_
      rintro e w2 ⟨v2, rfl, hR2, hb2⟩
      obtain ⟨A4, c4, w4, hrun4, hO4, hg4, hat4⟩ := app8 (HO.out.below hb2) (Own.rd (Own.of_R hR2)) (Nat.le_trans HB.out.size hb2.size) (by have := HLEN.out; simp only [leB_len]; unfold leW; omega)
      have HX4 := Aside0.mk (blk_grown (blk_below HX.out hb2) hg4 (fun e => (HO.out.below hb2).ne (blk_below HX.out hb2) (by decide) e.symm))
      have HB4 := Aside0.mk (Kp.from (below_step HB.out hb2) (Kp.of_grown hg4) (fun k hk => HO.out.ge hk))
      rw [leW8, ← HN.out] at hrun4 hO4
      obtain ⟨m, hm⟩ : ∃ m, (words8 [k, z] ++ words8 (ws.take (i + 1))).length = m := ⟨_, rfl⟩
      rw [hm] at hrun4 hO4
      have HO4 := Aside0.mk hO4
      have HR4 := Aside0.mk hrun4
      clear hR2 hb2 hrun4 hO4 hg4 hat4 hm z0 z1 z2 z3
      go_wp2_with (first | ((with_reducible refine gate_builtin (b := .append) (xs := #[.tmp 39, .tmp 45]) rfl ?_); at_builtin; refine app_list rfl (.tmp 39) (.tmp 45) rfl rfl rfl HR4.out ?_))
      go_roundw
      case rel => exact ⟨i + 1, by omega, by go_num, HO4, HB4, HX4⟩
      case measure => simp [intOf]; omega
    · have HJ := Aside0.mk (show words8 [k, z] ++ words8 (ws.take i) = words8 [k, z] ++ words8 ws by rw [List.take_of_length_le (by omega)])
      have HO1 := Aside0.mk (show Own (Value.int .u8) wr w.heap.size 5 _ (words8 [k, z] ++ words8 ws) by rw [← HJ.out]; exact HO.out)
      clear HO HJ

      obtain ⟨A6, c6, w6, hrun6, hO6, hg6, hat6⟩ := app8 HO1.out (H2.out.below HB.out) HB.out.size (by simp only [List.length_append, words8_len, List.length_cons, List.length_nil]; omega)
      have HX6 := Aside0.mk (blk_grown HX.out hg6 (fun e => HO1.out.ne HX.out (by decide) e.symm))
      have HB6 := Aside0.mk (Kp.from HB.out (Kp.of_grown hg6) (fun k hk => HO1.out.ge hk))
      obtain ⟨m, hm⟩ : ∃ m, (words8 [k, z] ++ words8 ws ++ raw).length = m := ⟨_, rfl⟩
      rw [hm] at hrun6 hO6
      have HO6 := Aside0.mk hO6
      have HR6 := Aside0.mk hrun6
      clear hrun6 hO6 hg6 hat6 hm
      go_wp2_with (first | ((with_reducible refine gate_builtin (b := .append) (xs := #[.tmp 47, .tmp 49]) rfl ?_); at_builtin; refine app_list rfl (.tmp 47) (.tmp 49) rfl rfl rfl HR6.out ?_))
      go_loopw [4, 6] (fun v4 v6 w' => ∃ i : Nat, i ≤ it.length ∧ v6 = .int .i64 i ∧ Aside0 (Own (Value.int .u8) w' w.heap.size 5 v4 (words8 [k, z] ++ words8 ws ++ raw ++ words8 (it.take i))) ∧ Aside0 (Below w.heap.size w w') ∧ Aside0 (w'.heap[w.heap.size]? = some (.cells #[.int .i64 k, .slice A1 ws.length c1, .slice A2 raw.length c2, .slice A3 it.length c3] 48 (0, 0)))) (fun _ v6 _ => it.length - (intOf v6).toNat)
      case atStart => exact ⟨0, by omega, rfl, ⟨by simpa [words8] using HO6.out⟩, HB6, HX6⟩
      case round =>
        clear HO1 HB HX z0 z1 z2 z3
        obtain ⟨i, hi, rfl, HO, HB, HX⟩ := hrel
        have z0 := blk_cell HX.out 0
        have z1 := blk_cell HX.out 1
        have z2 := blk_cell HX.out 2
        have z3 := blk_cell HX.out 3
        by_cases hcc : i < it.length
        · obtain ⟨ad, e, hcell⟩ := rd_at (H3.out.reads HB.out) i hcc
          have hxb := W3.out.getD i
          have HN := Aside0.mk (words8_take (words8 [k, z] ++ words8 ws ++ raw) it i hcc)
          obtain ⟨x, hx⟩ : ∃ x, it.getD i 0 = x := ⟨_, rfl⟩
          rw [hx] at hcell hxb HN
          obtain ⟨x0, x1⟩ := hxb
          have HLEN := Aside0.mk (show (words8 [k, z] ++ words8 ws ++ raw ++ words8 (it.take i)).length ≤ 100000 by simp only [List.length_append, words8_len, List.length_take, List.length_cons, List.length_nil]; omega)
          clear hx
          cases e
          go_wp2_with fail
          with_reducible refine (ref_Bytes_calls x 8 _ x0 x1).mono ?_
          rintro e w2 ⟨v2, rfl, hR2, hb2⟩
          obtain ⟨A4, c4, w4, hrun4, hO4, hg4, hat4⟩ := app8 (HO.out.below hb2) (Own.rd (Own.of_R hR2)) (Nat.le_trans HB.out.size hb2.size) (by have := HLEN.out; simp only [leB_len]; unfold leW; omega)
          have HX4 := Aside0.mk (blk_grown (blk_below HX.out hb2) hg4 (fun e => (HO.out.below hb2).ne (blk_below HX.out hb2) (by decide) e.symm))
          have HB4 := Aside0.mk (Kp.from (below_step HB.out hb2) (Kp.of_grown hg4) (fun k hk => HO.out.ge hk))
          rw [leW8, ← HN.out] at hrun4 hO4
          obtain ⟨m, hm⟩ : ∃ m, (words8 [k, z] ++ words8 ws ++ raw ++ words8 (it.take (i + 1))).length = m := ⟨_, rfl⟩
          rw [hm] at hrun4 hO4
          have HO4 := Aside0.mk hO4
          have HR4 := Aside0.mk hrun4
          clear hR2 hb2 hrun4 hO4 hg4 hat4 hm z0 z1 z2 z3
          go_wp2_with (first | ((with_reducible refine gate_builtin (b := .append) (xs := #[.tmp 58, .tmp 64]) rfl ?_); at_builtin; refine app_list rfl (.tmp 58) (.tmp 64) rfl rfl rfl HR4.out ?_))
          go_roundw
          case rel => exact ⟨i + 1, by omega, by go_num, HO4, HB4, HX4⟩
          case measure => simp [intOf]; omega
        · have HJ := Aside0.mk (show words8 [k, z] ++ words8 ws ++ raw ++ words8 (it.take i) = words8 [k, z] ++ words8 ws ++ raw ++ words8 it by rw [List.take_of_length_le (by omega)])
          have HO1 := Aside0.mk (show Own (Value.int .u8) wr w.heap.size 5 _ (words8 [k, z] ++ words8 ws ++ raw ++ words8 it) by rw [← HJ.out]; exact HO.out)
          clear HO HJ

          have HBB := Aside0.mk (show words8 [k, z] ++ words8 ws ++ raw ++ words8 it = objB k ws raw it by rw [objB, HZ.out])
          have HO7 := Aside0.mk (show Own (Value.int .u8) wr w.heap.size 5 _ (objB k ws raw it) by rw [← HBB.out]; exact HO1.out)
          have hn0 := objB_len k ws raw it
          obtain ⟨n0, hn1⟩ : ∃ n0, (objB k ws raw it).length = n0 := ⟨_, rfl⟩
          rw [hn1] at hn0
          have hn2 : n0 ≤ 100000 := by omega
          obtain ⟨p, hp⟩ : ∃ p, padN n0 8 = p := ⟨_, rfl⟩
          have hp8 : p ≤ 8 := by have := padN_le n0 8; omega
          have HN1 := Aside0.mk hn1
          have HP := Aside0.mk hp
          clear hn0 hn1 hp HO1 HBB
          go_wp2_with fail
          go_loopg [4] p (fun kq v4 w' => ∃ j : Nat, j + kq = p ∧ Aside0 (Own (Value.int .u8) w' w.heap.size 5 v4 (objB k ws raw it ++ List.replicate j 0)) ∧ Aside0 (Below w.heap.size w w'))
          case atStart => exact ⟨0, by omega, ⟨by simpa using HO7.out⟩, HB⟩
          case round =>
            clear HO7 HB HX z0 z1 z2 z3
            obtain ⟨j, hj, HO, HB⟩ := hrel
            have HJJ := Aside0.mk hj
            have hjp : j ≤ p := by omega
            clear hj
            obtain ⟨Ao, co, e1⟩ := own_slice HO.out
            have hlen : (objB k ws raw it ++ List.replicate j 0).length = n0 + j := by rw [List.length_append, HN1.out, List.length_replicate]
            rw [hlen] at e1
            have HLEN := Aside0.mk hlen
            have HT := Aside0.mk (padN_test n0 8 (by omega) (by omega) j (by rw [HP.out]; exact hjp))
            rw [HP.out] at HT
            clear hlen
            subst e1
            by_cases hc2 : j = p
            · have ht : (((n0 : Int) + (j : Int)) % 8 != 0) = false := by rw [bne_eq_false_iff_eq]; exact HT.out.2 hc2
              have HE := Aside0.mk (show objB k ws raw it ++ List.replicate j 0 = objZ k ws raw it by rw [objZ, HN1.out, HP.out, hc2])
              rw [HE.out] at HO
              clear hc2
              go_wp2_with fail
              go_ret
              exact ⟨_, rfl, HO.out, HB.out⟩
            · have ht : (((n0 : Int) + (j : Int)) % 8 != 0) = true := by rw [bne_iff_ne]; exact fun e => hc2 (HT.out.1 e)
              have hL := Rd.lit wr .u8 5 [0] (by simp)
              obtain ⟨A5, c5, w5, hrun5, hO5, hg5, hat5⟩ := app8 (HO.out.below (below_alloc (Below.refl _ _) (.cells (nums .u8 [0]).toArray 5))) hL (by have := HB.out.size; simp; omega) (by rw [HLEN.out]; simp; omega)
              have HB5 := Aside0.mk (Kp.from (below_alloc HB.out (.cells (nums .u8 [0]).toArray 5)) (Kp.of_grown hg5) (fun k hk => HO.out.ge hk))
              have hS : objB k ws raw it ++ List.replicate j 0 ++ [0] = objB k ws raw it ++ List.replicate (j + 1) 0 := by rw [List.replicate_succ', List.append_assoc]
              rw [hS] at hrun5 hO5
              have HO5 := Aside0.mk hO5
              obtain ⟨m, hm⟩ : ∃ m, (objB k ws raw it ++ List.replicate (j + 1) (0 : Int)).length = m := ⟨_, rfl⟩
              rw [hm] at hrun5 HO5
              have HR5 := Aside0.mk hrun5
              simp only [nums, List.map_cons, List.map_nil] at HR5
              have hjp2 : j + 1 ≤ p := by omega
              clear hL hrun5 hO5 hg5 hat5 hm hS hc2
              go_wp2_with (first | ((with_reducible refine gate_builtin (b := .append) (xs := #[.tmp 70, .tmp 71]) rfl ?_); at_builtin; refine app_list rfl (.tmp 70) (.tmp 71) rfl rfl rfl HR5.out ?_))
              go_roundg (p - (j + 1))
              case measure => have := HJJ.out; omega
              case rel => exact ⟨j + 1, by omega, HO5, HB5⟩
set_option maxHeartbeats 8000000 in
set_option maxRecDepth 100000 in
theorem ref_oEncode_no (k : Int) (nW nR nI : Nat) (A1 A2 A3 : Option Addr) (c1 c2 c3 : Nat) (w : World) (bW : nW ≤ 140737488355328) (bR : nR ≤ 140737488355328) (bI : nI ≤ 140737488355328) (hr : oR k nW nR nI = false) :
    Calls Try.prog 148 #[.agg #[.int .i64 k, .slice A1 nW c1, .slice A2 nR c2, .slice A3 nI c3]] w fun e w' => e = .returned (.slice none 0 0) ∧ Below w.heap.size w w' := by
  have HR := Aside0.mk hr
  clear hr
  go_enter Try.func148, Try.ntmps148
  go_wp2_with fail
  refine (ref_oRight_calls k A1 A2 A3 nW nR nI c1 c2 c3 _ bW bR bI).mono ?_
  rintro e w1 ⟨rfl, hb⟩
  have HB1 := Aside0.mk (below_step (below_alloc (Below.refl _ _) (.cells #[.int .i64 k, .slice A1 nW c1, .slice A2 nR c2, .slice A3 nI c3] 48)) hb)
  clear hb
  rw [HR.out]
  go_wp2_with fail
  go_ret
  exact ⟨rfl, HB1.out⟩
end Go.Proofs.Ytigdchfjcfljjaa
