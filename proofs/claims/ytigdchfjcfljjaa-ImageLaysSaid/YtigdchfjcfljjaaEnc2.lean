/- Headers and slots as bytes: the references' Encodes. -/
import Derived.Test.YtigdchfjcfljjaaEnc
namespace Go.Proofs.Ytigdchfjcfljjaa
open Go.RowKit Go.Proofs.YtigdchfjcfljjaaW.PrintWords Go.Proofs.YtigdchfjcfljjaaW.PrintLast Go.Proofs.YtigdchfjcfljjaaW.PrintMore
attribute [local go_sem] max2_int min2_int max_two min_two max_three min_three max_four min_four   -- for this text's walks alone
set_option linter.unusedVariables false
set_option linter.unusedSimpArgs false

theorem encB_snoc (pre ws : List Int) (k : Nat) (h : k < ws.length) : encB pre (ws.take (k + 1)) = encB pre (ws.take k) ++ leB (ws.getD k 0) 8 := by
  rw [take_snoc h, encB, encB, words8_snoc, List.append_assoc]
theorem nums_cell {W : World} {g t : Nat} {k : IntKind} {xs : List Int} (h : W.heap[g]? = some (.cells (nums k xs).toArray t (0, 0))) (i : Nat) (hi : i < xs.length) : W.cell? ⟨g, i, none⟩ = some (.int k (xs.getD i 0)) := by
  rw [blk_cell h]
  simp [nums, List.getD_eq_getElem?_getD, hi]
theorem nums_grown {W W1 : World} {g t : Nat} {o : Option Nat} {k : IntKind} {xs ys : List Int} {base : Nat} {v : Value} (hO : Own (Value.int .u8) W base 5 v ys) (hg : W.grownBy W1 v.ownBlock) {cs : Array Value} (ht : 5 ≠ t) (h : W.heap[g]? = some (.cells cs t (0, 0))) : W1.heap[g]? = some (.cells cs t (0, 0)) :=
  blk_grown h hg (fun e => hO.ne h ht e.symm)

set_option maxHeartbeats 8000000 in
set_option maxRecDepth 100000 in
theorem ref_hEncode_yes (id key data fields made : Int) (w : World) (hr : hR data fields = true) (id0 : 0 ≤ id) (id1 : id ≤ 18446744073709551615) (key0 : 0 ≤ key) (key1 : key ≤ 18446744073709551615) (data0 : 0 ≤ data) (data1 : data ≤ 256) (fields0 : 0 ≤ fields) (fields1 : fields ≤ 256) (made0 : 0 ≤ made) (made1 : made ≤ 18446744073709551615) :
    Calls Try.prog 37 #[.agg #[.int .u64 id, .int .u64 key, .int .i64 data, .int .i64 fields, .int .u64 made]] w fun e w' => ∃ v, e = .returned v ∧ Own (Value.int .u8) w' w.heap.size 5 v (encZ magicL [id, key, data, fields, made]) ∧ Below w.heap.size w w' := by
  have HR := Aside0.mk hr
  have HW := Aside0.mk (show isW [id, key, data, fields, made] by intro x hx; simp only [List.mem_cons, List.not_mem_nil, or_false] at hx; rcases hx with rfl | rfl | rfl | rfl | rfl <;> omega)
  have hcb := crcN_lt (encB_isB (show isB magicL by exact magic_isB) [id, key, data, fields, made])
  obtain ⟨K, hK⟩ : ∃ K : Int, ((crcN (encB magicL [id, key, data, fields, made]) : Nat) : Int) = K := ⟨_, rfl⟩
  have hK0 : 0 ≤ K := by omega
  have hK1 : K ≤ 4294967295 := by omega
  have HKK := Aside0.mk hK
  clear hr hK hcb
  go_enter Try.func37, Try.ntmps37
  go_wp2_with fail
  refine (ref_hRight_calls id key data fields made _).mono ?_
  rintro e w1 ⟨rfl, hb⟩
  have HB1 := Aside0.mk (below_step (below_alloc (Below.refl _ _) (.cells #[.int .u64 id, .int .u64 key, .int .i64 data, .int .i64 fields, .int .u64 made] 60)) hb)
  have HX1 := Aside0.mk (blk_below (blk_new w (.cells #[.int .u64 id, .int .u64 key, .int .i64 data, .int .i64 fields, .int .u64 made] 60)) hb)
  clear hb
  rw [HR.out]
  have c0 := blk_cell (blk_alloc HX1.out (.cells #[.int .u8 76, .int .u8 79, .int .u8 71, .int .u8 66, .int .u8 79, .int .u8 79, .int .u8 75, .int .u8 49] 5)) 0
  have c1 := blk_cell (blk_alloc HX1.out (.cells #[.int .u8 76, .int .u8 79, .int .u8 71, .int .u8 66, .int .u8 79, .int .u8 79, .int .u8 75, .int .u8 49] 5)) 1
  have c2 := blk_cell (blk_alloc HX1.out (.cells #[.int .u8 76, .int .u8 79, .int .u8 71, .int .u8 66, .int .u8 79, .int .u8 79, .int .u8 75, .int .u8 49] 5)) 2
  have c3 := blk_cell (blk_alloc HX1.out (.cells #[.int .u8 76, .int .u8 79, .int .u8 71, .int .u8 66, .int .u8 79, .int .u8 79, .int .u8 75, .int .u8 49] 5)) 3
  have c4 := blk_cell (blk_alloc HX1.out (.cells #[.int .u8 76, .int .u8 79, .int .u8 71, .int .u8 66, .int .u8 79, .int .u8 79, .int .u8 75, .int .u8 49] 5)) 4
  go_wp2_with fail
  go_loopw [3, 5] (fun vo v5 w' => ∃ k : Nat, k ≤ 5 ∧ v5 = .int .i64 k ∧ Aside0 (Own (Value.int .u8) w' w.heap.size 5 vo (encB magicL (([id, key, data, fields, made] : List Int).take k))) ∧ Aside0 (Below w.heap.size w w') ∧ Aside0 (w'.heap[w1.heap.size + 1]? = some (.cells (nums .u64 [id, key, data, fields, made]).toArray 32 (0, 0)))) (fun _ v5 _ => 5 - (intOf v5).toNat)
  case atStart =>
    refine ⟨0, by omega, rfl, ⟨?_⟩, ⟨below_alloc (below_alloc HB1.out (.cells #[.int .u8 76, .int .u8 79, .int .u8 71, .int .u8 66, .int .u8 79, .int .u8 79, .int .u8 75, .int .u8 49] 5)) (.cells #[.int .u64 id, .int .u64 key, .int .u64 data, .int .u64 fields, .int .u64 made] 32)⟩, ⟨by have := blk_new (w1.alloc (.cells #[.int .u8 76, .int .u8 79, .int .u8 71, .int .u8 66, .int .u8 79, .int .u8 79, .int .u8 75, .int .u8 49] 5)) (.cells #[.int .u64 id, .int .u64 key, .int .u64 data, .int .u64 fields, .int .u64 made] 32); simpa [nums] using this⟩⟩
    have := own_lit w1 w.heap.size 5 .u8 magicL HB1.out.size (by simp [magicL]); have h2 := Own.below this (below_alloc (Below.refl _ _) (.cells #[.int .u64 id, .int .u64 key, .int .u64 data, .int .u64 fields, .int .u64 made] 32)); simpa [magicL, nums, encB, words8] using h2
  case round =>
    obtain ⟨k, hk, rfl, HO, HB, HX⟩ := hrel
    clear c0 c1 c2 c3 c4
    by_cases c1 : k < 5
    · have hc := nums_cell HX.out k (by simp; omega)
      have hxb := HW.out.getD k
      have HN := Aside0.mk (encB_snoc magicL [id, key, data, fields, made] k (by simp; omega))
      obtain ⟨x, hx⟩ : ∃ x, ([id, key, data, fields, made] : List Int).getD k 0 = x := ⟨_, rfl⟩
      rw [hx] at hc hxb HN
      obtain ⟨x0, x1⟩ := hxb
      have HLEN := Aside0.mk (show (encB magicL (([id, key, data, fields, made] : List Int).take k)).length ≤ 100 by rw [encB_len, List.length_take]; simp [magicL]; omega)
      clear hx
      go_wp2_with fail
      with_reducible refine (ref_Bytes_calls x 8 _ x0 x1).mono ?_
      rintro e w2 ⟨v2, rfl, hR2, hb2⟩
      obtain ⟨A4, c4, w4, hrun4, hO4, hg4, hat4⟩ := app8 (HO.out.below hb2) (Own.rd (Own.of_R hR2)) (Nat.le_trans HB.out.size hb2.size) (by have := HLEN.out; simp only [leB_len]; unfold leW; omega)
      have HX4 := Aside0.mk (nums_grown (o := none) (k := .u8) (xs := []) (HO.out.below hb2) hg4 (by decide) (blk_below HX.out hb2))
      have HB4 := Aside0.mk (Kp.from (below_step HB.out hb2) (Kp.of_grown hg4) (fun k hk => HO.out.ge hk))
      rw [leW8, ← HN.out] at hrun4 hO4
      obtain ⟨m, hm⟩ : ∃ m, (encB magicL (([id, key, data, fields, made] : List Int).take (k + 1))).length = m := ⟨_, rfl⟩
      rw [hm] at hrun4 hO4
      have HO4 := Aside0.mk hO4
      have HR4 := Aside0.mk hrun4
      clear hR2 hb2 hrun4 hO4 hg4 hat4 hm
      go_wp2_with (first | ((with_reducible refine gate_builtin (b := .append) (xs := #[.tmp 29, .tmp 34]) rfl ?_); at_builtin; refine app_list rfl (.tmp 29) (.tmp 34) rfl rfl rfl HR4.out ?_))
      go_roundw
      case rel => exact ⟨k + 1, by omega, by go_num, HO4, HB4, HX4⟩
      case measure => simp [intOf]; omega
    · have HJ := Aside0.mk (show encB magicL (([id, key, data, fields, made] : List Int).take k) = encB magicL [id, key, data, fields, made] from congrArg (encB magicL) (List.take_of_length_le (by simp; omega)))
      have HO1 := Aside0.mk (show Own (Value.int .u8) wr w.heap.size 5 _ (encB magicL [id, key, data, fields, made]) by rw [← HJ.out]; exact HO.out)
      clear HO
      go_wp2_with fail
      with_reducible refine (ref_crc_calls _ (encB magicL [id, key, data, fields, made]) _ (Own.rd HO1.out) (encB_isB (show isB magicL by exact magic_isB) _)).mono ?_
      rintro e w2 ⟨rfl, hb⟩
      have HO2 := Aside0.mk (HO1.out.below hb)
      have HB2 := Aside0.mk (below_step HB.out hb)
      clear hb
      rw [HKK.out]
      go_wp2_with fail
      with_reducible refine (ref_Bytes_calls K 4 _ hK0 (by omega)).mono ?_
      rintro e w3 ⟨v3, rfl, hR3, hb3⟩
      obtain ⟨A4, c4, w4, hrun4, hO4, hg4, hat4⟩ := app8 (HO2.out.below hb3) (Own.rd (Own.of_R hR3)) (Nat.le_trans HB2.out.size hb3.size) (by rw [leB_len, encB_len]; simp [magicL]; unfold leW; omega)
      have HB4 := Aside0.mk (Kp.from (below_step HB2.out hb3) (Kp.of_grown hg4) (fun k hk => HO2.out.ge hk))
      have hC : encB magicL [id, key, data, fields, made] ++ leB K (leW 4) = encC magicL [id, key, data, fields, made] := by rw [encC, ← HKK.out, leW4]
      rw [hC] at hrun4 hO4
      have hLC : (encC magicL [id, key, data, fields, made]).length = 52 := by simp [encC_len, magicL]
      rw [hLC] at hrun4 hO4
      have HO4 := Aside0.mk hO4
      have HR4 := Aside0.mk hrun4
      have HLC := Aside0.mk hLC
      clear hR3 hb3 hrun4 hO4 hg4 hat4 hC hLC
      go_wp2_with (first | ((with_reducible refine gate_builtin (b := .append) (xs := #[.tmp 36, .tmp 40]) rfl ?_); at_builtin; refine app_list rfl (.tmp 36) (.tmp 40) rfl rfl rfl HR4.out ?_))
      go_loopg [3] 12 (fun kq vo w' => ∃ j : Nat, j + kq = 12 ∧ Aside0 (Own (Value.int .u8) w' w.heap.size 5 vo (encC magicL [id, key, data, fields, made] ++ List.replicate j 0)) ∧ Aside0 (Below w.heap.size w w'))
      case atStart => exact ⟨0, by omega, ⟨by simpa using HO4.out⟩, HB4⟩
      case round =>
        obtain ⟨j, hj, HO, HB⟩ := hrel
        have HJJ := Aside0.mk hj
        have hj12 : j ≤ 12 := by omega
        clear hj
        obtain ⟨A1, c1, e1⟩ := own_slice HO.out
        have hlen : (encC magicL [id, key, data, fields, made] ++ List.replicate j 0).length = 52 + j := by rw [List.length_append, HLC.out, List.length_replicate]
        rw [hlen] at e1
        have HLEN := Aside0.mk hlen
        clear hlen
        subst e1
        by_cases c2 : j < 12
        · have hL := Rd.lit wr .u8 5 [0] (by simp)
          obtain ⟨A5, c5, w5, hrun5, hO5, hg5, hat5⟩ := app8 (HO.out.below (below_alloc (Below.refl _ _) (.cells (nums .u8 [0]).toArray 5))) hL (by have := HB.out.size; simp; omega) (by rw [HLEN.out]; simp; omega)
          have HB5 := Aside0.mk (Kp.from (below_alloc HB.out (.cells (nums .u8 [0]).toArray 5)) (Kp.of_grown hg5) (fun k hk => HO.out.ge hk))
          have hS : encC magicL [id, key, data, fields, made] ++ List.replicate j 0 ++ [0] = encC magicL [id, key, data, fields, made] ++ List.replicate (j + 1) 0 := by rw [List.replicate_succ', List.append_assoc]
          rw [hS] at hrun5 hO5
          have HO5 := Aside0.mk hO5
          obtain ⟨m, hm⟩ : ∃ m, (encC magicL [id, key, data, fields, made] ++ List.replicate (j + 1) (0 : Int)).length = m := ⟨_, rfl⟩
          rw [hm] at hrun5 HO5
          have HR5 := Aside0.mk hrun5
          simp only [nums, List.map_cons, List.map_nil] at HR5
          clear hL hrun5 hO5 hg5 hat5 hm hS
          go_wp2_with (first | ((with_reducible refine gate_builtin (b := .append) (xs := #[.tmp 45, .tmp 46]) rfl ?_); at_builtin; refine app_list rfl (.tmp 45) (.tmp 46) rfl rfl rfl HR5.out ?_))
          go_roundg (12 - (j + 1))
          case measure => have := HJJ.out; omega
          case rel => exact ⟨j + 1, by omega, HO5, HB5⟩
        · have HE := Aside0.mk (show encC magicL [id, key, data, fields, made] ++ List.replicate j 0 = encZ magicL [id, key, data, fields, made] by rw [encZ, show j = 12 by omega])
          rw [HE.out] at HO
          go_wp2_with fail
          go_ret
          exact ⟨_, rfl, HO.out, HB.out⟩
set_option maxHeartbeats 8000000 in
set_option maxRecDepth 100000 in
theorem ref_hEncode_no (id key data fields made : Int) (w : World) (hr : hR data fields = false)  :
    Calls Try.prog 37 #[.agg #[.int .u64 id, .int .u64 key, .int .i64 data, .int .i64 fields, .int .u64 made]] w fun e w' => e = .returned (.slice none 0 0) ∧ Below w.heap.size w w' := by
  have HR := Aside0.mk hr
  clear hr
  go_enter Try.func37, Try.ntmps37
  go_wp2_with fail
  refine (ref_hRight_calls id key data fields made _).mono ?_
  rintro e w1 ⟨rfl, hb⟩
  have HB1 := Aside0.mk (below_step (below_alloc (Below.refl _ _) (.cells #[.int .u64 id, .int .u64 key, .int .i64 data, .int .i64 fields, .int .u64 made] 60)) hb)
  clear hb
  rw [HR.out]
  go_wp2_with fail
  go_ret
  exact ⟨rfl, HB1.out⟩

end Go.Proofs.Ytigdchfjcfljjaa
