/- SHA-256, the reference: a block. -/
import Derived.Test.YtplmdgimodgekaaDigW
import Derived.Test.YtplmdgimodgekaaOwnK
import Derived.Test.YtplmdgimodgekaaAp
import Derived.StillTailTactics
namespace Go.Proofs.Ytplmdgimodgekaa
open Go.RowKit Go.Proofs.YtplmdgimodgekaaW.PrintWords Go.Proofs.YtplmdgimodgekaaW.PrintLast Go.Proofs.YtplmdgimodgekaaW.PrintMore
attribute [local go_sem] max2_int min2_int max_two min_two max_three min_three max_four min_four   -- for this text's walks alone
set_option linter.unusedVariables false
set_option linter.unusedSimpArgs false

theorem oneU32 : ∀ x : Int, (Value.int .u32 x).oneCell' = true := fun _ => rfl
theorem infoU32 : (Try.prog.info? 196).map (fun i => (i.zero, i.size, i.bytes)) = some (some (.int .u32 0), 1, 4) := by kernel_rfl
theorem app32K {W : World} {base : Nat} {v : Value} {xs : List Int} (x : Int) {k : Nat} (HO : OwnO (Value.int .u32) W base 196 v xs) (hk : xs.length = k) (hbase : base ≤ W.heap.size) (hl : k ≤ 1000000) :
    ∃ A1 c1 w1, (Builtin.append_ #[76, 76] 76 #[v, .slice (some ⟨W.heap.size, 0, none⟩) 1 1]).run Try.prog (W.alloc (.cells #[.int .u32 x] 196)) = .ok (.slice A1 (k + 1) c1) w1 ∧ OwnO (Value.int .u32) w1 base 196 (.slice A1 (k + 1) c1) (xs ++ [x]) ∧ (W.alloc (.cells #[.int .u32 x] 196)).grownBy w1 v.ownBlock ∧
      ∀ (A : Addr) (n c : Nat), v = .slice (some A) n c → ∀ j, j < k → w1.cell? (A.add j) = some (.int .u32 (xs.getD j 0)) := by
  have hL : Rd (W.alloc (.cells #[.int .u32 x] 196)) .u32 (.slice (some ⟨W.heap.size, 0, none⟩) 1 1) [x] := by have := Rd.lit W .u32 196 [x] (by simp); simpa [nums] using this
  obtain ⟨v1, w1, hr, hO, hg, hkp⟩ := app_runK (P := Try.prog) (Value.int .u32) (0 : Int) oneU32 76 76 196 (.int .u32 0) 4 Try.underlying76 infoU32 rfl (by omega) (HO.below (below_alloc (Below.refl _ _) (.cells #[.int .u32 x] 196))) hL (by simp; omega) (by simp; omega)
  obtain ⟨A1, c1, rfl⟩ := hO.slice
  rw [show (xs ++ [x]).length = k + 1 by simp [hk]] at hr hO
  exact ⟨A1, c1, w1, hr, hO, hg, fun A n c h j hj => hkp A n c h j (by omega)⟩
theorem schN_lo (b : List Int) {k : Nat} (h : k < 16) : schN b k ++ [wdZ b k] = schN b (k + 1) := by rw [schN, if_pos h]
theorem schN_hi (b : List Int) {k : Nat} (h : 16 ≤ k) : schN b k ++ [IntKind.u32.wrap (IntKind.u32.wrap (IntKind.u32.wrap (wF b (k - 16) + s0Z (wF b (k - 15))) + wF b (k - 7)) + s1Z (wF b (k - 2)))] = schN b (k + 1) := by
  rw [schN, if_neg (by omega), schN_get b k (k - 16) (by omega), schN_get b k (k - 15) (by omega), schN_get b k (k - 7) (by omega), schN_get b k (k - 2) (by omega)]
theorem own8 {W : World} {base : Nat} {v : Value} {xs : List Int} (h : Own (Value.int .u32) W base 196 v xs) (hl : xs.length = 8 := by rfl) : ∃ g c, v = .slice (some ⟨g, 0, none⟩) 8 c ∧ ∀ j, j < 8 → W.cell? ⟨g, j, none⟩ = some (.int .u32 (xs.getD j 0)) := by
  have hO := OwnO.of_own h
  obtain ⟨hx, h⟩ := h
  rcases h with ⟨_, h0⟩ | ⟨g, cap, cur, rfl, hb, hg, hn, hm, hc, ht⟩
  · omega
  · refine ⟨g, cap, by rw [hl], fun j hj => ?_⟩
    have := OwnO.cells hO (0 : Int) j (by omega)
    rwa [Addr.add_lit, Nat.zero_add] at this
theorem build8 (a b c d e f g h : Int) (w : World) : (Instr.buildSlice 76 8 #[(0, .int .u32 a), (1, .int .u32 b), (2, .int .u32 c), (3, .int .u32 d), (4, .int .u32 e), (5, .int .u32 f), (6, .int .u32 g), (7, .int .u32 h)]).run Try.prog w = .ok (.slice (some ⟨w.heap.size, 0, none⟩) 8 8) (w.alloc (.cells #[.int .u32 a, .int .u32 b, .int .u32 c, .int .u32 d, .int .u32 e, .int .u32 f, .int .u32 g, .int .u32 h] 196)) := by kernel_rfl

theorem right_q2 (x : Int) (w : World) (k : Nat) (x0 : 0 ≤ x) (x1 : x ≤ 4294967295) : Calls Try.prog 151 #[.int .u32 x, .int .u64 2] (w.drewN k) fun e w' => e = .returned (.int .u32 (rr 1073741824 4 x)) ∧ ∃ m, w' = w.drewN m := Calls.quiet_of_same ((right_2 x _ x0 x1).mono fun _ _ ⟨a, b⟩ => ⟨a, b.symm⟩)
theorem right_q6 (x : Int) (w : World) (k : Nat) (x0 : 0 ≤ x) (x1 : x ≤ 4294967295) : Calls Try.prog 151 #[.int .u32 x, .int .u64 6] (w.drewN k) fun e w' => e = .returned (.int .u32 (rr 67108864 64 x)) ∧ ∃ m, w' = w.drewN m := Calls.quiet_of_same ((right_6 x _ x0 x1).mono fun _ _ ⟨a, b⟩ => ⟨a, b.symm⟩)
theorem right_q11 (x : Int) (w : World) (k : Nat) (x0 : 0 ≤ x) (x1 : x ≤ 4294967295) : Calls Try.prog 151 #[.int .u32 x, .int .u64 11] (w.drewN k) fun e w' => e = .returned (.int .u32 (rr 2097152 2048 x)) ∧ ∃ m, w' = w.drewN m := Calls.quiet_of_same ((right_11 x _ x0 x1).mono fun _ _ ⟨a, b⟩ => ⟨a, b.symm⟩)
theorem right_q13 (x : Int) (w : World) (k : Nat) (x0 : 0 ≤ x) (x1 : x ≤ 4294967295) : Calls Try.prog 151 #[.int .u32 x, .int .u64 13] (w.drewN k) fun e w' => e = .returned (.int .u32 (rr 524288 8192 x)) ∧ ∃ m, w' = w.drewN m := Calls.quiet_of_same ((right_13 x _ x0 x1).mono fun _ _ ⟨a, b⟩ => ⟨a, b.symm⟩)
theorem right_q22 (x : Int) (w : World) (k : Nat) (x0 : 0 ≤ x) (x1 : x ≤ 4294967295) : Calls Try.prog 151 #[.int .u32 x, .int .u64 22] (w.drewN k) fun e w' => e = .returned (.int .u32 (rr 1024 4194304 x)) ∧ ∃ m, w' = w.drewN m := Calls.quiet_of_same ((right_22 x _ x0 x1).mono fun _ _ ⟨a, b⟩ => ⟨a, b.symm⟩)
theorem right_q25 (x : Int) (w : World) (k : Nat) (x0 : 0 ≤ x) (x1 : x ≤ 4294967295) : Calls Try.prog 151 #[.int .u32 x, .int .u64 25] (w.drewN k) fun e w' => e = .returned (.int .u32 (rr 128 33554432 x)) ∧ ∃ m, w' = w.drewN m := Calls.quiet_of_same ((right_25 x _ x0 x1).mono fun _ _ ⟨a, b⟩ => ⟨a, b.symm⟩)


set_option maxHeartbeats 8000000 in
set_option maxRecDepth 100000 in
theorem refblock_calls (vh vk vb : Value) (hs bl : List Int) (w : World) (hh : Rd w .u32 vh hs) (h8 : is8 hs) (hk : Rd w .u32 vk kT) (hb : Rd w .u8 vb bl) (hib : isB bl) (hl : bl.length = 64) :
    Calls Try.prog 145 #[vh, vk, vb] w fun e w' => ∃ v', e = .returned v' ∧ OwnO (Value.int .u32) w' w.heap.size 196 v' (blkP hs bl) ∧ Below w.heap.size w w' := by
  have H8 := Aside0.mk h8
  have HIB := Aside0.mk hib
  have HH := Aside0.mk hh
  have HKT := Aside0.mk hk
  obtain ⟨A, c, rfl, hc, hm, hrd⟩ := hb.mid
  rw [hl] at hc hrd ⊢
  have HR := Aside0.mk hrd
  have HL := Aside0.mk hl
  obtain ⟨Ah, ch, rfl, _, _, _⟩ := hh.mid
  obtain ⟨Ak, ck, rfl, _, _, _⟩ := hk.mid
  rw [h8.1, kT_len] at *
  clear hh h8 hk hb hib hl hm hrd
  go_enter Try.func145, Try.ntmps145
  go_wp2_with fail
  go_loopw [7, 8, 9, 10] (fun v7 v8 v9 v10 w' => ∃ k : Nat, k ≤ 64 ∧ v8 = .int .i64 k ∧ Aside0 (OwnO (Value.int .u32) w' w.heap.size 196 v7 (schN bl k)) ∧ Aside0 (Below w.heap.size w w')) (fun _ v8 _ _ _ => 64 - (intOf v8).toNat)
  case atStart => exact ⟨0, by omega, rfl, ⟨OwnO.nil _ _ _ _⟩, ⟨Below.refl _ _⟩⟩
  case round =>
    obtain ⟨k, hk, rfl, HO, HB⟩ := hrel
    obtain ⟨A5, c5, e5⟩ := HO.out.slice
    subst e5
    rw [schN_len] at HO ⊢
    by_cases c1 : k < 64
    · by_cases c2 : k < 16
      · skip
        as_aux_lemma =>
          obtain ⟨ad, eA, hw0⟩ := rd_at HR.out (4 * k) (by omega)
          obtain ⟨ad1, eA1, hw1⟩ := rd_at HR.out (4 * k + 1) (by omega)
          obtain ⟨ad2, eA2, hw2⟩ := rd_at HR.out (4 * k + 2) (by omega)
          obtain ⟨ad3, eA3, hw3⟩ := rd_at HR.out (4 * k + 3) (by omega)
          rw [eA] at eA1 eA2 eA3
          cases eA1
          cases eA2
          cases eA3
          cases eA
          have q0 := HIB.out.getD (4 * k)
          have q1 := HIB.out.getD (4 * k + 1)
          have q2 := HIB.out.getD (4 * k + 2)
          have q3 := HIB.out.getD (4 * k + 3)
          have HWD := Aside0.mk (schN_lo bl c2)
          obtain ⟨x0, e0⟩ : ∃ x, bl.getD (4 * k) 0 = x := ⟨_, rfl⟩
          obtain ⟨x1, e1⟩ : ∃ x, bl.getD (4 * k + 1) 0 = x := ⟨_, rfl⟩
          obtain ⟨x2, e2⟩ : ∃ x, bl.getD (4 * k + 2) 0 = x := ⟨_, rfl⟩
          obtain ⟨x3, e3⟩ : ∃ x, bl.getD (4 * k + 3) 0 = x := ⟨_, rfl⟩
          rw [wdZ, e0, e1, e2, e3] at HWD
          rw [e0] at q0 hw0
          rw [e1] at q1 hw1
          rw [e2] at q2 hw2
          rw [e3] at q3 hw3
          clear e0 e1 e2 e3
          rw [Addr.add, if_neg (by omega)] at hw1 hw2 hw3
          have hc0 := pw_cell_below HB.out hw0
          have hc1 := pw_cell_below HB.out hw1
          have hc2 := pw_cell_below HB.out hw2
          have hc3 := pw_cell_below HB.out hw3
          obtain ⟨V, hV⟩ : ∃ V, x0 * 16777216 + x1 * 65536 + x2 * 256 + x3 = V := ⟨_, rfl⟩
          rw [hV] at HWD
          obtain ⟨A7, c7, w7, hrun7, hO7, hg7, _⟩ := app32K (W := wr.drew) V (HO.out.below (below_drew (Below.refl _ _))) (schN_len bl k) (below_drew HB.out).size (by omega)
          rw [HWD.out] at hO7
          have HO7 := Aside0.mk hO7
          have HB7 := Aside0.mk (Kp.from (below_alloc (below_drew HB.out) _) (Kp.of_grown hg7) (fun k hk => HO.out.ge hk))
          have HR7 := Aside0.mk hrun7
          have hd0 := pw_cell_below HB7.out hw0
          have hd1 := pw_cell_below HB7.out hw1
          have hd2 := pw_cell_below HB7.out hw2
          have hd3 := pw_cell_below HB7.out hw3
          clear hrun7 hO7 hg7
          have m0 : IntKind.i64.wrap (4 * (k : Int)) = 4 * (k : Int) := by rw [IntKind.wrap_i64]; omega
          have m1 : IntKind.i64.wrap (4 * (k : Int) + 1) = 4 * (k : Int) + 1 := by rw [IntKind.wrap_i64]; omega
          have m2 : IntKind.i64.wrap (4 * (k : Int) + 2) = 4 * (k : Int) + 2 := by rw [IntKind.wrap_i64]; omega
          have m3 : IntKind.i64.wrap (4 * (k : Int) + 3) = 4 * (k : Int) + 3 := by rw [IntKind.wrap_i64]; omega
          have n0 : (4 * (k : Int)).toNat = 4 * k := by omega
          have n1 : (4 * (k : Int) + 1).toNat = 4 * k + 1 := by omega
          have n2 : (4 * (k : Int) + 2).toNat = 4 * k + 2 := by omega
          have n3 : (4 * (k : Int) + 3).toNat = 4 * k + 3 := by omega
          have w0 : IntKind.u32.wrap x0 = x0 := by rw [IntKind.wrap_u32]; omega
          have w1 : IntKind.u32.wrap x1 = x1 := by rw [IntKind.wrap_u32]; omega
          have w2 : IntKind.u32.wrap x2 = x2 := by rw [IntKind.wrap_u32]; omega
          have w3 : IntKind.u32.wrap x3 = x3 := by rw [IntKind.wrap_u32]; omega
          have s0 : IntKind.u32.wrap (x0 * 16777216) = x0 * 16777216 := by rw [IntKind.wrap_u32]; omega
          have s1 : IntKind.u32.wrap (x1 * 65536) = x1 * 65536 := by rw [IntKind.wrap_u32]; omega
          have s2 : IntKind.u32.wrap (x2 * 256) = x2 * 256 := by rw [IntKind.wrap_u32]; omega
          have s3 : IntKind.u32.wrap (x0 * 16777216 + x1 * 65536) = x0 * 16777216 + x1 * 65536 := by rw [IntKind.wrap_u32]; omega
          have s4 : IntKind.u32.wrap (x0 * 16777216 + x1 * 65536 + x2 * 256) = x0 * 16777216 + x1 * 65536 + x2 * 256 := by rw [IntKind.wrap_u32]; omega
          have s5 : IntKind.u32.wrap (x0 * 16777216 + x1 * 65536 + x2 * 256 + x3) = V := by rw [hV, IntKind.wrap_u32]; omega
          have i0 : (0 : Int) ≤ 4 * (k : Int) := by omega
          have i1 : 4 * (k : Int) < 64 := by omega
          have i2 : 4 * (k : Int) + 3 < 64 := by omega
          have i3 : (0 : Int) ≤ 4 * (k : Int) + 1 := by omega
          have i4 : (0 : Int) ≤ 4 * (k : Int) + 2 := by omega
          have i5 : (0 : Int) ≤ 4 * (k : Int) + 3 := by omega
          have i6 : 4 * (k : Int) + 1 < 64 := by omega
          have i7 : 4 * (k : Int) + 2 < 64 := by omega
          clear q0 q1 q2 q3 hV
          go_wp2_with fail
          refine start_ (n := 37) (S := fun w' => w'.cell? (ad.add (4 * k)) = some (.int .u8 x0) ∧ w'.cell? ⟨ad.block, ad.off + (4 * k + 1), none⟩ = some (.int .u8 x1) ∧ w'.cell? ⟨ad.block, ad.off + (4 * k + 2), none⟩ = some (.int .u8 x2) ∧ w'.cell? ⟨ad.block, ad.off + (4 * k + 3), none⟩ = some (.int .u8 x3)) (ds := [35]) #[false, false, false, false, false, false, false, false, false, false, false, false, false, false, false, false, false, false, false, false, false, false, false, false, false, false, false, false, false, false, false, false, false, false, false, false, false] (by kernel_rfl) rfl rfl ⟨hc0, hc1, hc2, hc3⟩ (fun hHeld => ?_)
          refine pure_ (i := 0) (N := some 23) (v := ?_) (a' := ?_) #[true, false, false, false, false, false, false, false, false, false, false, false, false, false, false, false, false, false, false, false, false, false, false, false, false, false, false, false, false, false, false, false, false, false, false, false, false] rfl rfl (by kernel_rfl) (fun _ _ _ h => h) (Or.inl ⟨by rfl, ?_⟩) ?_ ?_
          rotate_left
          · intro w'
            go_simp
            with_reducible rfl
          rotate_left
          · simp only [Act.put, List.setIfInBounds_toArray, List.set_cons_zero, List.set_cons_succ, i64_w, i32_w]
            rfl
          refine pure_ (i := 1) (N := some 24) (v := ?_) (a' := ?_) #[true, true, false, false, false, false, false, false, false, false, false, false, false, false, false, false, false, false, false, false, false, false, false, false, false, false, false, false, false, false, false, false, false, false, false, false, false] rfl rfl (by kernel_rfl) (fun _ _ _ h => h) (Or.inl ⟨by rfl, ?_⟩) ?_ ?_
          rotate_left
          · intro w'
            go_simp
            with_reducible rfl
          rotate_left
          · simp only [Act.put, List.setIfInBounds_toArray, List.set_cons_zero, List.set_cons_succ, i64_w, i32_w]
            rfl
          refine pure_ (i := 2) (N := some 25) (v := ?_) (a' := ?_) #[true, true, true, false, false, false, false, false, false, false, false, false, false, false, false, false, false, false, false, false, false, false, false, false, false, false, false, false, false, false, false, false, false, false, false, false, false] rfl rfl (by kernel_rfl) (fun _ _ _ h => h) (Or.inl ⟨by rfl, ?_⟩) ?_ ?_
          rotate_left
          · intro w'
            go_simp
            with_reducible rfl
          rotate_left
          · simp only [Act.put, List.setIfInBounds_toArray, List.set_cons_zero, List.set_cons_succ, i64_w, i32_w]
            rfl
          refine pure_ (i := 3) (N := some 26) (v := ?_) (a' := ?_) #[true, true, true, true, false, false, false, false, false, false, false, false, false, false, false, false, false, false, false, false, false, false, false, false, false, false, false, false, false, false, false, false, false, false, false, false, false] rfl rfl (by kernel_rfl) (fun _ _ _ h => h) (Or.inl ⟨by rfl, ?_⟩) ?_ ?_
          rotate_left
          · intro w'
            go_simp
            with_reducible rfl
          rotate_left
          · simp only [Act.put, List.setIfInBounds_toArray, List.set_cons_zero, List.set_cons_succ, i64_w, i32_w]
            rfl
          refine pure_ (i := 4) (N := some 27) (v := ?_) (a' := ?_) #[true, true, true, true, true, false, false, false, false, false, false, false, false, false, false, false, false, false, false, false, false, false, false, false, false, false, false, false, false, false, false, false, false, false, false, false, false] rfl rfl (by kernel_rfl) (fun _ _ _ h => h) (Or.inl ⟨by rfl, ?_⟩) ?_ ?_
          rotate_left
          · intro w'
            go_simp
            with_reducible rfl
          rotate_left
          · simp only [Act.put, List.setIfInBounds_toArray, List.set_cons_zero, List.set_cons_succ, i64_w, i32_w]
            rfl
          refine pure_ (i := 8) (N := some 31) (v := ?_) (a' := ?_) #[true, true, true, true, true, false, false, false, true, false, false, false, false, false, false, false, false, false, false, false, false, false, false, false, false, false, false, false, false, false, false, false, false, false, false, false, false] rfl rfl (by kernel_rfl) (fun _ _ _ h => h) (Or.inl ⟨by rfl, ?_⟩) ?_ ?_
          rotate_left
          · intro w'
            go_simp
            with_reducible rfl
          rotate_left
          · simp only [Act.put, List.setIfInBounds_toArray, List.set_cons_zero, List.set_cons_succ, i64_w, i32_w]
            rfl
          refine pure_ (i := 9) (N := some 32) (v := ?_) (a' := ?_) #[true, true, true, true, true, false, false, false, true, true, false, false, false, false, false, false, false, false, false, false, false, false, false, false, false, false, false, false, false, false, false, false, false, false, false, false, false] rfl rfl (by kernel_rfl) (fun _ _ _ h => h) (Or.inl ⟨by rfl, ?_⟩) ?_ ?_
          rotate_left
          · intro w'
            go_simp
            with_reducible rfl
          rotate_left
          · simp only [Act.put, List.setIfInBounds_toArray, List.set_cons_zero, List.set_cons_succ, i64_w, i32_w]
            rfl
          refine pure_ (i := 10) (N := some 33) (v := ?_) (a' := ?_) #[true, true, true, true, true, false, false, false, true, true, true, false, false, false, false, false, false, false, false, false, false, false, false, false, false, false, false, false, false, false, false, false, false, false, false, false, false] rfl rfl (by kernel_rfl) (fun _ _ _ h => h) (Or.inl ⟨by rfl, ?_⟩) ?_ ?_
          rotate_left
          · intro w'
            go_simp
            with_reducible rfl
          rotate_left
          · simp only [Act.put, List.setIfInBounds_toArray, List.set_cons_zero, List.set_cons_succ, i64_w, i32_w]
            rfl
          refine pure_ (i := 11) (N := some 34) (v := ?_) (a' := ?_) #[true, true, true, true, true, false, false, false, true, true, true, true, false, false, false, false, false, false, false, false, false, false, false, false, false, false, false, false, false, false, false, false, false, false, false, false, false] rfl rfl (by kernel_rfl) (fun _ _ _ h => h) (Or.inl ⟨by rfl, ?_⟩) ?_ ?_
          rotate_left
          · intro w'
            go_simp
            with_reducible rfl
          rotate_left
          · simp only [Act.put, List.setIfInBounds_toArray, List.set_cons_zero, List.set_cons_succ, i64_w, i32_w]
            rfl
          refine pure_ (i := 12) (N := some 35) (v := ?_) (a' := ?_) #[true, true, true, true, true, false, false, false, true, true, true, true, true, false, false, false, false, false, false, false, false, false, false, false, false, false, false, false, false, false, false, false, false, false, false, false, false] rfl rfl (by kernel_rfl) (fun _ _ _ h => h) (Or.inl ⟨by rfl, ?_⟩) ?_ ?_
          rotate_left
          · intro w'
            go_simp
            with_reducible rfl
          rotate_left
          · simp only [Act.put, List.setIfInBounds_toArray, List.set_cons_zero, List.set_cons_succ, i64_w, i32_w]
            rfl
          refine pure_ (i := 17) (N := some 40) (v := ?_) (a' := ?_) #[true, true, true, true, true, false, false, false, true, true, true, true, true, false, false, false, false, true, false, false, false, false, false, false, false, false, false, false, false, false, false, false, false, false, false, false, false] rfl rfl (by kernel_rfl) (fun _ _ _ h => h) (Or.inl ⟨by rfl, ?_⟩) ?_ ?_
          rotate_left
          · intro w'
            go_simp
            with_reducible rfl
          rotate_left
          · simp only [Act.put, List.setIfInBounds_toArray, List.set_cons_zero, List.set_cons_succ, i64_w, i32_w]
            rfl
          refine pure_ (i := 18) (N := some 41) (v := ?_) (a' := ?_) #[true, true, true, true, true, false, false, false, true, true, true, true, true, false, false, false, false, true, true, false, false, false, false, false, false, false, false, false, false, false, false, false, false, false, false, false, false] rfl rfl (by kernel_rfl) (fun _ _ _ h => h) (Or.inl ⟨by rfl, ?_⟩) ?_ ?_
          rotate_left
          · intro w'
            go_simp
            with_reducible rfl
          rotate_left
          · simp only [Act.put, List.setIfInBounds_toArray, List.set_cons_zero, List.set_cons_succ, i64_w, i32_w]
            rfl
          refine pure_ (i := 19) (N := some 42) (v := ?_) (a' := ?_) #[true, true, true, true, true, false, false, false, true, true, true, true, true, false, false, false, false, true, true, true, false, false, false, false, false, false, false, false, false, false, false, false, false, false, false, false, false] rfl rfl (by kernel_rfl) (fun _ _ _ h => h) (Or.inl ⟨by rfl, ?_⟩) ?_ ?_
          rotate_left
          · intro w'
            go_simp
            with_reducible rfl
          rotate_left
          · simp only [Act.put, List.setIfInBounds_toArray, List.set_cons_zero, List.set_cons_succ, i64_w, i32_w]
            rfl
          refine pure_ (i := 20) (N := some 43) (v := ?_) (a' := ?_) #[true, true, true, true, true, false, false, false, true, true, true, true, true, false, false, false, false, true, true, true, true, false, false, false, false, false, false, false, false, false, false, false, false, false, false, false, false] rfl rfl (by kernel_rfl) (fun _ _ _ h => h) (Or.inl ⟨by rfl, ?_⟩) ?_ ?_
          rotate_left
          · intro w'
            go_simp
            with_reducible rfl
          rotate_left
          · simp only [Act.put, List.setIfInBounds_toArray, List.set_cons_zero, List.set_cons_succ, i64_w, i32_w]
            rfl
          refine pure_ (i := 21) (N := some 44) (v := ?_) (a' := ?_) #[true, true, true, true, true, false, false, false, true, true, true, true, true, false, false, false, false, true, true, true, true, true, false, false, false, false, false, false, false, false, false, false, false, false, false, false, false] rfl rfl (by kernel_rfl) (fun _ _ _ h => h) (Or.inl ⟨by rfl, ?_⟩) ?_ ?_
          rotate_left
          · intro w'
            go_simp
            with_reducible rfl
          rotate_left
          · simp only [Act.put, List.setIfInBounds_toArray, List.set_cons_zero, List.set_cons_succ, i64_w, i32_w]
            rfl
          refine pure_ (i := 26) (N := some 49) (v := ?_) (a' := ?_) #[true, true, true, true, true, false, false, false, true, true, true, true, true, false, false, false, false, true, true, true, true, true, false, false, false, false, true, false, false, false, false, false, false, false, false, false, false] rfl rfl (by kernel_rfl) (fun _ _ _ h => h) (Or.inl ⟨by rfl, ?_⟩) ?_ ?_
          rotate_left
          · intro w'
            go_simp
            with_reducible rfl
          rotate_left
          · simp only [Act.put, List.setIfInBounds_toArray, List.set_cons_zero, List.set_cons_succ, i64_w, i32_w]
            rfl
          refine pure_ (i := 27) (N := some 50) (v := ?_) (a' := ?_) #[true, true, true, true, true, false, false, false, true, true, true, true, true, false, false, false, false, true, true, true, true, true, false, false, false, false, true, true, false, false, false, false, false, false, false, false, false] rfl rfl (by kernel_rfl) (fun _ _ _ h => h) (Or.inl ⟨by rfl, ?_⟩) ?_ ?_
          rotate_left
          · intro w'
            go_simp
            with_reducible rfl
          rotate_left
          · simp only [Act.put, List.setIfInBounds_toArray, List.set_cons_zero, List.set_cons_succ, i64_w, i32_w]
            rfl
          refine pure_ (i := 28) (N := some 51) (v := ?_) (a' := ?_) #[true, true, true, true, true, false, false, false, true, true, true, true, true, false, false, false, false, true, true, true, true, true, false, false, false, false, true, true, true, false, false, false, false, false, false, false, false] rfl rfl (by kernel_rfl) (fun _ _ _ h => h) (Or.inl ⟨by rfl, ?_⟩) ?_ ?_
          rotate_left
          · intro w'
            go_simp
            with_reducible rfl
          rotate_left
          · simp only [Act.put, List.setIfInBounds_toArray, List.set_cons_zero, List.set_cons_succ, i64_w, i32_w]
            rfl
          refine pure_ (i := 29) (N := some 52) (v := ?_) (a' := ?_) #[true, true, true, true, true, false, false, false, true, true, true, true, true, false, false, false, false, true, true, true, true, true, false, false, false, false, true, true, true, true, false, false, false, false, false, false, false] rfl rfl (by kernel_rfl) (fun _ _ _ h => h) (Or.inl ⟨by rfl, ?_⟩) ?_ ?_
          rotate_left
          · intro w'
            go_simp
            with_reducible rfl
          rotate_left
          · simp only [Act.put, List.setIfInBounds_toArray, List.set_cons_zero, List.set_cons_succ, i64_w, i32_w]
            rfl
          refine pure_ (i := 30) (N := some 53) (v := ?_) (a' := ?_) #[true, true, true, true, true, false, false, false, true, true, true, true, true, false, false, false, false, true, true, true, true, true, false, false, false, false, true, true, true, true, true, false, false, false, false, false, false] rfl rfl (by kernel_rfl) (fun _ _ _ h => h) (Or.inl ⟨by rfl, ?_⟩) ?_ ?_
          rotate_left
          · intro w'
            go_simp
            with_reducible rfl
          rotate_left
          · simp only [Act.put, List.setIfInBounds_toArray, List.set_cons_zero, List.set_cons_succ, i64_w, i32_w]
            rfl
          refine take_ (i := 5) (N := some 28) (v := ?_) (a' := ?_) #[true, true, true, true, true, true, false, false, true, true, true, true, true, false, false, false, false, true, true, true, true, true, false, false, false, false, true, true, true, true, true, false, false, false, false, false, false] rfl rfl (by kernel_rfl) (fun _ _ _ h => h) (Or.inl ⟨by rfl, ?_⟩) hHeld ?_ ?_
          rotate_left
          · rintro w' ⟨s0, s1, s2, s3⟩
            go_simp
            with_reducible rfl
          rotate_left
          · simp only [Act.put, List.setIfInBounds_toArray, List.set_cons_zero, List.set_cons_succ, i64_w, i32_w]
            rfl
          refine pure_ (i := 6) (N := some 29) (v := ?_) (a' := ?_) #[true, true, true, true, true, true, true, false, true, true, true, true, true, false, false, false, false, true, true, true, true, true, false, false, false, false, true, true, true, true, true, false, false, false, false, false, false] rfl rfl (by kernel_rfl) (fun _ _ _ h => h) (Or.inl ⟨by rfl, ?_⟩) ?_ ?_
          rotate_left
          · intro w'
            go_simp
            with_reducible rfl
          rotate_left
          · simp only [Act.put, List.setIfInBounds_toArray, List.set_cons_zero, List.set_cons_succ, i64_w, i32_w]
            rfl
          refine pure_ (i := 7) (N := some 30) (v := ?_) (a' := ?_) #[true, true, true, true, true, true, true, true, true, true, true, true, true, false, false, false, false, true, true, true, true, true, false, false, false, false, true, true, true, true, true, false, false, false, false, false, false] rfl rfl (by kernel_rfl) (fun _ _ _ h => h) (Or.inl ⟨by rfl, ?_⟩) ?_ ?_
          rotate_left
          · intro w'
            go_simp
            with_reducible rfl
          rotate_left
          · simp only [Act.put, List.setIfInBounds_toArray, List.set_cons_zero, List.set_cons_succ, i64_w, i32_w]
            rfl
          refine take_ (i := 13) (N := some 36) (v := ?_) (a' := ?_) #[true, true, true, true, true, true, true, true, true, true, true, true, true, true, false, false, false, true, true, true, true, true, false, false, false, false, true, true, true, true, true, false, false, false, false, false, false] rfl rfl (by kernel_rfl) (fun _ _ _ h => h) (Or.inl ⟨by rfl, ?_⟩) hHeld ?_ ?_
          rotate_left
          · rintro w' ⟨s0, s1, s2, s3⟩
            go_simp
            with_reducible rfl
          rotate_left
          · simp only [Act.put, List.setIfInBounds_toArray, List.set_cons_zero, List.set_cons_succ, i64_w, i32_w]
            rfl
          refine pure_ (i := 14) (N := some 37) (v := ?_) (a' := ?_) #[true, true, true, true, true, true, true, true, true, true, true, true, true, true, true, false, false, true, true, true, true, true, false, false, false, false, true, true, true, true, true, false, false, false, false, false, false] rfl rfl (by kernel_rfl) (fun _ _ _ h => h) (Or.inl ⟨by rfl, ?_⟩) ?_ ?_
          rotate_left
          · intro w'
            go_simp
            with_reducible rfl
          rotate_left
          · simp only [Act.put, List.setIfInBounds_toArray, List.set_cons_zero, List.set_cons_succ, i64_w, i32_w]
            rfl
          refine pure_ (i := 15) (N := some 38) (v := ?_) (a' := ?_) #[true, true, true, true, true, true, true, true, true, true, true, true, true, true, true, true, false, true, true, true, true, true, false, false, false, false, true, true, true, true, true, false, false, false, false, false, false] rfl rfl (by kernel_rfl) (fun _ _ _ h => h) (Or.inl ⟨by rfl, ?_⟩) ?_ ?_
          rotate_left
          · intro w'
            go_simp
            with_reducible rfl
          rotate_left
          · simp only [Act.put, List.setIfInBounds_toArray, List.set_cons_zero, List.set_cons_succ, i64_w, i32_w]
            rfl
          refine pure_ (i := 16) (N := some 39) (v := ?_) (a' := ?_) #[true, true, true, true, true, true, true, true, true, true, true, true, true, true, true, true, true, true, true, true, true, true, false, false, false, false, true, true, true, true, true, false, false, false, false, false, false] rfl rfl (by kernel_rfl) (fun _ _ _ h => h) (Or.inl ⟨by rfl, ?_⟩) ?_ ?_
          rotate_left
          · intro w'
            go_simp
            with_reducible rfl
          rotate_left
          · simp only [Act.put, List.setIfInBounds_toArray, List.set_cons_zero, List.set_cons_succ, i64_w, i32_w]
            rfl
          refine take_ (i := 22) (N := some 45) (v := ?_) (a' := ?_) #[true, true, true, true, true, true, true, true, true, true, true, true, true, true, true, true, true, true, true, true, true, true, true, false, false, false, true, true, true, true, true, false, false, false, false, false, false] rfl rfl (by kernel_rfl) (fun _ _ _ h => h) (Or.inl ⟨by rfl, ?_⟩) hHeld ?_ ?_
          rotate_left
          · rintro w' ⟨s0, s1, s2, s3⟩
            go_simp
            with_reducible rfl
          rotate_left
          · simp only [Act.put, List.setIfInBounds_toArray, List.set_cons_zero, List.set_cons_succ, i64_w, i32_w]
            rfl
          refine pure_ (i := 23) (N := some 46) (v := ?_) (a' := ?_) #[true, true, true, true, true, true, true, true, true, true, true, true, true, true, true, true, true, true, true, true, true, true, true, true, false, false, true, true, true, true, true, false, false, false, false, false, false] rfl rfl (by kernel_rfl) (fun _ _ _ h => h) (Or.inl ⟨by rfl, ?_⟩) ?_ ?_
          rotate_left
          · intro w'
            go_simp
            with_reducible rfl
          rotate_left
          · simp only [Act.put, List.setIfInBounds_toArray, List.set_cons_zero, List.set_cons_succ, i64_w, i32_w]
            rfl
          refine pure_ (i := 24) (N := some 47) (v := ?_) (a' := ?_) #[true, true, true, true, true, true, true, true, true, true, true, true, true, true, true, true, true, true, true, true, true, true, true, true, true, false, true, true, true, true, true, false, false, false, false, false, false] rfl rfl (by kernel_rfl) (fun _ _ _ h => h) (Or.inl ⟨by rfl, ?_⟩) ?_ ?_
          rotate_left
          · intro w'
            go_simp
            with_reducible rfl
          rotate_left
          · simp only [Act.put, List.setIfInBounds_toArray, List.set_cons_zero, List.set_cons_succ, i64_w, i32_w]
            rfl
          refine pure_ (i := 25) (N := some 48) (v := ?_) (a' := ?_) #[true, true, true, true, true, true, true, true, true, true, true, true, true, true, true, true, true, true, true, true, true, true, true, true, true, true, true, true, true, true, true, false, false, false, false, false, false] rfl rfl (by kernel_rfl) (fun _ _ _ h => h) (Or.inl ⟨by rfl, ?_⟩) ?_ ?_
          rotate_left
          · intro w'
            go_simp
            with_reducible rfl
          rotate_left
          · simp only [Act.put, List.setIfInBounds_toArray, List.set_cons_zero, List.set_cons_succ, i64_w, i32_w]
            rfl
          refine take_ (i := 31) (N := some 54) (v := ?_) (a' := ?_) #[true, true, true, true, true, true, true, true, true, true, true, true, true, true, true, true, true, true, true, true, true, true, true, true, true, true, true, true, true, true, true, true, false, false, false, false, false] rfl rfl (by kernel_rfl) (fun _ _ _ h => h) (Or.inl ⟨by rfl, ?_⟩) hHeld ?_ ?_
          rotate_left
          · rintro w' ⟨s0, s1, s2, s3⟩
            go_simp
            with_reducible rfl
          rotate_left
          · simp only [Act.put, List.setIfInBounds_toArray, List.set_cons_zero, List.set_cons_succ, i64_w, i32_w]
            rfl
          refine pure_ (i := 32) (N := some 55) (v := ?_) (a' := ?_) #[true, true, true, true, true, true, true, true, true, true, true, true, true, true, true, true, true, true, true, true, true, true, true, true, true, true, true, true, true, true, true, true, true, false, false, false, false] rfl rfl (by kernel_rfl) (fun _ _ _ h => h) (Or.inl ⟨by rfl, ?_⟩) ?_ ?_
          rotate_left
          · intro w'
            go_simp
            with_reducible rfl
          rotate_left
          · simp only [Act.put, List.setIfInBounds_toArray, List.set_cons_zero, List.set_cons_succ, i64_w, i32_w]
            rfl
          refine pure_ (i := 33) (N := some 56) (v := ?_) (a' := ?_) #[true, true, true, true, true, true, true, true, true, true, true, true, true, true, true, true, true, true, true, true, true, true, true, true, true, true, true, true, true, true, true, true, true, true, false, false, false] rfl rfl (by kernel_rfl) (fun _ _ _ h => h) (Or.inl ⟨by rfl, ?_⟩) ?_ ?_
          rotate_left
          · intro w'
            go_simp
            with_reducible rfl
          rotate_left
          · simp only [Act.put, List.setIfInBounds_toArray, List.set_cons_zero, List.set_cons_succ, i64_w, i32_w]
            rfl
          refine one_ (i := 34) (N := some 57) #[true, true, true, true, true, true, true, true, true, true, true, true, true, true, true, true, true, true, true, true, true, true, true, true, true, true, true, true, true, true, true, true, true, true, true, false, false] rfl rfl (by kernel_rfl) (by decide) (fun K hK => ?_)
          refine value_ (w1 := ?_) (v := ?_) (by rfl) rfl ?_ ?_
          rotate_left 2
          · go_simp
            constructor
            · rfl
            · rfl
          refine hK.out _ _ ⟨(pw_cell_below (below_alloc (Below.refl _ _) _) hHeld.1), (pw_cell_below (below_alloc (Below.refl _ _) _) hHeld.2.1), (pw_cell_below (below_alloc (Below.refl _ _) _) hHeld.2.2.1), (pw_cell_below (below_alloc (Below.refl _ _) _) hHeld.2.2.2)⟩ (fun hHeld => ?_)
          clear hK K
          refine norm_ (a' := ?_) ?_ ?_
          rotate_left
          · show Act.put _ (some 57) _ = _
            simp only [Act.put, List.setIfInBounds_toArray, List.set_cons_zero, List.set_cons_succ, i64_w, i32_w]
            rfl
          refine last_ (i := 35) (N := some 58) #[true, true, true, true, true, true, true, true, true, true, true, true, true, true, true, true, true, true, true, true, true, true, true, true, true, true, true, true, true, true, true, true, true, true, true, true, false] rfl rfl (by kernel_rfl) (by decide) (fun K hK => ?_)
          refine app_step (by rfl) (.tmp 23) (.tmp 57) rfl rfl rfl HR7.out ?_
          refine hK.out _ _ ?_
          clear hK K
          refine norm_ (a' := ?_) ?_ ?_
          rotate_left
          · show Act.put _ (some 58) _ = _
            simp only [Act.put, List.setIfInBounds_toArray, List.set_cons_zero, List.set_cons_succ, i64_w, i32_w]
            rfl
          refine pure_ (i := 36) (N := some 7) (v := ?_) (a' := ?_) #[true, true, true, true, true, true, true, true, true, true, true, true, true, true, true, true, true, true, true, true, true, true, true, true, true, true, true, true, true, true, true, true, true, true, true, true, true] rfl rfl (by kernel_rfl) (fun _ _ _ h => h) (Or.inl ⟨by rfl, ?_⟩) ?_ ?_
          rotate_left
          · intro w'
            go_simp
            with_reducible rfl
          rotate_left
          · simp only [Act.put, List.setIfInBounds_toArray, List.set_cons_zero, List.set_cons_succ, i64_w, i32_w]
            rfl
          refine done_ (by kernel_rfl) ?_
          clear m0 m1 m2 m3 n0 n1 n2 n3 w0 w1 w2 w3 s0 s1 s2 s3 s4 s5 HR7 hc0 hc1 hc2 hc3 hd0 hd1 hd2 hd3 hw0 hw1 hw2 hw3
          go_wp2_with fail
          go_roundw
          case rel => exact ⟨k + 1, by omega, by go_num, HO7, HB7⟩
          case measure => simp [intOf] <;> omega
      · skip
        as_aux_lemma =>
          have hRW := OwnO.rd HO.out
          obtain ⟨A8, c8, e8, _, _, hrw⟩ := hRW.mid
          rw [schN_len] at e8 hrw
          simp only [Value.slice.injEq] at e8
          obtain ⟨rfl, _, rfl⟩ := e8
          obtain ⟨ad16, eA16, z16⟩ := rd_at hrw (k - 16) (by omega)
          rw [schN_get bl k (k - 16) (by omega)] at z16
          have b16 := wF_bd HIB.out (k - 16)
          obtain ⟨y16, e16⟩ : ∃ y, wF bl (k - 16) = y := ⟨_, rfl⟩
          rw [e16] at z16 b16
          obtain ⟨b16l, b16h⟩ := b16
          have j16 : IntKind.i64.wrap ((k : Int) - 16) = (k : Int) - 16 := by rw [IntKind.wrap_i64]; omega
          have t16 : ((k : Int) - 16).toNat = k - 16 := by omega
          have u16 : (0 : Int) ≤ (k : Int) - 16 := by omega
          have v16 : (k : Int) - 16 < (k : Int) := by omega
          have m16 : (16 : Int) ≤ (k : Int) := by omega
          obtain ⟨ad15, eA15, z15⟩ := rd_at hrw (k - 15) (by omega)
          rw [schN_get bl k (k - 15) (by omega)] at z15
          have b15 := wF_bd HIB.out (k - 15)
          obtain ⟨y15, e15⟩ : ∃ y, wF bl (k - 15) = y := ⟨_, rfl⟩
          rw [e15] at z15 b15
          obtain ⟨b15l, b15h⟩ := b15
          have j15 : IntKind.i64.wrap ((k : Int) - 15) = (k : Int) - 15 := by rw [IntKind.wrap_i64]; omega
          have t15 : ((k : Int) - 15).toNat = k - 15 := by omega
          have u15 : (0 : Int) ≤ (k : Int) - 15 := by omega
          have v15 : (k : Int) - 15 < (k : Int) := by omega
          have m15 : (15 : Int) ≤ (k : Int) := by omega
          obtain ⟨ad7, eA7, z7⟩ := rd_at hrw (k - 7) (by omega)
          rw [schN_get bl k (k - 7) (by omega)] at z7
          have b7 := wF_bd HIB.out (k - 7)
          obtain ⟨y7, e7⟩ : ∃ y, wF bl (k - 7) = y := ⟨_, rfl⟩
          rw [e7] at z7 b7
          obtain ⟨b7l, b7h⟩ := b7
          have j7 : IntKind.i64.wrap ((k : Int) - 7) = (k : Int) - 7 := by rw [IntKind.wrap_i64]; omega
          have t7 : ((k : Int) - 7).toNat = k - 7 := by omega
          have u7 : (0 : Int) ≤ (k : Int) - 7 := by omega
          have v7 : (k : Int) - 7 < (k : Int) := by omega
          have m7 : (7 : Int) ≤ (k : Int) := by omega
          obtain ⟨ad2, eA2, z2⟩ := rd_at hrw (k - 2) (by omega)
          rw [schN_get bl k (k - 2) (by omega)] at z2
          have b2 := wF_bd HIB.out (k - 2)
          obtain ⟨y2, e2⟩ : ∃ y, wF bl (k - 2) = y := ⟨_, rfl⟩
          rw [e2] at z2 b2
          obtain ⟨b2l, b2h⟩ := b2
          have j2 : IntKind.i64.wrap ((k : Int) - 2) = (k : Int) - 2 := by rw [IntKind.wrap_i64]; omega
          have t2 : ((k : Int) - 2).toNat = k - 2 := by omega
          have u2 : (0 : Int) ≤ (k : Int) - 2 := by omega
          have v2 : (k : Int) - 2 < (k : Int) := by omega
          have m2 : (2 : Int) ≤ (k : Int) := by omega
          rw [eA16] at eA15 eA7 eA2
          cases eA15
          cases eA7
          cases eA2
          cases eA16
          have HSC := Aside0.mk (schN_hi bl (Nat.le_of_not_lt c2))
          rw [e16, e15, e7, e2] at HSC
          obtain ⟨S, hS⟩ : ∃ S, s0Z y15 = S := ⟨_, rfl⟩
          obtain ⟨T, hT⟩ : ∃ T, s1Z y2 = T := ⟨_, rfl⟩
          rw [hS, hT] at HSC
          have hS2 : bits .xor .u32 (bits .xor .u32 (rr 33554432 128 y15) (rr 16384 262144 y15)) (y15 / 8) = S := hS
          have hT2 : bits .xor .u32 (bits .xor .u32 (rr 32768 131072 y2) (rr 8192 524288 y2)) (y2 / 1024) = T := hT
          have kk0 : (0 : Int) ≤ (k : Int) := by omega
          clear hS hT
          go_wp2_with fail
          go_quiet (fail)
          go_wp2_with fail
          obtain ⟨A7, c7, w7, hrun7, hO7, hg7, hkp7⟩ := app32K (W := (wr.drewN nq).drew) (IntKind.u32.wrap (IntKind.u32.wrap (IntKind.u32.wrap (y16 + S) + y7) + T)) (HO.out.below (below_drew (pw_below_drewN (Below.refl _ _) _))) (schN_len bl k) (below_drew (pw_below_drewN HB.out _)).size (by omega)
          rw [HSC.out] at hO7
          have hd16 := hkp7 _ _ _ rfl (k - 16) (by omega)
          have hd7 := hkp7 _ _ _ rfl (k - 7) (by omega)
          rw [schN_get bl k (k - 16) (by omega), e16] at hd16
          rw [schN_get bl k (k - 7) (by omega), e7] at hd7
          have HO7 := Aside0.mk hO7
          have HB7 := Aside0.mk (Kp.from (below_alloc (below_drew (pw_below_drewN HB.out _)) _) (Kp.of_grown hg7) (fun k hk => HO.out.ge hk))
          have HR7 := Aside0.mk hrun7
          clear hrun7 hO7 hg7 hkp7 e16 e15 e7 e2 hrw hRW
          refine start_ (n := 33) (S := fun w' => w'.cell? (ad16.add (k - 16)) = some (.int .u32 y16) ∧ w'.cell? (ad16.add (k - 7)) = some (.int .u32 y7)) (ds := [31]) #[false, false, false, false, false, false, false, false, false, false, false, false, false, false, false, false, false, false, false, false, false, false, false, false, false, false, false, false, false, false, false, false, false] (by kernel_rfl) rfl rfl ⟨z16, z7⟩ (fun hHeld => ?_)
          refine pure_ (i := 0) (N := some 69) (v := ?_) (a' := ?_) #[true, false, false, false, false, false, false, false, false, false, false, false, false, false, false, false, false, false, false, false, false, false, false, false, false, false, false, false, false, false, false, false, false] rfl rfl (by kernel_rfl) (fun _ _ _ h => h) (Or.inl ⟨by rfl, ?_⟩) ?_ ?_
          rotate_left
          · intro w'
            go_simp
            with_reducible rfl
          rotate_left
          · simp only [Act.put, List.setIfInBounds_toArray, List.set_cons_zero, List.set_cons_succ, i64_w, i32_w]
            rfl
          refine pure_ (i := 1) (N := some 70) (v := ?_) (a' := ?_) #[true, true, false, false, false, false, false, false, false, false, false, false, false, false, false, false, false, false, false, false, false, false, false, false, false, false, false, false, false, false, false, false, false] rfl rfl (by kernel_rfl) (fun _ _ _ h => h) (Or.inl ⟨by rfl, ?_⟩) ?_ ?_
          rotate_left
          · intro w'
            go_simp
            with_reducible rfl
          rotate_left
          · simp only [Act.put, List.setIfInBounds_toArray, List.set_cons_zero, List.set_cons_succ, i64_w, i32_w]
            rfl
          refine pure_ (i := 2) (N := some 71) (v := ?_) (a' := ?_) #[true, true, true, false, false, false, false, false, false, false, false, false, false, false, false, false, false, false, false, false, false, false, false, false, false, false, false, false, false, false, false, false, false] rfl rfl (by kernel_rfl) (fun _ _ _ h => h) (Or.inl ⟨by rfl, ?_⟩) ?_ ?_
          rotate_left
          · intro w'
            go_simp
            with_reducible rfl
          rotate_left
          · simp only [Act.put, List.setIfInBounds_toArray, List.set_cons_zero, List.set_cons_succ, i64_w, i32_w]
            rfl
          refine pure_ (i := 3) (N := some 72) (v := ?_) (a' := ?_) #[true, true, true, true, false, false, false, false, false, false, false, false, false, false, false, false, false, false, false, false, false, false, false, false, false, false, false, false, false, false, false, false, false] rfl rfl (by kernel_rfl) (fun _ _ _ h => h) (Or.inl ⟨by rfl, ?_⟩) ?_ ?_
          rotate_left
          · intro w'
            go_simp
            with_reducible rfl
          rotate_left
          · simp only [Act.put, List.setIfInBounds_toArray, List.set_cons_zero, List.set_cons_succ, i64_w, i32_w]
            rfl
          refine pure_ (i := 4) (N := some 73) (v := ?_) (a' := ?_) #[true, true, true, true, true, false, false, false, false, false, false, false, false, false, false, false, false, false, false, false, false, false, false, false, false, false, false, false, false, false, false, false, false] rfl rfl (by kernel_rfl) (fun _ _ _ h => h) (Or.inl ⟨by rfl, ?_⟩) ?_ ?_
          rotate_left
          · intro w'
            go_simp
            with_reducible rfl
          rotate_left
          · simp only [Act.put, List.setIfInBounds_toArray, List.set_cons_zero, List.set_cons_succ, i64_w, i32_w]
            rfl
          refine pure_ (i := 6) (N := some 75) (v := ?_) (a' := ?_) #[true, true, true, true, true, false, true, false, false, false, false, false, false, false, false, false, false, false, false, false, false, false, false, false, false, false, false, false, false, false, false, false, false] rfl rfl (by kernel_rfl) (fun _ _ _ h => h) (Or.inl ⟨by rfl, ?_⟩) ?_ ?_
          rotate_left
          · intro w'
            go_simp
            with_reducible rfl
          rotate_left
          · simp only [Act.put, List.setIfInBounds_toArray, List.set_cons_zero, List.set_cons_succ, i64_w, i32_w]
            rfl
          refine pure_ (i := 8) (N := some 77) (v := ?_) (a' := ?_) #[true, true, true, true, true, false, true, false, true, false, false, false, false, false, false, false, false, false, false, false, false, false, false, false, false, false, false, false, false, false, false, false, false] rfl rfl (by kernel_rfl) (fun _ _ _ h => h) (Or.inl ⟨by rfl, ?_⟩) ?_ ?_
          rotate_left
          · intro w'
            go_simp
            with_reducible rfl
          rotate_left
          · simp only [Act.put, List.setIfInBounds_toArray, List.set_cons_zero, List.set_cons_succ, i64_w, i32_w]
            rfl
          refine pure_ (i := 11) (N := some 80) (v := ?_) (a' := ?_) #[true, true, true, true, true, false, true, false, true, false, false, true, false, false, false, false, false, false, false, false, false, false, false, false, false, false, false, false, false, false, false, false, false] rfl rfl (by kernel_rfl) (fun _ _ _ h => h) (Or.inl ⟨by rfl, ?_⟩) ?_ ?_
          rotate_left
          · intro w'
            go_simp
            with_reducible rfl
          rotate_left
          · simp only [Act.put, List.setIfInBounds_toArray, List.set_cons_zero, List.set_cons_succ, i64_w, i32_w]
            rfl
          refine pure_ (i := 12) (N := some 81) (v := ?_) (a' := ?_) #[true, true, true, true, true, false, true, false, true, false, false, true, true, false, false, false, false, false, false, false, false, false, false, false, false, false, false, false, false, false, false, false, false] rfl rfl (by kernel_rfl) (fun _ _ _ h => h) (Or.inl ⟨by rfl, ?_⟩) ?_ ?_
          rotate_left
          · intro w'
            go_simp
            with_reducible rfl
          rotate_left
          · simp only [Act.put, List.setIfInBounds_toArray, List.set_cons_zero, List.set_cons_succ, i64_w, i32_w]
            rfl
          refine pure_ (i := 15) (N := some 84) (v := ?_) (a' := ?_) #[true, true, true, true, true, false, true, false, true, false, false, true, true, false, false, true, false, false, false, false, false, false, false, false, false, false, false, false, false, false, false, false, false] rfl rfl (by kernel_rfl) (fun _ _ _ h => h) (Or.inl ⟨by rfl, ?_⟩) ?_ ?_
          rotate_left
          · intro w'
            go_simp
            with_reducible rfl
          rotate_left
          · simp only [Act.put, List.setIfInBounds_toArray, List.set_cons_zero, List.set_cons_succ, i64_w, i32_w]
            rfl
          refine pure_ (i := 16) (N := some 85) (v := ?_) (a' := ?_) #[true, true, true, true, true, false, true, false, true, false, false, true, true, false, false, true, true, false, false, false, false, false, false, false, false, false, false, false, false, false, false, false, false] rfl rfl (by kernel_rfl) (fun _ _ _ h => h) (Or.inl ⟨by rfl, ?_⟩) ?_ ?_
          rotate_left
          · intro w'
            go_simp
            with_reducible rfl
          rotate_left
          · simp only [Act.put, List.setIfInBounds_toArray, List.set_cons_zero, List.set_cons_succ, i64_w, i32_w]
            rfl
          refine pure_ (i := 17) (N := some 86) (v := ?_) (a' := ?_) #[true, true, true, true, true, false, true, false, true, false, false, true, true, false, false, true, true, true, false, false, false, false, false, false, false, false, false, false, false, false, false, false, false] rfl rfl (by kernel_rfl) (fun _ _ _ h => h) (Or.inl ⟨by rfl, ?_⟩) ?_ ?_
          rotate_left
          · intro w'
            go_simp
            with_reducible rfl
          rotate_left
          · simp only [Act.put, List.setIfInBounds_toArray, List.set_cons_zero, List.set_cons_succ, i64_w, i32_w]
            rfl
          refine pure_ (i := 18) (N := some 87) (v := ?_) (a' := ?_) #[true, true, true, true, true, false, true, false, true, false, false, true, true, false, false, true, true, true, true, false, false, false, false, false, false, false, false, false, false, false, false, false, false] rfl rfl (by kernel_rfl) (fun _ _ _ h => h) (Or.inl ⟨by rfl, ?_⟩) ?_ ?_
          rotate_left
          · intro w'
            go_simp
            with_reducible rfl
          rotate_left
          · simp only [Act.put, List.setIfInBounds_toArray, List.set_cons_zero, List.set_cons_succ, i64_w, i32_w]
            rfl
          refine pure_ (i := 21) (N := some 90) (v := ?_) (a' := ?_) #[true, true, true, true, true, false, true, false, true, false, false, true, true, false, false, true, true, true, true, false, false, true, false, false, false, false, false, false, false, false, false, false, false] rfl rfl (by kernel_rfl) (fun _ _ _ h => h) (Or.inl ⟨by rfl, ?_⟩) ?_ ?_
          rotate_left
          · intro w'
            go_simp
            with_reducible rfl
          rotate_left
          · simp only [Act.put, List.setIfInBounds_toArray, List.set_cons_zero, List.set_cons_succ, i64_w, i32_w]
            rfl
          refine pure_ (i := 23) (N := some 92) (v := ?_) (a' := ?_) #[true, true, true, true, true, false, true, false, true, false, false, true, true, false, false, true, true, true, true, false, false, true, false, true, false, false, false, false, false, false, false, false, false] rfl rfl (by kernel_rfl) (fun _ _ _ h => h) (Or.inl ⟨by rfl, ?_⟩) ?_ ?_
          rotate_left
          · intro w'
            go_simp
            with_reducible rfl
          rotate_left
          · simp only [Act.put, List.setIfInBounds_toArray, List.set_cons_zero, List.set_cons_succ, i64_w, i32_w]
            rfl
          refine pure_ (i := 26) (N := some 95) (v := ?_) (a' := ?_) #[true, true, true, true, true, false, true, false, true, false, false, true, true, false, false, true, true, true, true, false, false, true, false, true, false, false, true, false, false, false, false, false, false] rfl rfl (by kernel_rfl) (fun _ _ _ h => h) (Or.inl ⟨by rfl, ?_⟩) ?_ ?_
          rotate_left
          · intro w'
            go_simp
            with_reducible rfl
          rotate_left
          · simp only [Act.put, List.setIfInBounds_toArray, List.set_cons_zero, List.set_cons_succ, i64_w, i32_w]
            rfl
          refine pure_ (i := 27) (N := some 96) (v := ?_) (a' := ?_) #[true, true, true, true, true, false, true, false, true, false, false, true, true, false, false, true, true, true, true, false, false, true, false, true, false, false, true, true, false, false, false, false, false] rfl rfl (by kernel_rfl) (fun _ _ _ h => h) (Or.inl ⟨by rfl, ?_⟩) ?_ ?_
          rotate_left
          · intro w'
            go_simp
            with_reducible rfl
          rotate_left
          · simp only [Act.put, List.setIfInBounds_toArray, List.set_cons_zero, List.set_cons_succ, i64_w, i32_w]
            rfl
          refine take_ (i := 5) (N := some 74) (v := ?_) (a' := ?_) #[true, true, true, true, true, true, true, false, true, false, false, true, true, false, false, true, true, true, true, false, false, true, false, true, false, false, true, true, false, false, false, false, false] rfl rfl (by kernel_rfl) (fun _ _ _ h => h) (Or.inl ⟨by rfl, ?_⟩) hHeld ?_ ?_
          rotate_left
          · rintro w' ⟨s0, s1⟩
            go_simp
            with_reducible rfl
          rotate_left
          · simp only [Act.put, List.setIfInBounds_toArray, List.set_cons_zero, List.set_cons_succ, i64_w, i32_w]
            rfl
          refine take_ (i := 19) (N := some 88) (v := ?_) (a' := ?_) #[true, true, true, true, true, true, true, false, true, false, false, true, true, false, false, true, true, true, true, true, false, true, false, true, false, false, true, true, false, false, false, false, false] rfl rfl (by kernel_rfl) (fun _ _ _ h => h) (Or.inl ⟨by rfl, ?_⟩) hHeld ?_ ?_
          rotate_left
          · rintro w' ⟨s0, s1⟩
            go_simp
            with_reducible rfl
          rotate_left
          · simp only [Act.put, List.setIfInBounds_toArray, List.set_cons_zero, List.set_cons_succ, i64_w, i32_w]
            rfl
          refine one_ (i := 7) (N := some 76) #[true, true, true, true, true, true, true, true, true, false, false, true, true, false, false, true, true, true, true, true, false, true, false, true, false, false, true, true, false, false, false, false, false] rfl rfl (by kernel_rfl) (by decide) (fun K hK => ?_)
          refine goes_ Try.func151 (by kernel_rfl) rfl #[.int .u32 y15, .int .u64 7] (by rfl) rfl rfl (by (try simp only [List.map_toArray, List.map_cons, List.map_nil]); first | done | rfl) ?_
          with_reducible refine (right_7 y15 _ b15l b15h).mono ?_
          rintro e w3 ⟨rfl, rfl⟩
          refine ⟨_, rfl, ?_⟩
          refine hK.out _ _ ⟨hHeld.1, hHeld.2⟩ (fun hHeld => ?_)
          clear hK K
          refine norm_ (a' := ?_) ?_ ?_
          rotate_left
          · show Act.put _ (some 76) _ = _
            simp only [Act.put, List.setIfInBounds_toArray, List.set_cons_zero, List.set_cons_succ, i64_w, i32_w]
            rfl
          refine one_ (i := 9) (N := some 78) #[true, true, true, true, true, true, true, true, true, true, false, true, true, false, false, true, true, true, true, true, false, true, false, true, false, false, true, true, false, false, false, false, false] rfl rfl (by kernel_rfl) (by decide) (fun K hK => ?_)
          refine goes_ Try.func151 (by kernel_rfl) rfl #[.int .u32 y15, .int .u64 18] (by rfl) rfl rfl (by (try simp only [List.map_toArray, List.map_cons, List.map_nil]); first | done | rfl) ?_
          with_reducible refine (right_18 y15 _ b15l b15h).mono ?_
          rintro e w3 ⟨rfl, rfl⟩
          refine ⟨_, rfl, ?_⟩
          refine hK.out _ _ ⟨hHeld.1, hHeld.2⟩ (fun hHeld => ?_)
          clear hK K
          refine norm_ (a' := ?_) ?_ ?_
          rotate_left
          · show Act.put _ (some 78) _ = _
            simp only [Act.put, List.setIfInBounds_toArray, List.set_cons_zero, List.set_cons_succ, i64_w, i32_w]
            rfl
          refine pure_ (i := 10) (N := some 79) (v := ?_) (a' := ?_) #[true, true, true, true, true, true, true, true, true, true, true, true, true, false, false, true, true, true, true, true, false, true, false, true, false, false, true, true, false, false, false, false, false] rfl rfl (by kernel_rfl) (fun _ _ _ h => h) (Or.inl ⟨by rfl, ?_⟩) ?_ ?_
          rotate_left
          · intro w'
            go_simp
            with_reducible rfl
          rotate_left
          · simp only [Act.put, List.setIfInBounds_toArray, List.set_cons_zero, List.set_cons_succ, i64_w, i32_w]
            rfl
          refine pure_ (i := 13) (N := some 82) (v := ?_) (a' := ?_) #[true, true, true, true, true, true, true, true, true, true, true, true, true, true, false, true, true, true, true, true, false, true, false, true, false, false, true, true, false, false, false, false, false] rfl rfl (by kernel_rfl) (fun _ _ _ h => h) (Or.inl ⟨by rfl, ?_⟩) ?_ ?_
          rotate_left
          · intro w'
            go_simp
            with_reducible rfl
          rotate_left
          · simp only [Act.put, List.setIfInBounds_toArray, List.set_cons_zero, List.set_cons_succ, i64_w, i32_w]
            rfl
          refine pure_ (i := 14) (N := some 83) (v := ?_) (a' := ?_) #[true, true, true, true, true, true, true, true, true, true, true, true, true, true, true, true, true, true, true, true, false, true, false, true, false, false, true, true, false, false, false, false, false] rfl rfl (by kernel_rfl) (fun _ _ _ h => h) (Or.inl ⟨by rfl, ?_⟩) ?_ ?_
          rotate_left
          · intro w'
            go_simp
            with_reducible rfl
          rotate_left
          · simp only [Act.put, List.setIfInBounds_toArray, List.set_cons_zero, List.set_cons_succ, i64_w, i32_w]
            rfl
          refine pure_ (i := 20) (N := some 89) (v := ?_) (a' := ?_) #[true, true, true, true, true, true, true, true, true, true, true, true, true, true, true, true, true, true, true, true, true, true, false, true, false, false, true, true, false, false, false, false, false] rfl rfl (by kernel_rfl) (fun _ _ _ h => h) (Or.inl ⟨by rfl, ?_⟩) ?_ ?_
          rotate_left
          · intro w'
            go_simp
            with_reducible rfl
          rotate_left
          · simp only [Act.put, List.setIfInBounds_toArray, List.set_cons_zero, List.set_cons_succ, i64_w, i32_w]
            rfl
          refine one_ (i := 22) (N := some 91) #[true, true, true, true, true, true, true, true, true, true, true, true, true, true, true, true, true, true, true, true, true, true, true, true, false, false, true, true, false, false, false, false, false] rfl rfl (by kernel_rfl) (by decide) (fun K hK => ?_)
          refine goes_ Try.func151 (by kernel_rfl) rfl #[.int .u32 y2, .int .u64 17] (by rfl) rfl rfl (by (try simp only [List.map_toArray, List.map_cons, List.map_nil]); first | done | rfl) ?_
          with_reducible refine (right_17 y2 _ b2l b2h).mono ?_
          rintro e w3 ⟨rfl, rfl⟩
          refine ⟨_, rfl, ?_⟩
          refine hK.out _ _ ⟨hHeld.1, hHeld.2⟩ (fun hHeld => ?_)
          clear hK K
          refine norm_ (a' := ?_) ?_ ?_
          rotate_left
          · show Act.put _ (some 91) _ = _
            simp only [Act.put, List.setIfInBounds_toArray, List.set_cons_zero, List.set_cons_succ, i64_w, i32_w]
            rfl
          refine one_ (i := 24) (N := some 93) #[true, true, true, true, true, true, true, true, true, true, true, true, true, true, true, true, true, true, true, true, true, true, true, true, true, false, true, true, false, false, false, false, false] rfl rfl (by kernel_rfl) (by decide) (fun K hK => ?_)
          refine goes_ Try.func151 (by kernel_rfl) rfl #[.int .u32 y2, .int .u64 19] (by rfl) rfl rfl (by (try simp only [List.map_toArray, List.map_cons, List.map_nil]); first | done | rfl) ?_
          with_reducible refine (right_19 y2 _ b2l b2h).mono ?_
          rintro e w3 ⟨rfl, rfl⟩
          refine ⟨_, rfl, ?_⟩
          refine hK.out _ _ ⟨hHeld.1, hHeld.2⟩ (fun hHeld => ?_)
          clear hK K
          refine norm_ (a' := ?_) ?_ ?_
          rotate_left
          · show Act.put _ (some 93) _ = _
            simp only [Act.put, List.setIfInBounds_toArray, List.set_cons_zero, List.set_cons_succ, i64_w, i32_w]
            rfl
          refine pure_ (i := 25) (N := some 94) (v := ?_) (a' := ?_) #[true, true, true, true, true, true, true, true, true, true, true, true, true, true, true, true, true, true, true, true, true, true, true, true, true, true, true, true, false, false, false, false, false] rfl rfl (by kernel_rfl) (fun _ _ _ h => h) (Or.inl ⟨by rfl, ?_⟩) ?_ ?_
          rotate_left
          · intro w'
            go_simp
            with_reducible rfl
          rotate_left
          · simp only [Act.put, List.setIfInBounds_toArray, List.set_cons_zero, List.set_cons_succ, i64_w, i32_w]
            rfl
          refine pure_ (i := 28) (N := some 97) (v := ?_) (a' := ?_) #[true, true, true, true, true, true, true, true, true, true, true, true, true, true, true, true, true, true, true, true, true, true, true, true, true, true, true, true, true, false, false, false, false] rfl rfl (by kernel_rfl) (fun _ _ _ h => h) (Or.inl ⟨by rfl, ?_⟩) ?_ ?_
          rotate_left
          · intro w'
            go_simp
            with_reducible rfl
          rotate_left
          · simp only [Act.put, List.setIfInBounds_toArray, List.set_cons_zero, List.set_cons_succ, i64_w, i32_w]
            rfl
          refine pure_ (i := 29) (N := some 98) (v := ?_) (a' := ?_) #[true, true, true, true, true, true, true, true, true, true, true, true, true, true, true, true, true, true, true, true, true, true, true, true, true, true, true, true, true, true, false, false, false] rfl rfl (by kernel_rfl) (fun _ _ _ h => h) (Or.inl ⟨by rfl, ?_⟩) ?_ ?_
          rotate_left
          · intro w'
            go_simp
            with_reducible rfl
          rotate_left
          · simp only [Act.put, List.setIfInBounds_toArray, List.set_cons_zero, List.set_cons_succ, i64_w, i32_w]
            rfl
          refine one_ (i := 30) (N := some 99) #[true, true, true, true, true, true, true, true, true, true, true, true, true, true, true, true, true, true, true, true, true, true, true, true, true, true, true, true, true, true, true, false, false] rfl rfl (by kernel_rfl) (by decide) (fun K hK => ?_)
          refine value_ (w1 := ?_) (v := ?_) (by rfl) rfl ?_ ?_
          rotate_left 2
          · go_simp
            constructor
            · rfl
            · rfl
          refine hK.out _ _ ⟨(pw_cell_below (below_alloc (Below.refl _ _) _) hHeld.1), (pw_cell_below (below_alloc (Below.refl _ _) _) hHeld.2)⟩ (fun hHeld => ?_)
          clear hK K
          refine norm_ (a' := ?_) ?_ ?_
          rotate_left
          · show Act.put _ (some 99) _ = _
            simp only [Act.put, List.setIfInBounds_toArray, List.set_cons_zero, List.set_cons_succ, i64_w, i32_w]
            rfl
          refine last_ (i := 31) (N := some 100) #[true, true, true, true, true, true, true, true, true, true, true, true, true, true, true, true, true, true, true, true, true, true, true, true, true, true, true, true, true, true, true, true, false] rfl rfl (by kernel_rfl) (by decide) (fun K hK => ?_)
          refine app_step (by rfl) (.tmp 69) (.tmp 99) rfl rfl rfl HR7.out ?_
          refine hK.out _ _ ?_
          clear hK K
          refine norm_ (a' := ?_) ?_ ?_
          rotate_left
          · show Act.put _ (some 100) _ = _
            simp only [Act.put, List.setIfInBounds_toArray, List.set_cons_zero, List.set_cons_succ, i64_w, i32_w]
            rfl
          refine pure_ (i := 32) (N := some 7) (v := ?_) (a' := ?_) #[true, true, true, true, true, true, true, true, true, true, true, true, true, true, true, true, true, true, true, true, true, true, true, true, true, true, true, true, true, true, true, true, true] rfl rfl (by kernel_rfl) (fun _ _ _ h => h) (Or.inl ⟨by rfl, ?_⟩) ?_ ?_
          rotate_left
          · intro w'
            go_simp
            with_reducible rfl
          rotate_left
          · simp only [Act.put, List.setIfInBounds_toArray, List.set_cons_zero, List.set_cons_succ, i64_w, i32_w]
            rfl
          refine done_ (by kernel_rfl) ?_
          clear j16 t16 j15 t15 j7 t7 j2 t2 hS2 hT2 HR7 z16 z15 z7 z2 hd16 hd7
          go_wp2_with fail
          go_roundw
          case rel => exact ⟨k + 1, by omega, by go_num, HO7, HB7⟩
          case measure => simp [intOf] <;> omega
    · obtain rfl : k = 64 := by omega
      obtain ⟨v1, w1, hrun1, hO1, hg1, _⟩ := app_run (P := Try.prog) (Value.int .u32) (0 : Int) oneU32 76 76 196 (.int .u32 0) 4 Try.underlying76 infoU32 rfl (by omega) (own_lit_of wr w.heap.size 196 [] HB.out.size (by simp)) (HH.out.below (below_alloc HB.out _)) (below_alloc HB.out _).size (by simp; rw [H8.out.1]; omega)
      rw [List.nil_append] at hO1
      have HO1 := Aside0.mk hO1
      have HB1 := Aside0.mk (Kp.from (below_alloc HB.out (.cells #[] 196)) (Kp.of_grown hg1) (fun k hk => by simp [Value.ownBlock] at hk; rw [← hk]; exact HB.out.size))
      have HW1 := Aside0.mk (show OwnO (Value.int .u32) w1 w.heap.size 196 (.slice A5 64 c5) (schN bl 64) from (HO.out.below (below_alloc (Below.refl _ _) _)).move (fun k hk => hg1.block k (by rw [World.size_alloc]; exact Nat.lt_succ_of_lt (HO.out.lt hk)) (by simp [Value.ownBlock]; have := HO.out.lt hk; omega)))
      have HR1 := Aside0.mk hrun1
      clear hrun1 hO1 hg1 HO HB
      go_wp2_with (first | ((with_reducible refine gate_builtin (b := .append) (xs := #[.tmp 101, .tmp 102]) rfl ?_); at_builtin; refine app_list rfl (.tmp 101) (.tmp 102) rfl rfl rfl HR1.out ?_))
      go_loopw [11, 12, 13, 14] (fun v11 v12 v13 v14 w' => ∃ (i : Nat) (q0 q1 q2 q3 q4 q5 q6 q7 : Int), i ≤ 64 ∧ v12 = .int .i64 i ∧ Aside0 (stN hs bl i = [q0, q1, q2, q3, q4, q5, q6, q7]) ∧ Aside0 (Own (Value.int .u32) w' w.heap.size 196 v11 [q0, q1, q2, q3, q4, q5, q6, q7]) ∧ Aside0 (OwnO (Value.int .u32) w' w.heap.size 196 (.slice A5 64 c5) (schN bl 64)) ∧ Aside0 (Below w.heap.size w w')) (fun _ v12 _ _ _ => 64 - (intOf v12).toNat)
      case atStart =>
        obtain ⟨a0, a1, a2, a3, a4, a5, a6, a7, eH, _⟩ := list8 H8.out
        exact ⟨0, a0, a1, a2, a3, a4, a5, a6, a7, by omega, rfl, ⟨by rw [stN]; exact eH⟩, ⟨by rw [← eH]; exact HO1.out⟩, HW1, HB1⟩
      case round =>
        clear HO1 HB1 HW1
        obtain ⟨i, q0, q1, q2, q3, q4, q5, q6, q7, hi, rfl, HS, HO, HW, HB⟩ := hrel
        by_cases g3 : i < 64
        · skip
          as_aux_lemma =>
            have h8i := stN_8 H8.out bl i
            rw [HS.out] at h8i
            obtain ⟨_, lb⟩ := h8i
            obtain ⟨l0, h0⟩ := lb q0 (by simp)
            obtain ⟨l1, h1⟩ := lb q1 (by simp)
            obtain ⟨l2, h2⟩ := lb q2 (by simp)
            obtain ⟨l3, h3⟩ := lb q3 (by simp)
            obtain ⟨l4, h4⟩ := lb q4 (by simp)
            obtain ⟨l5, h5⟩ := lb q5 (by simp)
            obtain ⟨l6, h6⟩ := lb q6 (by simp)
            obtain ⟨l7, h7⟩ := lb q7 (by simp)
            obtain ⟨g, c, rfl, hcq⟩ := own8 HO.out
            clear lb
            have c0 : wr.cell? ⟨g, 0, none⟩ = some (.int .u32 q0) := hcq 0 (by omega)
            have c1 : wr.cell? ⟨g, 1, none⟩ = some (.int .u32 q1) := hcq 1 (by omega)
            have c2 : wr.cell? ⟨g, 2, none⟩ = some (.int .u32 q2) := hcq 2 (by omega)
            have c3 : wr.cell? ⟨g, 3, none⟩ = some (.int .u32 q3) := hcq 3 (by omega)
            have c4 : wr.cell? ⟨g, 4, none⟩ = some (.int .u32 q4) := hcq 4 (by omega)
            have c5 : wr.cell? ⟨g, 5, none⟩ = some (.int .u32 q5) := hcq 5 (by omega)
            have c6 : wr.cell? ⟨g, 6, none⟩ = some (.int .u32 q6) := hcq 6 (by omega)
            have c7 : wr.cell? ⟨g, 7, none⟩ = some (.int .u32 q7) := hcq 7 (by omega)
            obtain ⟨A9, c9, e9, _, _, hrw⟩ := (OwnO.rd HW.out).mid
            rw [schN_len] at e9 hrw
            simp only [Value.slice.injEq] at e9
            obtain ⟨rfl, _, rfl⟩ := e9
            obtain ⟨adw, eAw, cw⟩ := rd_at hrw i (by omega)
            rw [schN_get bl 64 i g3] at cw
            cases eAw
            obtain ⟨Ak2, ck2, e10, _, _, hrk⟩ := (HKT.out.below HB.out).mid
            rw [kT_len] at e10 hrk
            simp only [Value.slice.injEq] at e10
            obtain ⟨rfl, _, rfl⟩ := e10
            obtain ⟨adk, eAk, ckc⟩ := rd_at hrk i (by omega)
            cases eAk
            obtain ⟨x, ex⟩ : ∃ x, wF bl i = x := ⟨_, rfl⟩
            obtain ⟨kk, ek⟩ : ∃ x, kT.getD i 0 = x := ⟨_, rfl⟩
            have HN := Aside0.mk (show stN hs bl (i + 1) = rndL kk x [q0, q1, q2, q3, q4, q5, q6, q7] by rw [stN, HS.out, ek, ex])
            rw [ex] at cw
            rw [ek] at ckc
            clear ex ek hrw hrk hcq
            obtain ⟨s1, hs1⟩ : ∃ y, S1Z q4 = y := ⟨_, rfl⟩
            obtain ⟨s0, hs0⟩ : ∃ y, S0Z q0 = y := ⟨_, rfl⟩
            obtain ⟨ch, hch⟩ : ∃ y, chZ q4 q5 q6 = y := ⟨_, rfl⟩
            obtain ⟨mj, hmj⟩ : ∃ y, mjZ q0 q1 q2 = y := ⟨_, rfl⟩
            rw [rndL, hs1, hs0, hch, hmj] at HN
            have fs1 : bits .xor .u32 (bits .xor .u32 (rr 67108864 64 q4) (rr 2097152 2048 q4)) (rr 128 33554432 q4) = s1 := hs1
            have fs0 : bits .xor .u32 (bits .xor .u32 (rr 1073741824 4 q0) (rr 524288 8192 q0)) (rr 1024 4194304 q0) = s0 := hs0
            have fch : bits .or .u32 (bits .and .u32 q4 q5) (bits .and .u32 (bits .xor .u32 q4 4294967295) q6) = ch := hch
            have fmj : bits .or .u32 (bits .or .u32 (bits .and .u32 q0 q1) (bits .and .u32 q0 q2)) (bits .and .u32 q1 q2) = mj := hmj
            clear hs1 hs0 hch hmj
            have i0 : (0 : Int) ≤ (i : Int) := by omega
            have i1 : (i : Int) < 64 := by omega
            go_wp2_with fail
            go_quiet ((first | (with_reducible exact right_q6 q4 _ _ l4 h4) | (with_reducible exact right_q11 q4 _ _ l4 h4) | (with_reducible exact right_q25 q4 _ _ l4 h4)))
            go_wp2_with fail
            obtain ⟨wn, hwn⟩ : ∃ z_, wr.drewN nq = z_ := ⟨_, rfl⟩
            have hbn : Below wr.heap.size wr wn := by rw [← hwn]; exact pw_below_drewN (Below.refl _ _) _
            replace c0 := pw_cell_below hbn c0
            replace c1 := pw_cell_below hbn c1
            replace c2 := pw_cell_below hbn c2
            replace c3 := pw_cell_below hbn c3
            replace c4 := pw_cell_below hbn c4
            replace c5 := pw_cell_below hbn c5
            replace c6 := pw_cell_below hbn c6
            have HBN := Aside0.mk hbn
            rw [hwn]
            clear hwn hbn

            have hwt : IntKind.u32.wrap (IntKind.u32.wrap (IntKind.u32.wrap (IntKind.u32.wrap (q7 + s1) + ch) + kk) + x) = ((q7 + s1 + ch + kk) % 4294967296 + x) % 4294967296 := by simp only [IntKind.wrap_u32]; omega
            rw [hwt] at HN
            clear hwt
            obtain ⟨t1, ht1⟩ : ∃ y, ((q7 + s1 + ch + kk) % 4294967296 + x) % 4294967296 = y := ⟨_, rfl⟩
            rw [ht1] at HN
            have t1b : 0 ≤ t1 ∧ t1 ≤ 4294967295 := by omega
            rw [ht1]
            obtain ⟨t1l, t1h⟩ := t1b
            clear ht1
            go_wp2_with fail
            go_quiet ((first | (with_reducible exact right_q2 q0 _ _ l0 h0) | (with_reducible exact right_q13 q0 _ _ l0 h0) | (with_reducible exact right_q22 q0 _ _ l0 h0)))
            go_wp2_with fail
            obtain ⟨wm, hwn⟩ : ∃ z_, wn.drewN nq = z_ := ⟨_, rfl⟩
            have hbn : Below wn.heap.size wn wm := by rw [← hwn]; exact pw_below_drewN (Below.refl _ _) _
            replace c0 := pw_cell_below hbn c0
            replace c1 := pw_cell_below hbn c1
            replace c2 := pw_cell_below hbn c2
            replace c3 := pw_cell_below hbn c3
            replace c4 := pw_cell_below hbn c4
            replace c5 := pw_cell_below hbn c5
            replace c6 := pw_cell_below hbn c6
            replace HBN := Aside0.mk (below_step HBN.out hbn)
            rw [hwn]
            clear hwn hbn

            obtain ⟨t2, ht2⟩ : ∃ y, (s0 + mj) % 4294967296 = y := ⟨_, rfl⟩
            have HT2 := Aside0.mk (show IntKind.u32.wrap (s0 + mj) = t2 by rw [IntKind.wrap_u32]; exact ht2)
            rw [ht2]
            clear ht2
            rw [show IntKind.u32.wrap (IntKind.u32.wrap (t1 + s0) + mj) = IntKind.u32.wrap (t1 + t2) from by rw [← HT2.out]; exact (u_sum t1 s0 mj).symm] at HN
            obtain ⟨na, hna⟩ : ∃ y, IntKind.u32.wrap (t1 + t2) = y := ⟨_, rfl⟩
            obtain ⟨ne, hne⟩ : ∃ y, IntKind.u32.wrap (q3 + t1) = y := ⟨_, rfl⟩
            rw [hna, hne] at HN
            clear HT2 HS l0 l1 l2 l4 l5 l6 l7 h0 h1 h2 h3 h4 h5 h6 h7
            go_wp2_with fail
            go_still_tail 26, (by kernel_rfl)
            change wpList _ _ _ _ _ wm.drew
            have HBD := Aside0.mk (below_step HBN.out (below_drew (Below.refl _ wm)))
            obtain ⟨w2, hw2⟩ : ∃ z_, wm.drew = z_ := ⟨_, rfl⟩
            rw [hw2] at HBD ⊢
            clear hw2

            go_wp2_with (first | (refine wpList_buildS rfl rfl (ps := #[(0, .int .u32 na), (1, .int .u32 q0), (2, .int .u32 q1), (3, .int .u32 q2), (4, .int .u32 ne), (5, .int .u32 q4), (6, .int .u32 q5), (7, .int .u32 q6)]) (by simp only [List.map_toArray, List.map_cons, List.map_nil]; rfl) (build8 na q0 q1 q2 ne q4 q5 q6 w2) ?_))
            go_roundw
            case rel =>
              refine ⟨i + 1, _, _, _, _, _, _, _, _, by omega, by go_num, HN, ?_, ?_, ?_⟩
              · exact ⟨own_lit_of (enc := Value.int .u32) _ w.heap.size 196 [_, _, _, _, _, _, _, _] (below_step HB.out HBD.out).size (by simp)⟩
              · exact ⟨(HW.out.below HBD.out).below (below_alloc (Below.refl _ _) _)⟩
              · exact ⟨below_alloc (below_step HB.out HBD.out) _⟩
            case measure => simp [intOf] <;> omega
        · obtain rfl : i = 64 := by omega
          obtain ⟨w0, hw0⟩ : ∃ x, x = wr := ⟨_, rfl⟩
          subst hw0
          obtain ⟨g, c, rfl, hcq⟩ := own8 HO.out
          have hgp : g < w0.heap.size := World.block_lt_of_cell? w0 _ (hcq 0 (by omega))
          have HCQ := Aside0.mk hcq
          have HHH := Aside0.mk (HH.out.below HB.out)
          have HBB := Aside0.mk HB.out
          have HSS := Aside0.mk HS.out
          clear hcq HS HO HW HB
          go_wp2_with fail
          go_loopw [15, 16] (fun v15 v16 w' => ∃ j : Nat, j ≤ 8 ∧ v16 = .int .i64 j ∧ Aside0 (OwnO (Value.int .u32) w' w0.heap.size 196 v15 ((List.range j).map fun i => IntKind.u32.wrap (hs.getD i 0 + [q0, q1, q2, q3, q4, q5, q6, q7].getD i 0))) ∧ Aside0 (Below w0.heap.size w0 w')) (fun _ v16 _ => 8 - (intOf v16).toNat)
          case atStart => exact ⟨0, by omega, rfl, ⟨OwnO.nil _ _ _ _⟩, ⟨Below.refl _ _⟩⟩
          case round =>
            obtain ⟨j, hj, rfl, HV, HK⟩ := hrel
            obtain ⟨A15, c15, e15⟩ := HV.out.slice
            subst e15
            have HLV := Aside0.mk (show ((List.range j).map fun i => IntKind.u32.wrap (hs.getD i 0 + [q0, q1, q2, q3, q4, q5, q6, q7].getD i 0)).length = j by simp)
            rw [HLV.out] at HV ⊢
            by_cases c4 : j < 8
            · have hq := HCQ.out j c4
              have hcq := pw_cell_below HK.out hq
              obtain ⟨Ah2, ch2, e10, _, _, hrh⟩ := HHH.out.mid
              rw [H8.out.1] at e10 hrh
              simp only [Value.slice.injEq] at e10
              obtain ⟨rfl, _, rfl⟩ := e10
              obtain ⟨adh, eAh, hh0⟩ := rd_at hrh j (by omega)
              cases eAh
              have hch := pw_cell_below HK.out hh0
              have HSU := Aside0.mk (show ((List.range j).map fun i => IntKind.u32.wrap (hs.getD i 0 + [q0, q1, q2, q3, q4, q5, q6, q7].getD i 0)) ++ [IntKind.u32.wrap (hs.getD j 0 + [q0, q1, q2, q3, q4, q5, q6, q7].getD j 0)] = (List.range (j + 1)).map fun i => IntKind.u32.wrap (hs.getD i 0 + [q0, q1, q2, q3, q4, q5, q6, q7].getD i 0) by rw [List.range_succ, List.map_append]; rfl)
              obtain ⟨A7, c7, w7, hrun7, hO7, hg7, _⟩ := app32K (W := wr.drew) (IntKind.u32.wrap (hs.getD j 0 + [q0, q1, q2, q3, q4, q5, q6, q7].getD j 0)) (HV.out.below (below_drew (Below.refl _ _))) HLV.out (below_drew HK.out).size (by omega)
              rw [HSU.out] at hO7
              have HK7 := Aside0.mk (Kp.from (below_alloc (below_drew HK.out) _) (Kp.of_grown hg7) (fun k hk => HV.out.ge hk))
              have hdq := pw_cell_below HK7.out hq
              have hdh := pw_cell_below HK7.out hh0
              have HO7 := Aside0.mk hO7
              have HR7 := Aside0.mk hrun7
              obtain ⟨x, ex⟩ : ∃ x, hs.getD j 0 = x := ⟨_, rfl⟩
              obtain ⟨y, ey⟩ : ∃ x, [q0, q1, q2, q3, q4, q5, q6, q7].getD j 0 = x := ⟨_, rfl⟩
              rw [ex] at hch hdh HR7
              rw [ey] at hcq hdq HR7
              have j0 : (0 : Int) ≤ (j : Int) := by omega
              have j1 : (j : Int) < 8 := by omega
              clear hq hh0 hrh hrun7 hO7 hg7 ex ey
              go_wp2_with fail
              refine start_ (n := 13) (S := fun w' => w'.cell? (adh.add j) = some (.int .u32 x) ∧ w'.cell? ⟨g, j, none⟩ = some (.int .u32 y)) (ds := [11]) #[false, false, false, false, false, false, false, false, false, false, false, false, false] (by kernel_rfl) rfl rfl ⟨hch, hcq⟩ (fun hHeld => ?_)
              refine pure_ (i := 0) (N := some 222) (v := ?_) (a' := ?_) #[true, false, false, false, false, false, false, false, false, false, false, false, false] rfl rfl (by kernel_rfl) (fun _ _ _ h => h) (Or.inl ⟨by rfl, ?_⟩) ?_ ?_
              rotate_left
              · intro w'
                go_simp
                with_reducible rfl
              rotate_left
              · simp only [Act.put, List.setIfInBounds_toArray, List.set_cons_zero, List.set_cons_succ, i64_w, i32_w]
                rfl
              refine pure_ (i := 1) (N := some 223) (v := ?_) (a' := ?_) #[true, true, false, false, false, false, false, false, false, false, false, false, false] rfl rfl (by kernel_rfl) (fun _ _ _ h => h) (Or.inl ⟨by rfl, ?_⟩) ?_ ?_
              rotate_left
              · intro w'
                go_simp
                with_reducible rfl
              rotate_left
              · simp only [Act.put, List.setIfInBounds_toArray, List.set_cons_zero, List.set_cons_succ, i64_w, i32_w]
                rfl
              refine pure_ (i := 2) (N := some 224) (v := ?_) (a' := ?_) #[true, true, true, false, false, false, false, false, false, false, false, false, false] rfl rfl (by kernel_rfl) (fun _ _ _ h => h) (Or.inl ⟨by rfl, ?_⟩) ?_ ?_
              rotate_left
              · intro w'
                go_simp
                with_reducible rfl
              rotate_left
              · simp only [Act.put, List.setIfInBounds_toArray, List.set_cons_zero, List.set_cons_succ, i64_w, i32_w]
                rfl
              refine pure_ (i := 3) (N := some 225) (v := ?_) (a' := ?_) #[true, true, true, true, false, false, false, false, false, false, false, false, false] rfl rfl (by kernel_rfl) (fun _ _ _ h => h) (Or.inl ⟨by rfl, ?_⟩) ?_ ?_
              rotate_left
              · intro w'
                go_simp
                with_reducible rfl
              rotate_left
              · simp only [Act.put, List.setIfInBounds_toArray, List.set_cons_zero, List.set_cons_succ, i64_w, i32_w]
                rfl
              refine pure_ (i := 5) (N := some 227) (v := ?_) (a' := ?_) #[true, true, true, true, false, true, false, false, false, false, false, false, false] rfl rfl (by kernel_rfl) (fun _ _ _ h => h) (Or.inl ⟨by rfl, ?_⟩) ?_ ?_
              rotate_left
              · intro w'
                go_simp
                with_reducible rfl
              rotate_left
              · simp only [Act.put, List.setIfInBounds_toArray, List.set_cons_zero, List.set_cons_succ, i64_w, i32_w]
                rfl
              refine pure_ (i := 6) (N := some 228) (v := ?_) (a' := ?_) #[true, true, true, true, false, true, true, false, false, false, false, false, false] rfl rfl (by kernel_rfl) (fun _ _ _ h => h) (Or.inl ⟨by rfl, ?_⟩) ?_ ?_
              rotate_left
              · intro w'
                go_simp
                with_reducible rfl
              rotate_left
              · simp only [Act.put, List.setIfInBounds_toArray, List.set_cons_zero, List.set_cons_succ, i64_w, i32_w]
                rfl
              refine pure_ (i := 7) (N := some 229) (v := ?_) (a' := ?_) #[true, true, true, true, false, true, true, true, false, false, false, false, false] rfl rfl (by kernel_rfl) (fun _ _ _ h => h) (Or.inl ⟨by rfl, ?_⟩) ?_ ?_
              rotate_left
              · intro w'
                go_simp
                with_reducible rfl
              rotate_left
              · simp only [Act.put, List.setIfInBounds_toArray, List.set_cons_zero, List.set_cons_succ, i64_w, i32_w]
                rfl
              refine take_ (i := 4) (N := some 226) (v := ?_) (a' := ?_) #[true, true, true, true, true, true, true, true, false, false, false, false, false] rfl rfl (by kernel_rfl) (fun _ _ _ h => h) (Or.inl ⟨by rfl, ?_⟩) hHeld ?_ ?_
              rotate_left
              · rintro w' ⟨s0, s1⟩
                go_simp
                with_reducible rfl
              rotate_left
              · simp only [Act.put, List.setIfInBounds_toArray, List.set_cons_zero, List.set_cons_succ, i64_w, i32_w]
                rfl
              refine take_ (i := 8) (N := some 230) (v := ?_) (a' := ?_) #[true, true, true, true, true, true, true, true, true, false, false, false, false] rfl rfl (by kernel_rfl) (fun _ _ _ h => h) (Or.inl ⟨by rfl, ?_⟩) hHeld ?_ ?_
              rotate_left
              · rintro w' ⟨s0, s1⟩
                go_simp
                with_reducible rfl
              rotate_left
              · simp only [Act.put, List.setIfInBounds_toArray, List.set_cons_zero, List.set_cons_succ, i64_w, i32_w]
                rfl
              refine pure_ (i := 9) (N := some 231) (v := ?_) (a' := ?_) #[true, true, true, true, true, true, true, true, true, true, false, false, false] rfl rfl (by kernel_rfl) (fun _ _ _ h => h) (Or.inl ⟨by rfl, ?_⟩) ?_ ?_
              rotate_left
              · intro w'
                go_simp
                with_reducible rfl
              rotate_left
              · simp only [Act.put, List.setIfInBounds_toArray, List.set_cons_zero, List.set_cons_succ, i64_w, i32_w]
                rfl
              refine one_ (i := 10) (N := some 232) #[true, true, true, true, true, true, true, true, true, true, true, false, false] rfl rfl (by kernel_rfl) (by decide) (fun K hK => ?_)
              refine value_ (w1 := ?_) (v := ?_) (by rfl) rfl ?_ ?_
              rotate_left 2
              · go_simp
                constructor
                · rfl
                · rfl
              refine hK.out _ _ ⟨(pw_cell_below (below_alloc (Below.refl _ _) _) hHeld.1), (pw_cell_below (below_alloc (Below.refl _ _) _) hHeld.2)⟩ (fun hHeld => ?_)
              clear hK K
              refine norm_ (a' := ?_) ?_ ?_
              rotate_left
              · show Act.put _ (some 232) _ = _
                simp only [Act.put, List.setIfInBounds_toArray, List.set_cons_zero, List.set_cons_succ, i64_w, i32_w]
                rfl
              refine last_ (i := 11) (N := some 233) #[true, true, true, true, true, true, true, true, true, true, true, true, false] rfl rfl (by kernel_rfl) (by decide) (fun K hK => ?_)
              refine app_step (by rfl) (.tmp 222) (.tmp 232) rfl rfl rfl HR7.out ?_
              refine hK.out _ _ ?_
              clear hK K
              refine norm_ (a' := ?_) ?_ ?_
              rotate_left
              · show Act.put _ (some 233) _ = _
                simp only [Act.put, List.setIfInBounds_toArray, List.set_cons_zero, List.set_cons_succ, i64_w, i32_w]
                rfl
              refine pure_ (i := 12) (N := some 15) (v := ?_) (a' := ?_) #[true, true, true, true, true, true, true, true, true, true, true, true, true] rfl rfl (by kernel_rfl) (fun _ _ _ h => h) (Or.inl ⟨by rfl, ?_⟩) ?_ ?_
              rotate_left
              · intro w'
                go_simp
                with_reducible rfl
              rotate_left
              · simp only [Act.put, List.setIfInBounds_toArray, List.set_cons_zero, List.set_cons_succ, i64_w, i32_w]
                rfl
              refine done_ (by kernel_rfl) ?_
              go_wp2_with fail
              go_roundw
              case rel => exact ⟨j + 1, by omega, by go_num, HO7, HK7⟩
              case measure => simp [intOf] <;> omega
            · obtain rfl : j = 8 := by omega
              go_wp2_with fail
              go_ret
              refine ⟨_, rfl, ?_, below_step HBB.out HK.out⟩
              rw [blkP, HSS.out]
              exact HV.out.weaken HBB.out.size
end Go.Proofs.Ytplmdgimodgekaa
