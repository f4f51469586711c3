import Derived.Test.YtigdchfjcfljjaaMgImagePlays5
import Derived.Test.YtigdchfjcfljjaaMgImagePlays2
set_option linter.unusedVariables false
set_option linter.unusedSimpArgs false
section
/- The document's image: Set, Put. -/
namespace Go.Proofs.Ytigdchfjcfljjaa
open Go.RowKit Go.Proofs.YtigdchfjcfljjaaW.PrintWords Go.Proofs.YtigdchfjcfljjaaW.PrintLast Go.Proofs.YtigdchfjcfljjaaW.PrintMore
attribute [local go_sem] max2_int min2_int max_two min_two max_three min_three max_four min_four
theorem fits8 {n : Nat} {a : Int} (h0 : 0 ≤ a) : fitsB n a 8 = decide (a + 8 ≤ (n : Int)) := by
  by_cases h : a + 8 ≤ (n : Int)
  · rw [decide_eq_true h]; exact fits_ok ⟨by omega, h0, by omega, by omega⟩
  · rw [decide_eq_false h]; exact fits_no (fun hh => h (by omega))
set_option maxHeartbeats 8000000 in
set_option maxRecDepth 100000 in
theorem RSet_arg (g base : Nat) (H : Hd) (B Was : List Int) (lim : Int) (ws : List Int) (F : Nat → Prop) (vb va vw : Value) (w : World) (hI : Rm w g base H B Was lim ws F vb va vw) (hb : isB B) (n : Nat) (hn : B.length = n) (a x : Int) (hno : ¬ setOk n a) : Calls Try.prog 121 #[.pointer (some ⟨g, 0, none⟩), .int .i64 a, .int .u64 x] w fun e w' => e = .returned (.int .i64 1) ∧ Below w.heap.size w w' := by
  have HI := Aside0.mk hI
  have C := Aside0.mk (ref_Get_calls vb B a 8 w hI.b.rd hb)
  rw [hn] at C
  obtain ⟨ft, hft⟩ : ∃ y, fitsB n a 8 = y := ⟨_, rfl⟩
  have HF := Aside0.mk hft
  have HF8 := Aside0.mk (fun h0 => (fits8 (n := n) (a := a) h0).symm.trans hft)
  rw [setOk] at hno
  obtain ⟨y, hy⟩ : ∃ y, getN B a 8 = y := ⟨_, rfl⟩
  rw [hy] at C
  clear hI hn hft hy
  have r0 : (w).cell? ⟨g, 0, none⟩ = some (.int .u64 H.id) := blk_cell HI.out.blk 0
  have r1 : (w).cell? ⟨g, 1, none⟩ = some (.int .u64 H.key) := blk_cell HI.out.blk 1
  have r2 : (w).cell? ⟨g, 2, none⟩ = some (.int .i64 H.data) := blk_cell HI.out.blk 2
  have r3 : (w).cell? ⟨g, 3, none⟩ = some (.int .i64 H.fields) := blk_cell HI.out.blk 3
  have r4 : (w).cell? ⟨g, 4, none⟩ = some (.int .u64 H.made) := blk_cell HI.out.blk 4
  have r5 : (w).cell? ⟨g, 5, none⟩ = some (vb) := blk_cell HI.out.blk 5
  have r6 : (w).cell? ⟨g, 6, none⟩ = some (va) := blk_cell HI.out.blk 6
  have r7 : (w).cell? ⟨g, 7, none⟩ = some (.int .i64 lim) := blk_cell HI.out.blk 7
  have r8 : (w).cell? ⟨g, 8, none⟩ = some (vw) := blk_cell HI.out.blk 8
  by_cases c2 : a.tmod 8 = 0
  · have b1 : (a.tmod 8 != 0) = false := by rw [c2]; rfl
    by_cases c1 : a < 192
    · clear hno c2
      go_enter Try.func121, Try.ntmps121
      go_wp2_with fail
      refine (C.out).mono ?_
      rintro e w1 ⟨rfl, hb⟩
      have HB := Aside0.mk hb
      rw [HF.out]
      clear hb
      go_wp2_with fail
      go_ret
      exact ⟨rfl, HB.out⟩
    · have e1 : a.tmod 8 = a % 8 := Int.tmod_eq_emod_of_nonneg (by omega)
      have b2 : (a % 8 != 0) = false := by rw [← e1, c2]; rfl
      obtain rfl : ft = false := by rw [← HF8.out (by omega)]; exact decide_eq_false (fun h => hno ⟨by omega, by omega, h⟩)
      clear hno c2 e1 HF8
      go_enter Try.func121, Try.ntmps121
      go_wp2_with fail
      refine (C.out).mono ?_
      rintro e w1 ⟨rfl, hb⟩
      have HB := Aside0.mk hb
      rw [HF.out]
      clear hb
      go_wp2_with fail
      go_ret
      exact ⟨rfl, HB.out⟩
  · have b1 : (a.tmod 8 != 0) = true := by simpa using c2
    by_cases c0 : 0 ≤ a
    · have b2 : (a % 8 != 0) = true := by rw [← Int.tmod_eq_emod_of_nonneg c0]; exact b1
      clear hno c2
      go_enter Try.func121, Try.ntmps121
      go_wp2_with fail
      refine (C.out).mono ?_
      rintro e w1 ⟨rfl, hb⟩
      have HB := Aside0.mk hb
      rw [HF.out]
      clear hb
      go_wp2_with fail
      go_ret
      exact ⟨rfl, HB.out⟩
    · clear hno c2
      go_enter Try.func121, Try.ntmps121
      go_wp2_with fail
      refine (C.out).mono ?_
      rintro e w1 ⟨rfl, hb⟩
      have HB := Aside0.mk hb
      rw [HF.out]
      clear hb
      go_wp2_with fail
      go_ret
      exact ⟨rfl, HB.out⟩
set_option maxHeartbeats 8000000 in
set_option maxRecDepth 100000 in
theorem RSet_twice (g base : Nat) (H : Hd) (B Was : List Int) (lim : Int) (ws : List Int) (F : Nat → Prop) (vb va vw : Value) (w : World) (hI : Rm w g base H B Was lim ws F vb va vw) (hb : isB B) (n : Nat) (hn : B.length = n) (a x : Int) (hok : setOk n a) (hx : getN B a 8 ≠ 0) : Calls Try.prog 121 #[.pointer (some ⟨g, 0, none⟩), .int .i64 a, .int .u64 x] w fun e w' => e = .returned (.int .i64 7) ∧ Below w.heap.size w w' := by
  have HI := Aside0.mk hI
  have C := Aside0.mk (ref_Get_calls vb B a 8 w hI.b.rd hb)
  have CW := Aside0.mk (fun (w1 : World) (hb1 : Below w.heap.size w w1) => RWord_calls g base H B Was lim ws F vb va vw w1 (hI.below hb1) a hb)
  rw [hn] at C
  obtain ⟨k1, k2, k3⟩ := hok
  have HF := Aside0.mk (show fitsB n a 8 = true by rw [fits8 (by omega)]; exact decide_eq_true k3)
  have b1 : (a.tmod 8 != 0) = false := by rw [Int.tmod_eq_emod_of_nonneg (by omega), k1]; rfl
  have b2 : (a % 8 != 0) = false := by rw [k1]; rfl
  have b3 : (getN B a 8 != 0) = true := by simpa using hx
  obtain ⟨y, hy⟩ : ∃ y, getN B a 8 = y := ⟨_, rfl⟩
  rw [hy] at C CW b3
  clear hI hn hy hx k1
  have r0 : (w).cell? ⟨g, 0, none⟩ = some (.int .u64 H.id) := blk_cell HI.out.blk 0
  have r1 : (w).cell? ⟨g, 1, none⟩ = some (.int .u64 H.key) := blk_cell HI.out.blk 1
  have r2 : (w).cell? ⟨g, 2, none⟩ = some (.int .i64 H.data) := blk_cell HI.out.blk 2
  have r3 : (w).cell? ⟨g, 3, none⟩ = some (.int .i64 H.fields) := blk_cell HI.out.blk 3
  have r4 : (w).cell? ⟨g, 4, none⟩ = some (.int .u64 H.made) := blk_cell HI.out.blk 4
  have r5 : (w).cell? ⟨g, 5, none⟩ = some (vb) := blk_cell HI.out.blk 5
  have r6 : (w).cell? ⟨g, 6, none⟩ = some (va) := blk_cell HI.out.blk 6
  have r7 : (w).cell? ⟨g, 7, none⟩ = some (.int .i64 lim) := blk_cell HI.out.blk 7
  have r8 : (w).cell? ⟨g, 8, none⟩ = some (vw) := blk_cell HI.out.blk 8
  go_enter Try.func121, Try.ntmps121
  go_wp2_with fail
  refine (C.out).mono ?_
  rintro e w1 ⟨rfl, hb⟩
  have HB := Aside0.mk hb
  rw [HF.out]
  clear hb
  go_wp2_with fail
  refine (CW.out _ HB.out).mono ?_
  rintro e w2 ⟨rfl, hb⟩
  replace HB := Aside0.mk (below_step HB.out hb)
  clear hb r0 r1 r2 r3 r4 r5 r6 r7 r8
  go_wp2_with fail
  go_ret
  exact ⟨rfl, HB.out⟩
set_option maxHeartbeats 8000000 in
set_option maxRecDepth 100000 in
theorem RSet_yes (g base : Nat) (H : Hd) (B Was : List Int) (lim : Int) (ws : List Int) (F : Nat → Prop) (vb va vw : Value) (w : World) (hI : Rm w g base H B Was lim ws F vb va vw) (hb : isB B) (n : Nat) (hn : B.length = n) (hl : n ≤ 100000) (q : Nat) (hq : Was.length = q) (j : Nat) (x : Int) (hok : setOk n j) (hx : getN B j 8 = 0) (x0 : 0 ≤ x) (x1 : x ≤ 18446744073709551615) (hwl : ws.length ≤ 1000000) : Calls Try.prog 121 #[.pointer (some ⟨g, 0, none⟩), .int .i64 (j : Int), .int .u64 x] w fun e w' => e = .returned (.int .i64 0) ∧ RmS w w' g base H (splice B j (leB x 8)) Was lim (if (j : Int) < (q : Int) then ws ++ [(j : Int)] else ws) F := by
  obtain ⟨k1, k2, k3⟩ := hok
  obtain ⟨b, o, c, ev, hnc, hbb⟩ := hI.b.form (by omega)
  rw [hn] at ev hnc
  subst ev
  have HI := Aside0.mk hI
  have C := Aside0.mk (ref_Get_calls (.slice (some ⟨b, o, none⟩) n c) B j 8 w hI.b.rd hb)
  have CW := Aside0.mk (fun (w1 : World) (hb1 : Below w.heap.size w w1) => RWord_calls g base H B Was lim ws F (.slice (some ⟨b, o, none⟩) n c) va vw w1 (hI.below hb1) j hb)
  rw [hn, hx] at C
  rw [hx] at CW
  have HF := Aside0.mk (show fitsB n (j : Int) 8 = true by rw [fits8 (by omega)]; exact decide_eq_true k3)
  have CB := Aside0.mk (fun w => ref_Bytes_calls x 8 w x0 x1)
  obtain ⟨A2, c2, ev, hqc, _⟩ := hI.a.sl hq
  subst ev
  obtain ⟨o', c', hsl2, hrd⟩ := slice_tail b o n c (j + 8) (by omega) hnc (base := base) hn
  have hsl := slice_upto b o n c j (by omega)
  have hpre : ∀ W : World, OwnO (Value.int .u8) W base 5 (.slice (some ⟨b, o, none⟩) n c) B → Rd W .u8 (.slice (some ⟨b, o, none⟩) j c) (B.take j) := fun W h => (h.pre j (by omega)).rd
  have HRD := Aside0.mk hrd
  have HPRE := Aside0.mk hpre
  obtain ⟨m, hm⟩ : ∃ m, n - (j + 8) = m := ⟨_, rfl⟩
  rw [hm] at hsl2 HRD
  have HLT := Aside0.mk (show (B.take j).length = j by rw [List.length_take]; omega)
  have HLD := Aside0.mk (show (B.drop (j + 8)).length = m by rw [List.length_drop, hn, hm])
  have HSP := Aside0.mk (show (([] ++ B.take j) ++ leB x (leW 8)) ++ B.drop (j + 8) = splice B j (leB x 8) by rw [splice, leB_len, leW8, List.nil_append, List.append_assoc])
  have hnm : 0 + j + 8 + m = n := by omega
  have hl1 : 0 + j ≤ 1000000 := by omega
  have hl2 : 0 + j + 8 ≤ 1000000 := by omega
  have hl3 : 0 + j + 8 + m ≤ 1000000 := by omega
  have b1 : ((j : Int).tmod 8 != 0) = false := by rw [Int.tmod_eq_emod_of_nonneg (by omega), k1]; rfl
  have b2 : ((j : Int) % 8 != 0) = false := by rw [k1]; rfl
  obtain ⟨WS, hWS⟩ : ∃ X, (if (j : Int) < (q : Int) then ws ++ [(j : Int)] else ws) = X := ⟨_, rfl⟩
  rw [hWS]
  have HWS := Aside0.mk hWS
  obtain ⟨wl, hwn⟩ : ∃ k, ws.length = k := ⟨_, rfl⟩
  have HWN := Aside0.mk hwn
  rw [hwn] at hwl
  have hja : (j : Int) + 8 = ((j + 8 : Nat) : Int) := by omega
  rw [← hja] at hsl2
  have had2 : wrap64 ((j : Int) + 8) = (j : Int) + 8 := by simp only [wrap64]; omega
  have had : IntKind.i64.wrap ((j : Int) + 8) = (j : Int) + 8 := by clear had2; rw [IntKind.wrap_i64]; omega
  have HAD := Aside0.mk (And.intro had had2)
  clear had had2
  clear hI hn hx hq k1 hrd hpre hm hWS hwn hja
  have r0 : (w).cell? ⟨g, 0, none⟩ = some (.int .u64 H.id) := blk_cell HI.out.blk 0
  have r1 : (w).cell? ⟨g, 1, none⟩ = some (.int .u64 H.key) := blk_cell HI.out.blk 1
  have r2 : (w).cell? ⟨g, 2, none⟩ = some (.int .i64 H.data) := blk_cell HI.out.blk 2
  have r3 : (w).cell? ⟨g, 3, none⟩ = some (.int .i64 H.fields) := blk_cell HI.out.blk 3
  have r4 : (w).cell? ⟨g, 4, none⟩ = some (.int .u64 H.made) := blk_cell HI.out.blk 4
  have r5 : (w).cell? ⟨g, 5, none⟩ = some ((.slice (some ⟨b, o, none⟩) n c)) := blk_cell HI.out.blk 5
  have r6 : (w).cell? ⟨g, 6, none⟩ = some ((.slice A2 q c2)) := blk_cell HI.out.blk 6
  have r7 : (w).cell? ⟨g, 7, none⟩ = some (.int .i64 lim) := blk_cell HI.out.blk 7
  have r8 : (w).cell? ⟨g, 8, none⟩ = some (vw) := blk_cell HI.out.blk 8
  go_enter Try.func121, Try.ntmps121
  go_wp2_with fail
  refine (C.out).mono ?_
  rintro e w1 ⟨rfl, hb⟩
  have HB := Aside0.mk hb
  rw [HF.out]
  clear hb
  go_wp2_with fail
  refine (CW.out _ HB.out).mono ?_
  rintro e w2 ⟨rfl, hb⟩
  replace HB := Aside0.mk (below_step HB.out hb)
  clear hb r0 r1 r2 r3 r4 r5 r6 r7 r8
  have HI2 := Aside0.mk (HI.out.below HB.out)
  have r0 : (w2).cell? ⟨g, 0, none⟩ = some (.int .u64 H.id) := blk_cell HI2.out.blk 0
  have r1 : (w2).cell? ⟨g, 1, none⟩ = some (.int .u64 H.key) := blk_cell HI2.out.blk 1
  have r2 : (w2).cell? ⟨g, 2, none⟩ = some (.int .i64 H.data) := blk_cell HI2.out.blk 2
  have r3 : (w2).cell? ⟨g, 3, none⟩ = some (.int .i64 H.fields) := blk_cell HI2.out.blk 3
  have r4 : (w2).cell? ⟨g, 4, none⟩ = some (.int .u64 H.made) := blk_cell HI2.out.blk 4
  have r5 : (w2).cell? ⟨g, 5, none⟩ = some ((.slice (some ⟨b, o, none⟩) n c)) := blk_cell HI2.out.blk 5
  have r6 : (w2).cell? ⟨g, 6, none⟩ = some ((.slice A2 q c2)) := blk_cell HI2.out.blk 6
  have r7 : (w2).cell? ⟨g, 7, none⟩ = some (.int .i64 lim) := blk_cell HI2.out.blk 7
  have r8 : (w2).cell? ⟨g, 8, none⟩ = some (vw) := blk_cell HI2.out.blk 8
  go_upto_region 6 with fail
  obtain ⟨had, had2⟩ := HAD.out
  refine start_ (n := 23) (S := fun w' => w'.cell? ⟨g, 5, none⟩ = some (.slice (some ⟨b, o, none⟩) n c)) (ds := [22]) #[false,false,false,false,false,false,false,false,false,false,false,false,false,false,false,false,false,false,false,false,false,false,false] (by kernel_rfl) rfl rfl (r5) (fun hHeld => ?_)
  refine pure_ (i := 0) (N := some 33) (v := ?_) (a' := ?_) #[true,false,false,false,false,false,false,false,false,false,false,false,false,false,false,false,false,false,false,false,false,false,false] rfl rfl (by kernel_rfl) (fun _ _ _ h => h) (Or.inl ⟨by rfl, ?_⟩) ?_ ?_
  rotate_left
  · intro w'
    go_simp
    with_reducible rfl
  rotate_left
  · simp only [Act.put, List.setIfInBounds_toArray, List.set_cons_zero, List.set_cons_succ, i64_w, i32_w]
    rfl
  refine pure_ (i := 2) (N := some 35) (v := ?_) (a' := ?_) #[true,false,true,false,false,false,false,false,false,false,false,false,false,false,false,false,false,false,false,false,false,false,false] rfl rfl (by kernel_rfl) (fun _ _ _ h => h) (Or.inl ⟨by rfl, ?_⟩) ?_ ?_
  rotate_left
  · intro w'
    go_simp
    with_reducible rfl
  rotate_left
  · simp only [Act.put, List.setIfInBounds_toArray, List.set_cons_zero, List.set_cons_succ, i64_w, i32_w]
    rfl
  refine pure_ (i := 3) (N := some 36) (v := ?_) (a' := ?_) #[true,false,true,true,false,false,false,false,false,false,false,false,false,false,false,false,false,false,false,false,false,false,false] rfl rfl (by kernel_rfl) (fun _ _ _ h => h) (Or.inl ⟨by rfl, ?_⟩) ?_ ?_
  rotate_left
  · intro w'
    go_simp
    with_reducible rfl
  rotate_left
  · simp only [Act.put, List.setIfInBounds_toArray, List.set_cons_zero, List.set_cons_succ, i64_w, i32_w]
    rfl
  refine pure_ (i := 4) (N := some 37) (v := ?_) (a' := ?_) #[true,false,true,true,true,false,false,false,false,false,false,false,false,false,false,false,false,false,false,false,false,false,false] rfl rfl (by kernel_rfl) (fun _ _ _ h => h) (Or.inl ⟨by rfl, ?_⟩) ?_ ?_
  rotate_left
  · intro w'
    go_simp
    with_reducible rfl
  rotate_left
  · simp only [Act.put, List.setIfInBounds_toArray, List.set_cons_zero, List.set_cons_succ, i64_w, i32_w]
    rfl
  refine pure_ (i := 6) (N := some 39) (v := ?_) (a' := ?_) #[true,false,true,true,true,false,true,false,false,false,false,false,false,false,false,false,false,false,false,false,false,false,false] rfl rfl (by kernel_rfl) (fun _ _ _ h => h) (Or.inl ⟨by rfl, ?_⟩) ?_ ?_
  rotate_left
  · intro w'
    go_simp
    with_reducible rfl
  rotate_left
  · simp only [Act.put, List.setIfInBounds_toArray, List.set_cons_zero, List.set_cons_succ, i64_w, i32_w]
    rfl
  refine pure_ (i := 9) (N := some 42) (v := ?_) (a' := ?_) #[true,false,true,true,true,false,true,false,false,true,false,false,false,false,false,false,false,false,false,false,false,false,false] rfl rfl (by kernel_rfl) (fun _ _ _ h => h) (Or.inl ⟨by rfl, ?_⟩) ?_ ?_
  rotate_left
  · intro w'
    go_simp
    with_reducible rfl
  rotate_left
  · simp only [Act.put, List.setIfInBounds_toArray, List.set_cons_zero, List.set_cons_succ, i64_w, i32_w]
    rfl
  refine pure_ (i := 12) (N := some 45) (v := ?_) (a' := ?_) #[true,false,true,true,true,false,true,false,false,true,false,false,true,false,false,false,false,false,false,false,false,false,false] rfl rfl (by kernel_rfl) (fun _ _ _ h => h) (Or.inl ⟨by rfl, ?_⟩) ?_ ?_
  rotate_left
  · intro w'
    go_simp
    with_reducible rfl
  rotate_left
  · simp only [Act.put, List.setIfInBounds_toArray, List.set_cons_zero, List.set_cons_succ, i64_w, i32_w]
    rfl
  refine pure_ (i := 13) (N := some 46) (v := ?_) (a' := ?_) #[true,false,true,true,true,false,true,false,false,true,false,false,true,true,false,false,false,false,false,false,false,false,false] rfl rfl (by kernel_rfl) (fun _ _ _ h => h) (Or.inl ⟨by rfl, ?_⟩) ?_ ?_
  rotate_left
  · intro w'
    go_simp
    with_reducible rfl
  rotate_left
  · simp only [Act.put, List.setIfInBounds_toArray, List.set_cons_zero, List.set_cons_succ, i64_w, i32_w]
    rfl
  refine pure_ (i := 14) (N := some 47) (v := ?_) (a' := ?_) #[true,false,true,true,true,false,true,false,false,true,false,false,true,true,true,false,false,false,false,false,false,false,false] rfl rfl (by kernel_rfl) (fun _ _ _ h => h) (Or.inl ⟨by rfl, ?_⟩) ?_ ?_
  rotate_left
  · intro w'
    go_simp
    with_reducible rfl
  rotate_left
  · simp only [Act.put, List.setIfInBounds_toArray, List.set_cons_zero, List.set_cons_succ, i64_w, i32_w]
    rfl
  refine pure_ (i := 16) (N := some 49) (v := ?_) (a' := ?_) #[true,false,true,true,true,false,true,false,false,true,false,false,true,true,true,false,true,false,false,false,false,false,false] rfl rfl (by kernel_rfl) (fun _ _ _ h => h) (Or.inl ⟨by rfl, ?_⟩) ?_ ?_
  rotate_left
  · intro w'
    go_simp
    with_reducible rfl
  rotate_left
  · simp only [Act.put, List.setIfInBounds_toArray, List.set_cons_zero, List.set_cons_succ, i64_w, i32_w]
    rfl
  refine pure_ (i := 17) (N := some 50) (v := ?_) (a' := ?_) #[true,false,true,true,true,false,true,false,false,true,false,false,true,true,true,false,true,true,false,false,false,false,false] rfl rfl (by kernel_rfl) (fun _ _ _ h => h) (Or.inl ⟨by rfl, ?_⟩) ?_ ?_
  rotate_left
  · intro w'
    go_simp
    with_reducible rfl
  rotate_left
  · simp only [Act.put, List.setIfInBounds_toArray, List.set_cons_zero, List.set_cons_succ, i64_w, i32_w]
    rfl
  refine take_ (i := 5) (N := some 38) (v := ?_) (a' := ?_) #[true,false,true,true,true,true,true,false,false,true,false,false,true,true,true,false,true,true,false,false,false,false,false] rfl rfl (by kernel_rfl) (fun _ _ _ h => h) (Or.inl ⟨by rfl, ?_⟩) hHeld ?_ ?_
  rotate_left
  · intro w' s0
    go_simp
    with_reducible rfl
  rotate_left
  · simp only [Act.put, List.setIfInBounds_toArray, List.set_cons_zero, List.set_cons_succ, i64_w, i32_w]
    rfl
  refine pure_ (i := 7) (N := some 40) (v := ?_) (a' := ?_) #[true,false,true,true,true,true,true,true,false,true,false,false,true,true,true,false,true,true,false,false,false,false,false] rfl rfl (by kernel_rfl) (fun _ _ _ h => h) (Or.inl ⟨by rfl, ?_⟩) ?_ ?_
  rotate_left
  · intro w'
    go_simp
    with_reducible rfl
  rotate_left
  · simp only [Act.put, List.setIfInBounds_toArray, List.set_cons_zero, List.set_cons_succ, i64_w, i32_w]
    rfl
  refine take_ (i := 15) (N := some 48) (v := ?_) (a' := ?_) #[true,false,true,true,true,true,true,true,false,true,false,false,true,true,true,true,true,true,false,false,false,false,false] rfl rfl (by kernel_rfl) (fun _ _ _ h => h) (Or.inl ⟨by rfl, ?_⟩) hHeld ?_ ?_
  rotate_left
  · intro w' s0
    go_simp
    with_reducible rfl
  rotate_left
  · simp only [Act.put, List.setIfInBounds_toArray, List.set_cons_zero, List.set_cons_succ, i64_w, i32_w]
    rfl
  refine pure_ (i := 18) (N := some 51) (v := ?_) (a' := ?_) #[true,false,true,true,true,true,true,true,false,true,false,false,true,true,true,true,true,true,true,false,false,false,false] rfl rfl (by kernel_rfl) (fun _ _ _ h => h) (Or.inl ⟨by rfl, ?_⟩) ?_ ?_
  rotate_left
  · intro w'
    go_simp
    with_reducible rfl
  rotate_left
  · simp only [Act.put, List.setIfInBounds_toArray, List.set_cons_zero, List.set_cons_succ, i64_w, i32_w]
    rfl
  refine one_ (i := 1) (N := some 34) #[true,true,true,true,true,true,true,true,false,true,false,false,true,true,true,true,true,true,true,false,false,false,false] rfl rfl (by kernel_rfl) (by decide) (fun K hK => ?_)
  refine value_ (w1 := ?_) (v := ?_) (by rfl) rfl ?_ ?_
  rotate_left 2
  · go_simp
    constructor
    · rfl
    · rfl
  have hb3 : Below w2.heap.size w2 ((w2.alloc (.cells #[] 5)).drew) := below_drew (below_alloc (Below.refl _ _) _)
  refine hK.out _ _ ((pw_cell_below (below_alloc (Below.refl _ _) _) hHeld)) (fun hHeld => ?_)
  clear hK K
  refine norm_ (a' := ?_) ?_ ?_
  rotate_left
  · show Act.put _ (some 34) _ = _
    simp only [Act.put, List.setIfInBounds_toArray, List.set_cons_zero, List.set_cons_succ, i64_w, i32_w]
    rfl
  refine one_ (i := 8) (N := some 41) #[true,true,true,true,true,true,true,true,true,true,false,false,true,true,true,true,true,true,true,false,false,false,false] rfl rfl (by kernel_rfl) (by decide) (fun K hK => ?_)
  have ho3 : OwnO (Value.int .u8) ((w2.alloc (.cells #[] 5)).drew) w2.heap.size 5 (.slice (some ⟨w2.heap.size, 0, none⟩) 0 0) [] := (own_empty w2 w2.heap.size (Nat.le_refl _)).below (below_drew (Below.refl _ _))
  obtain ⟨A4, c4, w4, hr4, ho4, hk4⟩ := app_row ho3 (HPRE.out _ (HI2.out.below hb3).b) rfl HLT.out hb3.size hl1
  have hb4 := Kp.from hb3 hk4 (fun b hb => ho3.ge hb)
  refine app_step (by rfl) (.tmp 34) (.tmp 40) rfl rfl rfl hr4 ?_
  refine hK.out _ _ ((blk_cell (HI2.out.below hb4).blk 5)) (fun hHeld => ?_)
  clear hK K
  refine norm_ (a' := ?_) ?_ ?_
  rotate_left
  · show Act.put _ (some 41) _ = _
    simp only [Act.put, List.setIfInBounds_toArray, List.set_cons_zero, List.set_cons_succ, i64_w, i32_w]
    rfl
  refine one_ (i := 10) (N := some 43) #[true,true,true,true,true,true,true,true,true,true,true,false,true,true,true,true,true,true,true,false,false,false,false] rfl rfl (by kernel_rfl) (by decide) (fun K hK => ?_)
  refine goes_ Try.func113 (by kernel_rfl) rfl #[.int .u64 x, .int .i64 8] (by rfl) rfl rfl (by (try simp only [List.map_toArray, List.map_cons, List.map_nil]); first | done | rfl) ?_
  with_reducible refine (CB.out _).mono ?_
  rintro e w5 ⟨v5, rfl, hR5, hb5⟩
  refine ⟨_, rfl, ?_⟩
  refine hK.out _ _ ((pw_cell_below hb5 hHeld)) (fun hHeld => ?_)
  clear hK K
  refine norm_ (a' := ?_) ?_ ?_
  rotate_left
  · show Act.put _ (some 43) _ = _
    simp only [Act.put, List.setIfInBounds_toArray, List.set_cons_zero, List.set_cons_succ, i64_w, i32_w]
    rfl
  refine one_ (i := 11) (N := some 44) #[true,true,true,true,true,true,true,true,true,true,true,true,true,true,true,true,true,true,true,false,false,false,false] rfl rfl (by kernel_rfl) (by decide) (fun K hK => ?_)
  have hb6 := below_step hb4 hb5
  obtain ⟨A6, c6, w6, hr6, ho6, hk6⟩ := app_row (ho4.below hb5) (Own.rd (Own.of_R hR5)) (by rw [List.length_append, HLT.out]; rfl) (show (leB x (leW 8)).length = 8 by rw [leW8, leB_len]) hb6.size hl2
  have hb7 := Kp.from hb6 hk6 (fun b hb => ho4.ge hb)
  refine app_step (by rfl) (.tmp 41) (.tmp 43) rfl rfl rfl hr6 ?_
  refine hK.out _ _ ((blk_cell (HI2.out.below hb7).blk 5)) (fun hHeld => ?_)
  clear hK K
  refine norm_ (a' := ?_) ?_ ?_
  rotate_left
  · show Act.put _ (some 44) _ = _
    simp only [Act.put, List.setIfInBounds_toArray, List.set_cons_zero, List.set_cons_succ, i64_w, i32_w]
    rfl
  refine one_ (i := 19) (N := some 52) #[true,true,true,true,true,true,true,true,true,true,true,true,true,true,true,true,true,true,true,true,false,false,false] rfl rfl (by kernel_rfl) (by decide) (fun K hK => ?_)
  obtain ⟨A8, c8, w8, hr8, ho8, hk8⟩ := app_row ho6 (HRD.out _ (HI2.out.below hb7).b) (by rw [List.length_append, List.length_append, HLT.out, leW8, leB_len]; rfl) HLD.out hb7.size hl3
  have hb8 := Kp.from hb7 hk8 (fun b hb => ho6.ge hb)
  refine app_step (by rfl) (.tmp 44) (.tmp 51) rfl rfl rfl hr8 ?_
  refine hK.out _ _ ((blk_cell (HI2.out.below hb8).blk 5)) (fun hHeld => ?_)
  clear hK K
  refine norm_ (a' := ?_) ?_ ?_
  rotate_left
  · show Act.put _ (some 52) _ = _
    simp only [Act.put, List.setIfInBounds_toArray, List.set_cons_zero, List.set_cons_succ, i64_w, i32_w]
    rfl
  refine pure_ (i := 20) (N := some 53) (v := ?_) (a' := ?_) #[true,true,true,true,true,true,true,true,true,true,true,true,true,true,true,true,true,true,true,true,true,false,false] rfl rfl (by kernel_rfl) (fun _ _ _ h => h) (Or.inl ⟨by rfl, ?_⟩) ?_ ?_
  rotate_left
  · intro w'
    go_simp
    with_reducible rfl
  rotate_left
  · simp only [Act.put, List.setIfInBounds_toArray, List.set_cons_zero, List.set_cons_succ, i64_w, i32_w]
    rfl
  refine pure_ (i := 21) (N := some 54) (v := ?_) (a' := ?_) #[true,true,true,true,true,true,true,true,true,true,true,true,true,true,true,true,true,true,true,true,true,true,false] rfl rfl (by kernel_rfl) (fun _ _ _ h => h) (Or.inl ⟨by rfl, ?_⟩) ?_ ?_
  rotate_left
  · intro w'
    go_simp
    with_reducible rfl
  rotate_left
  · simp only [Act.put, List.setIfInBounds_toArray, List.set_cons_zero, List.set_cons_succ, i64_w, i32_w]
    rfl
  refine last_ (i := 22) (N := none) #[true,true,true,true,true,true,true,true,true,true,true,true,true,true,true,true,true,true,true,true,true,true,true] rfl rfl (by kernel_rfl) (by decide) (fun K hK => ?_)
  have s5 := blk_cell (HI2.out.below hb8).blk 5
  have f5 := blk_frozen (HI2.out.below hb8).blk 5
  refine skip_ (w1 := ?_) (by rfl) rfl ?_ ?_
  rotate_left
  · go_simp
    rfl
  refine hK.out _ _ ?_
  clear hK K
  refine done_ (by kernel_rfl) ?_
  clear had had2
  have HB8 := Aside0.mk (below_step HB.out hb8)
  have HI8 := Aside0.mk (HI.out.below HB8.out)
  rw [HSP.out] at ho8
  rw [hnm] at ho8
  first | rw [show j + 8 + m = n by omega] | rw [hnm]
  have HO8 := Aside0.mk (ho8.ge_ (show base ≤ w2.heap.size from Nat.le_trans HI.out.bs HB.out.size))
  have HGE := Aside0.mk (fun k hk => Nat.le_trans HB.out.size (ho8.ge (k := k) hk))
  clear hr4 hr6 hr8 ho3 ho4 ho6 ho8 hk4 hk6 hk8 hb3 hb4 hb5 hb6 hb7 hb8 hR5 s5 f5 hsl hsl2 HRD HPRE HLT HLD HSP hl1 hl2 hl3 hnm r0 r1 r2 r3 r4 r5 r6 r7 r8
  obtain ⟨w9, hw9⟩ : ∃ W, w8.setCell ⟨g, 5, none⟩ (.slice A8 n c8) = W := ⟨_, rfl⟩
  have far : ∀ k, k ≠ g → w9.heap[k]? = w8.heap[k]? := fun k h => by rw [← hw9]; exact Below.heap_setCell _ ⟨g, 5, none⟩ _ k h
  have hz9 : w9.heap[g]? = some (.cells (rmA H (.slice A8 n c8) (.slice A2 q c2) lim vw) 85 (0, 0)) := by rw [← hw9]; simpa [rmA] using blk_set HI8.out.blk 5 (.slice A8 n c8)
  have HO9 := Aside0.mk (HO8.out.move (fun k hk => far k (fun e => HO8.out.ne HI8.out.blk (by decide) (by rw [hk, e]))))
  have HA9 := Aside0.mk (HI8.out.a.move (fun k hk => far k (fun e => HI8.out.a_ne (by rw [hk, e]))))
  have HW9 := Aside0.mk (HI8.out.w.move (fun k hk => far k (fun e => HI8.out.w_ne (by rw [hk, e]))))
  have HK9 := Aside0.mk (show Kp F w w9 by rw [← hw9]; exact (Kp.of_below HB8.out F).trans (Kp.set w8 ⟨g, 5, none⟩ _) (fun k hk => .inl (by rw [hk]; exact HI.out.fg)))
  have HS9 := Aside0.mk (show w9.heap.size = w8.heap.size by rw [← hw9]; simp)
  have HZ9 := Aside0.mk hz9
  rw [hw9]
  clear hw9 far hz9
  have r0 : (w9).cell? ⟨g, 0, none⟩ = some (.int .u64 H.id) := blk_cell HZ9.out 0
  have r1 : (w9).cell? ⟨g, 1, none⟩ = some (.int .u64 H.key) := blk_cell HZ9.out 1
  have r2 : (w9).cell? ⟨g, 2, none⟩ = some (.int .i64 H.data) := blk_cell HZ9.out 2
  have r3 : (w9).cell? ⟨g, 3, none⟩ = some (.int .i64 H.fields) := blk_cell HZ9.out 3
  have r4 : (w9).cell? ⟨g, 4, none⟩ = some (.int .u64 H.made) := blk_cell HZ9.out 4
  have r5 : (w9).cell? ⟨g, 5, none⟩ = some ((.slice A8 n c8)) := blk_cell HZ9.out 5
  have r6 : (w9).cell? ⟨g, 6, none⟩ = some ((.slice A2 q c2)) := blk_cell HZ9.out 6
  have r7 : (w9).cell? ⟨g, 7, none⟩ = some (.int .i64 lim) := blk_cell HZ9.out 7
  have r8 : (w9).cell? ⟨g, 8, none⟩ = some (vw) := blk_cell HZ9.out 8
  have f0 := blk_frozen HZ9.out 0
  have f1 := blk_frozen HZ9.out 1
  have f2 := blk_frozen HZ9.out 2
  have f3 := blk_frozen HZ9.out 3
  have f4 := blk_frozen HZ9.out 4
  have f5 := blk_frozen HZ9.out 5
  have f6 := blk_frozen HZ9.out 6
  have f7 := blk_frozen HZ9.out 7
  have f8 := blk_frozen HZ9.out 8
  by_cases c1 : (j : Int) < (q : Int)
  · have hws := HWS.out
    rw [if_pos c1] at hws
    subst hws
    obtain ⟨A4, c4, w10, hr4, ho4, hk4, hat⟩ := app_int (j : Int) HW9.out HWN.out (Nat.le_trans HI.out.bs HK9.out.size) hwl
    have HR4 := Aside0.mk hr4
    have HW4 := Aside0.mk ho4
    have HAT := Aside0.mk hat
    have hgw : ¬ (vw.ownBlock = some g) := HI.out.w_ne
    have HZ4 := Aside0.mk (hk4.blk HZ9.out hgw)
    have HO4 := Aside0.mk (HO9.out.kp hk4 (fun k hk => HO9.out.apart HW9.out (by decide) k hk))
    have HA4 := Aside0.mk (HA9.out.kp hk4 (fun k hk => HA9.out.apart HW9.out (by decide) k hk))
    have HK4 := Aside0.mk (HK9.out.trans hk4 (fun k hk => .inl (HI.out.fw k hk)))
    have HS4 := Aside0.mk hk4.size
    clear hr4 ho4 hk4 hat
    have s0 : (w10).cell? ⟨g, 0, none⟩ = some (.int .u64 H.id) := blk_cell HZ4.out 0
    have s1 : (w10).cell? ⟨g, 1, none⟩ = some (.int .u64 H.key) := blk_cell HZ4.out 1
    have s2 : (w10).cell? ⟨g, 2, none⟩ = some (.int .i64 H.data) := blk_cell HZ4.out 2
    have s3 : (w10).cell? ⟨g, 3, none⟩ = some (.int .i64 H.fields) := blk_cell HZ4.out 3
    have s4 : (w10).cell? ⟨g, 4, none⟩ = some (.int .u64 H.made) := blk_cell HZ4.out 4
    have s5 : (w10).cell? ⟨g, 5, none⟩ = some ((.slice A8 n c8)) := blk_cell HZ4.out 5
    have s6 : (w10).cell? ⟨g, 6, none⟩ = some ((.slice A2 q c2)) := blk_cell HZ4.out 6
    have s7 : (w10).cell? ⟨g, 7, none⟩ = some (.int .i64 lim) := blk_cell HZ4.out 7
    have s8 : (w10).cell? ⟨g, 8, none⟩ = some (vw) := blk_cell HZ4.out 8
    have h0 := blk_frozen HZ4.out 0
    have h1 := blk_frozen HZ4.out 1
    have h2 := blk_frozen HZ4.out 2
    have h3 := blk_frozen HZ4.out 3
    have h4 := blk_frozen HZ4.out 4
    have h5 := blk_frozen HZ4.out 5
    have h6 := blk_frozen HZ4.out 6
    have h7 := blk_frozen HZ4.out 7
    have h8 := blk_frozen HZ4.out 8
    go_wp2_with (first | ((with_reducible refine gate_builtin (b := .append) (xs := #[.tmp 66, .tmp 68]) rfl ?_); at_builtin; refine app_list rfl (.tmp 66) (.tmp 68) rfl rfl rfl HR4.out ?_))
    go_ret
    refine ⟨rfl, RmS.of (vb' := .slice A8 n c8) (va' := .slice A2 q c2) (vw' := .slice A4 (wl + 1) c4) HI.out (HK4.out.trans (Kp.set w10 ⟨g, 8, none⟩ (.slice A4 (wl + 1) c4)) (fun k hk => .inl (by rw [hk]; exact HI.out.fg))) ?_ ?_ ?_ ?_ ?_ (fun k hk => .inl (HI.out.fa k hk)) ?_⟩
    · simpa [rmA] using blk_set HZ4.out 8 (.slice A4 (wl + 1) c4)
    · exact HO4.out.move (fun k hk => Below.heap_setCell _ ⟨g, 8, none⟩ _ k (fun e => HO4.out.ne HZ4.out (by decide) (by rw [hk, e])))
    · exact HA4.out.move (fun k hk => Below.heap_setCell _ ⟨g, 8, none⟩ _ k (fun e => HI.out.a_ne (by rw [hk, e])))
    · exact HW4.out.move (fun k hk => Below.heap_setCell _ ⟨g, 8, none⟩ _ k (fun e => HW4.out.ne HZ4.out (by decide) (by rw [hk, e])))
    · intro k hk
      refine .inr ⟨HGE.out k hk, ?_⟩
      have := HO4.out.lt hk
      simpa using this
    · intro k hk
      have hlt := HW4.out.lt hk
      rcases HAT.out with h | ⟨b', h, hb'⟩
      · exact .inl (HI.out.fw k (by rw [← h]; exact hk))
      · rw [h] at hk; injection hk with hk
        subst hk
        exact .inr ⟨Nat.le_trans HK9.out.size hb', by simpa using hlt⟩
  · have hws := HWS.out
    rw [if_neg c1] at hws
    subst hws
    go_wp2_with fail
    go_ret
    exact ⟨rfl, RmS.of (vb' := .slice A8 n c8) (va' := .slice A2 q c2) (vw' := vw) HI.out HK9.out HZ9.out HO9.out HA9.out HW9.out (fun k hk => .inr ⟨HGE.out k hk, HO9.out.lt hk⟩) (fun k hk => .inl (HI.out.fa k hk)) (fun k hk => .inl (HI.out.fw k hk))⟩
set_option maxHeartbeats 8000000 in
set_option maxRecDepth 100000 in
theorem RPut_file (g base : Nat) (H : Hd) (B Was : List Int) (lim : Int) (ws : List Int) (F : Nat → Prop) (vb va vw : Value) (w : World) (hI : Rm w g base H B Was lim ws F vb va vw) (kd : Int) (ws_ raw it : List Int) (A1 A2 A3 : Option Addr) (c1 c2 c3 : Nat) (h1 : Rd w .u64 (.slice A1 ws_.length c1) ws_) (h2 : Rd w .u8 (.slice A2 raw.length c2) raw) (h3 : Rd w .u64 (.slice A3 it.length c3) it) (k1 : isW ws_) (k2 : isB raw) (k3 : isW it) (hr : oR kd ws_.length raw.length it.length = true) (n N : Nat) (hn : B.length = n) (hN : (objZ kd ws_ raw it).length = N) (hl : n ≤ 100000) (hlim : 0 ≤ lim ∧ lim ≤ 1048576) (hfit : lim - n < (N : Int)) : Calls Try.prog 122 #[.pointer (some ⟨g, 0, none⟩), .agg #[.int .i64 kd, .slice A1 ws_.length c1, .slice A2 raw.length c2, .slice A3 it.length c3]] w fun e w' => e = .returned (.tuple #[.int .i64 0, .int .i64 21]) ∧ Below w.heap.size w w' := by
  obtain ⟨q1, q2, q3, n1, n2, n3⟩ := oR_of hr
  have hNb : N ≤ 20000 := by
    have := objB_len kd ws_ raw it
    have h2 : padN ((objB kd ws_ raw it).length : Int) 8 ≤ 8 := by unfold padN; split <;> omega
    rw [← hN, objZ, List.length_append, List.length_replicate]; omega
  have hN0 : 0 < N := by
    have := objB_len kd ws_ raw it
    rw [← hN, objZ, List.length_append]; omega
  have CE := Aside0.mk (fun (w1 : World) (hb : Below w.heap.size w w1) => ref_oEncode_yes kd ws_ raw it A1 A2 A3 c1 c2 c3 w1 (h1.below hb) (h2.below hb) (h3.below hb) k1 k2 k3 hr)
  have HN := Aside0.mk hn
  have HNN := Aside0.mk hN
  obtain ⟨A0, c0, ev, hn0, _⟩ := hI.b.sl hn
  subst ev
  have HI := Aside0.mk hI
  have hs0 : n + N ≤ 1000000 := by omega
  have hgt : ((n : Int) + (N : Int) > lim) = True := by simp; omega
  have hgt2 : decide (lim < (n : Int) + (N : Int)) = true := by exact decide_eq_true (by omega)
  have HAD := Aside0.mk (show IntKind.i64.wrap ((n : Int) + (N : Int)) = (n : Int) + (N : Int) ∧ wrap64 ((n : Int) + (N : Int)) = (n : Int) + (N : Int) from ⟨by rw [IntKind.wrap_i64]; omega, by simp only [wrap64]; omega⟩)
  have hN0' : ((N : Int) == 0) = false := by rw [beq_eq_false_iff_ne]; omega
  clear h1 h2 h3 k1 k2 k3 hr hn hN hI
  go_enter Try.func122, Try.ntmps122
  go_wp2_with fail
  refine (CE.out _ (below_alloc (Below.refl _ _) _)).mono ?_
  rintro e w1 ⟨v1, rfl, ho1, hb⟩
  have HR1 := Aside0.mk (Own.rd ho1)
  have HB := Aside0.mk (below_step (below_alloc (Below.refl w.heap.size w) _) hb)
  have HI1 := Aside0.mk (HI.out.below HB.out)
  obtain ⟨Ax, cx, ev, _, _⟩ := (OwnO.of_own ho1).sl HNN.out
  subst ev
  clear hb ho1
  have r0 : (w1).cell? ⟨g, 0, none⟩ = some (.int .u64 H.id) := blk_cell HI1.out.blk 0
  have r1 : (w1).cell? ⟨g, 1, none⟩ = some (.int .u64 H.key) := blk_cell HI1.out.blk 1
  have r2 : (w1).cell? ⟨g, 2, none⟩ = some (.int .i64 H.data) := blk_cell HI1.out.blk 2
  have r3 : (w1).cell? ⟨g, 3, none⟩ = some (.int .i64 H.fields) := blk_cell HI1.out.blk 3
  have r4 : (w1).cell? ⟨g, 4, none⟩ = some (.int .u64 H.made) := blk_cell HI1.out.blk 4
  have r5 : (w1).cell? ⟨g, 5, none⟩ = some ((.slice A0 n c0)) := blk_cell HI1.out.blk 5
  have r6 : (w1).cell? ⟨g, 6, none⟩ = some (va) := blk_cell HI1.out.blk 6
  have r7 : (w1).cell? ⟨g, 7, none⟩ = some (.int .i64 lim) := blk_cell HI1.out.blk 7
  have r8 : (w1).cell? ⟨g, 8, none⟩ = some (vw) := blk_cell HI1.out.blk 8
  go_upto_region 4 with fail
  obtain ⟨had, had2⟩ := HAD.out
  refine start_ (n := 13) (S := fun w' => w'.cell? ⟨g, 5, none⟩ = some ((.slice A0 n c0)) ∧ w'.cell? ⟨g, 7, none⟩ = some (.int .i64 lim)) (ds := []) #[false,false,false,false,false,false,false,false,false,false,false,false,false] (by kernel_rfl) rfl rfl ⟨r5, r7⟩ (fun hHeld => ?_)
  refine pure_ (i := 0) (N := some 13) (v := ?_) (a' := ?_) #[true,false,false,false,false,false,false,false,false,false,false,false,false] rfl rfl (by kernel_rfl) (fun _ _ _ h => h) (Or.inl ⟨by rfl, ?_⟩) ?_ ?_
  rotate_left
  · intro w'
    go_simp
    with_reducible rfl
  rotate_left
  · simp only [Act.put, List.setIfInBounds_toArray, List.set_cons_zero, List.set_cons_succ, i64_w, i32_w]
    rfl
  refine pure_ (i := 1) (N := some 14) (v := ?_) (a' := ?_) #[true,true,false,false,false,false,false,false,false,false,false,false,false] rfl rfl (by kernel_rfl) (fun _ _ _ h => h) (Or.inl ⟨by rfl, ?_⟩) ?_ ?_
  rotate_left
  · intro w'
    go_simp
    with_reducible rfl
  rotate_left
  · simp only [Act.put, List.setIfInBounds_toArray, List.set_cons_zero, List.set_cons_succ, i64_w, i32_w]
    rfl
  refine pure_ (i := 2) (N := some 15) (v := ?_) (a' := ?_) #[true,true,true,false,false,false,false,false,false,false,false,false,false] rfl rfl (by kernel_rfl) (fun _ _ _ h => h) (Or.inl ⟨by rfl, ?_⟩) ?_ ?_
  rotate_left
  · intro w'
    go_simp
    with_reducible rfl
  rotate_left
  · simp only [Act.put, List.setIfInBounds_toArray, List.set_cons_zero, List.set_cons_succ, i64_w, i32_w]
    rfl
  refine pure_ (i := 5) (N := some 18) (v := ?_) (a' := ?_) #[true,true,true,false,false,true,false,false,false,false,false,false,false] rfl rfl (by kernel_rfl) (fun _ _ _ h => h) (Or.inl ⟨by rfl, ?_⟩) ?_ ?_
  rotate_left
  · intro w'
    go_simp
    with_reducible rfl
  rotate_left
  · simp only [Act.put, List.setIfInBounds_toArray, List.set_cons_zero, List.set_cons_succ, i64_w, i32_w]
    rfl
  refine pure_ (i := 6) (N := some 19) (v := ?_) (a' := ?_) #[true,true,true,false,false,true,true,false,false,false,false,false,false] rfl rfl (by kernel_rfl) (fun _ _ _ h => h) (Or.inl ⟨by rfl, ?_⟩) ?_ ?_
  rotate_left
  · intro w'
    go_simp
    with_reducible rfl
  rotate_left
  · simp only [Act.put, List.setIfInBounds_toArray, List.set_cons_zero, List.set_cons_succ, i64_w, i32_w]
    rfl
  refine pure_ (i := 8) (N := some 21) (v := ?_) (a' := ?_) #[true,true,true,false,false,true,true,false,true,false,false,false,false] rfl rfl (by kernel_rfl) (fun _ _ _ h => h) (Or.inl ⟨by rfl, ?_⟩) ?_ ?_
  rotate_left
  · intro w'
    go_simp
    with_reducible rfl
  rotate_left
  · simp only [Act.put, List.setIfInBounds_toArray, List.set_cons_zero, List.set_cons_succ, i64_w, i32_w]
    rfl
  refine pure_ (i := 9) (N := some 22) (v := ?_) (a' := ?_) #[true,true,true,false,false,true,true,false,true,true,false,false,false] rfl rfl (by kernel_rfl) (fun _ _ _ h => h) (Or.inl ⟨by rfl, ?_⟩) ?_ ?_
  rotate_left
  · intro w'
    go_simp
    with_reducible rfl
  rotate_left
  · simp only [Act.put, List.setIfInBounds_toArray, List.set_cons_zero, List.set_cons_succ, i64_w, i32_w]
    rfl
  refine pure_ (i := 10) (N := some 23) (v := ?_) (a' := ?_) #[true,true,true,false,false,true,true,false,true,true,true,false,false] rfl rfl (by kernel_rfl) (fun _ _ _ h => h) (Or.inl ⟨by rfl, ?_⟩) ?_ ?_
  rotate_left
  · intro w'
    go_simp
    with_reducible rfl
  rotate_left
  · simp only [Act.put, List.setIfInBounds_toArray, List.set_cons_zero, List.set_cons_succ, i64_w, i32_w]
    rfl
  refine take_ (i := 3) (N := some 16) (v := ?_) (a' := ?_) #[true,true,true,true,false,true,true,false,true,true,true,false,false] rfl rfl (by kernel_rfl) (fun _ _ _ h => h) (Or.inl ⟨by rfl, ?_⟩) hHeld ?_ ?_
  rotate_left
  · rintro w' ⟨s0, s1⟩
    go_simp
    with_reducible rfl
  rotate_left
  · simp only [Act.put, List.setIfInBounds_toArray, List.set_cons_zero, List.set_cons_succ, i64_w, i32_w]
    rfl
  refine pure_ (i := 4) (N := some 17) (v := ?_) (a' := ?_) #[true,true,true,true,true,true,true,false,true,true,true,false,false] rfl rfl (by kernel_rfl) (fun _ _ _ h => h) (Or.inl ⟨by rfl, ?_⟩) ?_ ?_
  rotate_left
  · intro w'
    go_simp
    with_reducible rfl
  rotate_left
  · simp only [Act.put, List.setIfInBounds_toArray, List.set_cons_zero, List.set_cons_succ, i64_w, i32_w]
    rfl
  refine pure_ (i := 7) (N := some 20) (v := ?_) (a' := ?_) #[true,true,true,true,true,true,true,true,true,true,true,false,false] rfl rfl (by kernel_rfl) (fun _ _ _ h => h) (Or.inl ⟨by rfl, ?_⟩) ?_ ?_
  rotate_left
  · intro w'
    go_simp
    with_reducible rfl
  rotate_left
  · simp only [Act.put, List.setIfInBounds_toArray, List.set_cons_zero, List.set_cons_succ, i64_w, i32_w]
    rfl
  refine take_ (i := 11) (N := some 24) (v := ?_) (a' := ?_) #[true,true,true,true,true,true,true,true,true,true,true,true,false] rfl rfl (by kernel_rfl) (fun _ _ _ h => h) (Or.inl ⟨by rfl, ?_⟩) hHeld ?_ ?_
  rotate_left
  · rintro w' ⟨s0, s1⟩
    go_simp
    with_reducible rfl
  rotate_left
  · simp only [Act.put, List.setIfInBounds_toArray, List.set_cons_zero, List.set_cons_succ, i64_w, i32_w]
    rfl
  refine pure_ (i := 12) (N := some 25) (v := ?_) (a' := ?_) #[true,true,true,true,true,true,true,true,true,true,true,true,true] rfl rfl (by kernel_rfl) (fun _ _ _ h => h) (Or.inl ⟨by rfl, ?_⟩) ?_ ?_
  rotate_left
  · intro w'
    go_simp
    with_reducible rfl
  rotate_left
  · simp only [Act.put, List.setIfInBounds_toArray, List.set_cons_zero, List.set_cons_succ, i64_w, i32_w]
    rfl
  refine done_ (by kernel_rfl) ?_
  clear had had2 r0 r1 r2 r3 r4 r5 r6 r7 r8
  replace HB := Aside0.mk (below_drew HB.out)
  replace HI1 := Aside0.mk (HI1.out.below (below_drew (Below.refl _ _)))
  replace HR1 := Aside0.mk (HR1.out.below (below_drew (Below.refl _ _)))
  obtain ⟨w2, hw2⟩ : ∃ W, w1.drew = W := ⟨_, rfl⟩
  rw [hw2] at HB HI1 HR1 ⊢
  clear hw2
  go_wp2_with fail
  go_ret2
  exact ⟨rfl, HB.out⟩
set_option maxHeartbeats 8000000 in
set_option maxRecDepth 100000 in
theorem RPut_yes (g base : Nat) (H : Hd) (B Was : List Int) (lim : Int) (ws : List Int) (F : Nat → Prop) (vb va vw : Value) (w : World) (hI : Rm w g base H B Was lim ws F vb va vw) (kd : Int) (ws_ raw it : List Int) (A1 A2 A3 : Option Addr) (c1 c2 c3 : Nat) (h1 : Rd w .u64 (.slice A1 ws_.length c1) ws_) (h2 : Rd w .u8 (.slice A2 raw.length c2) raw) (h3 : Rd w .u64 (.slice A3 it.length c3) it) (k1 : isW ws_) (k2 : isB raw) (k3 : isW it) (hr : oR kd ws_.length raw.length it.length = true) (n N : Nat) (hn : B.length = n) (hN : (objZ kd ws_ raw it).length = N) (hl : n ≤ 100000) (hlim : 0 ≤ lim ∧ lim ≤ 1048576) (hfit : (N : Int) ≤ lim - n) : Calls Try.prog 122 #[.pointer (some ⟨g, 0, none⟩), .agg #[.int .i64 kd, .slice A1 ws_.length c1, .slice A2 raw.length c2, .slice A3 it.length c3]] w fun e w' => e = .returned (.tuple #[.int .i64 (n : Int), .int .i64 0]) ∧ RmS w w' g base H (B ++ objZ kd ws_ raw it) Was lim ws F := by
  obtain ⟨q1, q2, q3, n1, n2, n3⟩ := oR_of hr
  have hNb : N ≤ 20000 := by
    have := objB_len kd ws_ raw it
    have h2 : padN ((objB kd ws_ raw it).length : Int) 8 ≤ 8 := by unfold padN; split <;> omega
    rw [← hN, objZ, List.length_append, List.length_replicate]; omega
  have hN0 : 0 < N := by
    have := objB_len kd ws_ raw it
    rw [← hN, objZ, List.length_append]; omega
  have CE := Aside0.mk (fun (w1 : World) (hb : Below w.heap.size w w1) => ref_oEncode_yes kd ws_ raw it A1 A2 A3 c1 c2 c3 w1 (h1.below hb) (h2.below hb) (h3.below hb) k1 k2 k3 hr)
  have HN := Aside0.mk hn
  have HNN := Aside0.mk hN
  obtain ⟨A0, c0, ev, hn0, _⟩ := hI.b.sl hn
  subst ev
  have HI := Aside0.mk hI
  have hs0 : n + N ≤ 1000000 := by omega
  have hgt : ((n : Int) + (N : Int) > lim) = False := by simp; omega
  have hgt2 : decide (lim < (n : Int) + (N : Int)) = false := by rw [decide_eq_false]; omega
  have HAD := Aside0.mk (show IntKind.i64.wrap ((n : Int) + (N : Int)) = (n : Int) + (N : Int) ∧ wrap64 ((n : Int) + (N : Int)) = (n : Int) + (N : Int) from ⟨by rw [IntKind.wrap_i64]; omega, by simp only [wrap64]; omega⟩)
  have hN0' : ((N : Int) == 0) = false := by rw [beq_eq_false_iff_ne]; omega
  clear h1 h2 h3 k1 k2 k3 hr hn hN hI
  go_enter Try.func122, Try.ntmps122
  go_wp2_with fail
  refine (CE.out _ (below_alloc (Below.refl _ _) _)).mono ?_
  rintro e w1 ⟨v1, rfl, ho1, hb⟩
  have HR1 := Aside0.mk (Own.rd ho1)
  have HB := Aside0.mk (below_step (below_alloc (Below.refl w.heap.size w) _) hb)
  have HI1 := Aside0.mk (HI.out.below HB.out)
  obtain ⟨Ax, cx, ev, _, _⟩ := (OwnO.of_own ho1).sl HNN.out
  subst ev
  clear hb ho1
  have r0 : (w1).cell? ⟨g, 0, none⟩ = some (.int .u64 H.id) := blk_cell HI1.out.blk 0
  have r1 : (w1).cell? ⟨g, 1, none⟩ = some (.int .u64 H.key) := blk_cell HI1.out.blk 1
  have r2 : (w1).cell? ⟨g, 2, none⟩ = some (.int .i64 H.data) := blk_cell HI1.out.blk 2
  have r3 : (w1).cell? ⟨g, 3, none⟩ = some (.int .i64 H.fields) := blk_cell HI1.out.blk 3
  have r4 : (w1).cell? ⟨g, 4, none⟩ = some (.int .u64 H.made) := blk_cell HI1.out.blk 4
  have r5 : (w1).cell? ⟨g, 5, none⟩ = some ((.slice A0 n c0)) := blk_cell HI1.out.blk 5
  have r6 : (w1).cell? ⟨g, 6, none⟩ = some (va) := blk_cell HI1.out.blk 6
  have r7 : (w1).cell? ⟨g, 7, none⟩ = some (.int .i64 lim) := blk_cell HI1.out.blk 7
  have r8 : (w1).cell? ⟨g, 8, none⟩ = some (vw) := blk_cell HI1.out.blk 8
  go_upto_region 4 with fail
  obtain ⟨had, had2⟩ := HAD.out
  refine start_ (n := 13) (S := fun w' => w'.cell? ⟨g, 5, none⟩ = some ((.slice A0 n c0)) ∧ w'.cell? ⟨g, 7, none⟩ = some (.int .i64 lim)) (ds := []) #[false,false,false,false,false,false,false,false,false,false,false,false,false] (by kernel_rfl) rfl rfl ⟨r5, r7⟩ (fun hHeld => ?_)
  refine pure_ (i := 0) (N := some 13) (v := ?_) (a' := ?_) #[true,false,false,false,false,false,false,false,false,false,false,false,false] rfl rfl (by kernel_rfl) (fun _ _ _ h => h) (Or.inl ⟨by rfl, ?_⟩) ?_ ?_
  rotate_left
  · intro w'
    go_simp
    with_reducible rfl
  rotate_left
  · simp only [Act.put, List.setIfInBounds_toArray, List.set_cons_zero, List.set_cons_succ, i64_w, i32_w]
    rfl
  refine pure_ (i := 1) (N := some 14) (v := ?_) (a' := ?_) #[true,true,false,false,false,false,false,false,false,false,false,false,false] rfl rfl (by kernel_rfl) (fun _ _ _ h => h) (Or.inl ⟨by rfl, ?_⟩) ?_ ?_
  rotate_left
  · intro w'
    go_simp
    with_reducible rfl
  rotate_left
  · simp only [Act.put, List.setIfInBounds_toArray, List.set_cons_zero, List.set_cons_succ, i64_w, i32_w]
    rfl
  refine pure_ (i := 2) (N := some 15) (v := ?_) (a' := ?_) #[true,true,true,false,false,false,false,false,false,false,false,false,false] rfl rfl (by kernel_rfl) (fun _ _ _ h => h) (Or.inl ⟨by rfl, ?_⟩) ?_ ?_
  rotate_left
  · intro w'
    go_simp
    with_reducible rfl
  rotate_left
  · simp only [Act.put, List.setIfInBounds_toArray, List.set_cons_zero, List.set_cons_succ, i64_w, i32_w]
    rfl
  refine pure_ (i := 5) (N := some 18) (v := ?_) (a' := ?_) #[true,true,true,false,false,true,false,false,false,false,false,false,false] rfl rfl (by kernel_rfl) (fun _ _ _ h => h) (Or.inl ⟨by rfl, ?_⟩) ?_ ?_
  rotate_left
  · intro w'
    go_simp
    with_reducible rfl
  rotate_left
  · simp only [Act.put, List.setIfInBounds_toArray, List.set_cons_zero, List.set_cons_succ, i64_w, i32_w]
    rfl
  refine pure_ (i := 6) (N := some 19) (v := ?_) (a' := ?_) #[true,true,true,false,false,true,true,false,false,false,false,false,false] rfl rfl (by kernel_rfl) (fun _ _ _ h => h) (Or.inl ⟨by rfl, ?_⟩) ?_ ?_
  rotate_left
  · intro w'
    go_simp
    with_reducible rfl
  rotate_left
  · simp only [Act.put, List.setIfInBounds_toArray, List.set_cons_zero, List.set_cons_succ, i64_w, i32_w]
    rfl
  refine pure_ (i := 8) (N := some 21) (v := ?_) (a' := ?_) #[true,true,true,false,false,true,true,false,true,false,false,false,false] rfl rfl (by kernel_rfl) (fun _ _ _ h => h) (Or.inl ⟨by rfl, ?_⟩) ?_ ?_
  rotate_left
  · intro w'
    go_simp
    with_reducible rfl
  rotate_left
  · simp only [Act.put, List.setIfInBounds_toArray, List.set_cons_zero, List.set_cons_succ, i64_w, i32_w]
    rfl
  refine pure_ (i := 9) (N := some 22) (v := ?_) (a' := ?_) #[true,true,true,false,false,true,true,false,true,true,false,false,false] rfl rfl (by kernel_rfl) (fun _ _ _ h => h) (Or.inl ⟨by rfl, ?_⟩) ?_ ?_
  rotate_left
  · intro w'
    go_simp
    with_reducible rfl
  rotate_left
  · simp only [Act.put, List.setIfInBounds_toArray, List.set_cons_zero, List.set_cons_succ, i64_w, i32_w]
    rfl
  refine pure_ (i := 10) (N := some 23) (v := ?_) (a' := ?_) #[true,true,true,false,false,true,true,false,true,true,true,false,false] rfl rfl (by kernel_rfl) (fun _ _ _ h => h) (Or.inl ⟨by rfl, ?_⟩) ?_ ?_
  rotate_left
  · intro w'
    go_simp
    with_reducible rfl
  rotate_left
  · simp only [Act.put, List.setIfInBounds_toArray, List.set_cons_zero, List.set_cons_succ, i64_w, i32_w]
    rfl
  refine take_ (i := 3) (N := some 16) (v := ?_) (a' := ?_) #[true,true,true,true,false,true,true,false,true,true,true,false,false] rfl rfl (by kernel_rfl) (fun _ _ _ h => h) (Or.inl ⟨by rfl, ?_⟩) hHeld ?_ ?_
  rotate_left
  · rintro w' ⟨s0, s1⟩
    go_simp
    with_reducible rfl
  rotate_left
  · simp only [Act.put, List.setIfInBounds_toArray, List.set_cons_zero, List.set_cons_succ, i64_w, i32_w]
    rfl
  refine pure_ (i := 4) (N := some 17) (v := ?_) (a' := ?_) #[true,true,true,true,true,true,true,false,true,true,true,false,false] rfl rfl (by kernel_rfl) (fun _ _ _ h => h) (Or.inl ⟨by rfl, ?_⟩) ?_ ?_
  rotate_left
  · intro w'
    go_simp
    with_reducible rfl
  rotate_left
  · simp only [Act.put, List.setIfInBounds_toArray, List.set_cons_zero, List.set_cons_succ, i64_w, i32_w]
    rfl
  refine pure_ (i := 7) (N := some 20) (v := ?_) (a' := ?_) #[true,true,true,true,true,true,true,true,true,true,true,false,false] rfl rfl (by kernel_rfl) (fun _ _ _ h => h) (Or.inl ⟨by rfl, ?_⟩) ?_ ?_
  rotate_left
  · intro w'
    go_simp
    with_reducible rfl
  rotate_left
  · simp only [Act.put, List.setIfInBounds_toArray, List.set_cons_zero, List.set_cons_succ, i64_w, i32_w]
    rfl
  refine take_ (i := 11) (N := some 24) (v := ?_) (a' := ?_) #[true,true,true,true,true,true,true,true,true,true,true,true,false] rfl rfl (by kernel_rfl) (fun _ _ _ h => h) (Or.inl ⟨by rfl, ?_⟩) hHeld ?_ ?_
  rotate_left
  · rintro w' ⟨s0, s1⟩
    go_simp
    with_reducible rfl
  rotate_left
  · simp only [Act.put, List.setIfInBounds_toArray, List.set_cons_zero, List.set_cons_succ, i64_w, i32_w]
    rfl
  refine pure_ (i := 12) (N := some 25) (v := ?_) (a' := ?_) #[true,true,true,true,true,true,true,true,true,true,true,true,true] rfl rfl (by kernel_rfl) (fun _ _ _ h => h) (Or.inl ⟨by rfl, ?_⟩) ?_ ?_
  rotate_left
  · intro w'
    go_simp
    with_reducible rfl
  rotate_left
  · simp only [Act.put, List.setIfInBounds_toArray, List.set_cons_zero, List.set_cons_succ, i64_w, i32_w]
    rfl
  refine done_ (by kernel_rfl) ?_
  clear had had2 r0 r1 r2 r3 r4 r5 r6 r7 r8
  replace HB := Aside0.mk (below_drew HB.out)
  replace HI1 := Aside0.mk (HI1.out.below (below_drew (Below.refl _ _)))
  replace HR1 := Aside0.mk (HR1.out.below (below_drew (Below.refl _ _)))
  obtain ⟨w2, hw2⟩ : ∃ W, w1.drew = W := ⟨_, rfl⟩
  rw [hw2] at HB HI1 HR1 ⊢
  clear hw2
  obtain ⟨A4, c4, w4, hr4, ho4, hb4⟩ := copy_row HI1.out.b.rd HN.out (by omega)
  obtain ⟨A5, c5, w5, hr5, ho5, hk5⟩ := app_row ho4 (HR1.out.below hb4) HN.out HNN.out hb4.size hs0
  have hb5 := Kp.from hb4 hk5 (fun b hb => ho4.ge hb)
  have HR4 := Aside0.mk hr4
  have HR5 := Aside0.mk hr5
  have HB5 := Aside0.mk (below_step HB.out hb5)
  have HI5 := Aside0.mk (HI1.out.below hb5)
  have HO5 := Aside0.mk (ho5.ge_ (show base ≤ _ from Nat.le_trans HI.out.bs HB.out.size))
  have HGE := Aside0.mk (fun k hk => Nat.le_trans HB.out.size (ho5.ge (k := k) hk))
  clear hr4 ho4 hb4 hr5 ho5 hk5 hb5 HR1
  have r0 : (w2).cell? ⟨g, 0, none⟩ = some (.int .u64 H.id) := blk_cell HI1.out.blk 0
  have r1 : (w2).cell? ⟨g, 1, none⟩ = some (.int .u64 H.key) := blk_cell HI1.out.blk 1
  have r2 : (w2).cell? ⟨g, 2, none⟩ = some (.int .i64 H.data) := blk_cell HI1.out.blk 2
  have r3 : (w2).cell? ⟨g, 3, none⟩ = some (.int .i64 H.fields) := blk_cell HI1.out.blk 3
  have r4 : (w2).cell? ⟨g, 4, none⟩ = some (.int .u64 H.made) := blk_cell HI1.out.blk 4
  have r5 : (w2).cell? ⟨g, 5, none⟩ = some ((.slice A0 n c0)) := blk_cell HI1.out.blk 5
  have r6 : (w2).cell? ⟨g, 6, none⟩ = some (va) := blk_cell HI1.out.blk 6
  have r7 : (w2).cell? ⟨g, 7, none⟩ = some (.int .i64 lim) := blk_cell HI1.out.blk 7
  have r8 : (w2).cell? ⟨g, 8, none⟩ = some (vw) := blk_cell HI1.out.blk 8
  have t0 : (w2.alloc (.cells #[] 5)).cell? ⟨g, 0, none⟩ = some (.int .u64 H.id) := blk_cell (blk_alloc HI1.out.blk (.cells #[] 5)) 0
  have t1 : (w2.alloc (.cells #[] 5)).cell? ⟨g, 1, none⟩ = some (.int .u64 H.key) := blk_cell (blk_alloc HI1.out.blk (.cells #[] 5)) 1
  have t2 : (w2.alloc (.cells #[] 5)).cell? ⟨g, 2, none⟩ = some (.int .i64 H.data) := blk_cell (blk_alloc HI1.out.blk (.cells #[] 5)) 2
  have t3 : (w2.alloc (.cells #[] 5)).cell? ⟨g, 3, none⟩ = some (.int .i64 H.fields) := blk_cell (blk_alloc HI1.out.blk (.cells #[] 5)) 3
  have t4 : (w2.alloc (.cells #[] 5)).cell? ⟨g, 4, none⟩ = some (.int .u64 H.made) := blk_cell (blk_alloc HI1.out.blk (.cells #[] 5)) 4
  have t5 : (w2.alloc (.cells #[] 5)).cell? ⟨g, 5, none⟩ = some ((.slice A0 n c0)) := blk_cell (blk_alloc HI1.out.blk (.cells #[] 5)) 5
  have t6 : (w2.alloc (.cells #[] 5)).cell? ⟨g, 6, none⟩ = some (va) := blk_cell (blk_alloc HI1.out.blk (.cells #[] 5)) 6
  have t7 : (w2.alloc (.cells #[] 5)).cell? ⟨g, 7, none⟩ = some (.int .i64 lim) := blk_cell (blk_alloc HI1.out.blk (.cells #[] 5)) 7
  have t8 : (w2.alloc (.cells #[] 5)).cell? ⟨g, 8, none⟩ = some (vw) := blk_cell (blk_alloc HI1.out.blk (.cells #[] 5)) 8
  have s0 : (w5).cell? ⟨g, 0, none⟩ = some (.int .u64 H.id) := blk_cell HI5.out.blk 0
  have s1 : (w5).cell? ⟨g, 1, none⟩ = some (.int .u64 H.key) := blk_cell HI5.out.blk 1
  have s2 : (w5).cell? ⟨g, 2, none⟩ = some (.int .i64 H.data) := blk_cell HI5.out.blk 2
  have s3 : (w5).cell? ⟨g, 3, none⟩ = some (.int .i64 H.fields) := blk_cell HI5.out.blk 3
  have s4 : (w5).cell? ⟨g, 4, none⟩ = some (.int .u64 H.made) := blk_cell HI5.out.blk 4
  have s5 : (w5).cell? ⟨g, 5, none⟩ = some ((.slice A0 n c0)) := blk_cell HI5.out.blk 5
  have s6 : (w5).cell? ⟨g, 6, none⟩ = some (va) := blk_cell HI5.out.blk 6
  have s7 : (w5).cell? ⟨g, 7, none⟩ = some (.int .i64 lim) := blk_cell HI5.out.blk 7
  have s8 : (w5).cell? ⟨g, 8, none⟩ = some (vw) := blk_cell HI5.out.blk 8
  have f0 := blk_frozen HI5.out.blk 0
  have f1 := blk_frozen HI5.out.blk 1
  have f2 := blk_frozen HI5.out.blk 2
  have f3 := blk_frozen HI5.out.blk 3
  have f4 := blk_frozen HI5.out.blk 4
  have f5 := blk_frozen HI5.out.blk 5
  have f6 := blk_frozen HI5.out.blk 6
  have f7 := blk_frozen HI5.out.blk 7
  have f8 := blk_frozen HI5.out.blk 8
  go_wp2_with (first | ((with_reducible refine gate_builtin (b := .append) (xs := #[.tmp 32, .tmp 36]) rfl ?_); at_builtin; refine app_list rfl (.tmp 32) (.tmp 36) rfl rfl rfl HR4.out ?_) | ((with_reducible refine gate_builtin (b := .append) (xs := #[.tmp 37, .tmp 38]) rfl ?_); at_builtin; refine app_list rfl (.tmp 37) (.tmp 38) rfl rfl rfl HR5.out ?_))
  go_ret2
  have far : ∀ k, k ≠ g → (w5.setCell ⟨g, 5, none⟩ (.slice A5 (n + N) c5)).heap[k]? = w5.heap[k]? := fun k h => Below.heap_setCell _ ⟨g, 5, none⟩ _ k h
  refine ⟨rfl, RmS.of (vb' := .slice A5 (n + N) c5) (va' := va) (vw' := vw) HI.out ((Kp.of_below HB5.out F).trans (Kp.set w5 ⟨g, 5, none⟩ _) (fun k hk => .inl (by rw [hk]; exact HI.out.fg))) ?_ ?_ ?_ ?_ (fun k hk => .inr ⟨HGE.out k hk, by have := HO5.out.lt hk; simpa using this⟩) (fun k hk => .inl (HI.out.fa k hk)) (fun k hk => .inl (HI.out.fw k hk))⟩
  · simpa [rmA] using blk_set HI5.out.blk 5 (.slice A5 (n + N) c5)
  · exact HO5.out.move (fun k hk => far k (fun e => HO5.out.ne HI5.out.blk (by decide) (by rw [hk, e])))
  · exact HI5.out.a.move (fun k hk => far k (fun e => HI5.out.a_ne (by rw [hk, e])))
  · exact HI5.out.w.move (fun k hk => far k (fun e => HI5.out.w_ne (by rw [hk, e])))
set_option maxHeartbeats 8000000 in
set_option maxRecDepth 100000 in
theorem RPut_arg (g base : Nat) (H : Hd) (B Was : List Int) (lim : Int) (ws : List Int) (F : Nat → Prop) (vb va vw : Value) (w : World) (hI : Rm w g base H B Was lim ws F vb va vw) (kd : Int) (nW nR nI : Nat) (A1 A2 A3 : Option Addr) (c1 c2 c3 : Nat) (b1 : nW ≤ 100000) (b2 : nR ≤ 100000) (b3 : nI ≤ 100000) (hr : oR kd nW nR nI = false) : Calls Try.prog 122 #[.pointer (some ⟨g, 0, none⟩), .agg #[.int .i64 kd, .slice A1 nW c1, .slice A2 nR c2, .slice A3 nI c3]] w fun e w' => e = .returned (.tuple #[.int .i64 0, .int .i64 1]) ∧ Below w.heap.size w w' := by
  have CE := Aside0.mk (fun (w1 : World) => ref_oEncode_no kd nW nR nI A1 A2 A3 c1 c2 c3 w1 (by omega) (by omega) (by omega) hr)
  clear hI hr
  go_enter Try.func122, Try.ntmps122
  go_wp2_with fail
  refine (CE.out _).mono ?_
  rintro e w1 ⟨rfl, hb⟩
  have HB := Aside0.mk (below_step (below_alloc (Below.refl w.heap.size w) _) hb)
  clear hb
  go_wp2_with fail
  go_ret2
  exact ⟨rfl, HB.out⟩
end Go.Proofs.Ytigdchfjcfljjaa
end
section
/- The document's image: Load, New, Object. -/
namespace Go.Proofs.Ytigdchfjcfljjaa
open Go.RowKit Go.Proofs.YtigdchfjcfljjaaW.PrintWords Go.Proofs.YtigdchfjcfljjaaW.PrintLast Go.Proofs.YtigdchfjcfljjaaW.PrintMore
attribute [local go_sem] max2_int min2_int max_two min_two max_three min_three max_four min_four
theorem blk_new1 (W : World) (o : Obj) : ((W.alloc o).alloc o).heap[W.heap.size + 1]? = some o := by have := blk_new (W.alloc o) o; simpa using this
theorem own_empty1 (W : World) (base : Nat) (h : base ≤ W.heap.size) : OwnO (Value.int .u8) ((W.alloc (.cells #[] 5)).alloc (.cells #[] 5)) base 5 (.slice (some ⟨W.heap.size + 1, 0, none⟩) 0 0) [] := by
  have := own_empty (W.alloc (.cells #[] 5)) base (by simp; omega)
  rwa [show (W.alloc (.cells #[] 5)).heap.size = W.heap.size + 1 by simp] at this
theorem own_emptyB {W : World} {s base : Nat} (h : W.heap[s]? = some (.cells #[] 5 (0, 0))) (hb : base ≤ s) : OwnO (Value.int .u8) W base 5 (.slice (some ⟨s, 0, none⟩) 0 0) [] :=
  .inr ⟨s, 0, 0, #[], rfl, hb, h, Nat.le_refl _, by omega, by simp, by simp [encs]⟩
/-- No bytes stand in an empty block. -/
theorem OwnO.no_empty {W : World} {base s : Nat} {v : Value} {xs : List Int} (h : OwnO (Value.int .u8) W base 5 v xs) (h0 : 0 < xs.length) (hs : W.heap[s]? = some (.cells #[] 5 (0, 0))) : v.ownBlock ≠ some s := fun hk => by
  rcases h with ⟨rfl, _⟩ | ⟨g, o, cap, cur, rfl, hb, hg, hn, hm, hsz, ht⟩
  · cases hk
  · rw [show g = s by injection hk, hs] at hg
    injection hg with hg
    injection hg with hg
    subst hg
    simp at hsz
    omega
theorem Rm.fresh {w w1 : World} {H : Hd} {B Was : List Int} {vb va : Value} (lim : Int) (ho : OwnO (Value.int .u8) w1 w.heap.size 5 vb B) (ha : OwnO (Value.int .u8) w1 w.heap.size 5 va Was) (hb : Below w.heap.size w w1) :
    Rm (w1.alloc (.cells (rmA H vb va lim (.slice none 0 0)) 85)) w1.heap.size w.heap.size H B Was lim [] (fun k => w.heap.size ≤ k ∧ k < (w1.alloc (.cells (rmA H vb va lim (.slice none 0 0)) 85)).heap.size) vb va (.slice none 0 0) := by
  refine ⟨blk_new _ _, ho.below (below_alloc (Below.refl _ _) _), ha.below (below_alloc (Below.refl _ _) _), OwnO.nil _ _ _ _, ⟨hb.size, by simp⟩, fun k hk => ⟨ho.ge hk, ?_⟩, fun k hk => ⟨ha.ge hk, ?_⟩, (fun k hk => by cases hk), fun k hk => hk⟩
  · have := ho.lt hk
    simp; omega
  · have := ha.lt hk
    simp; omega
set_option maxHeartbeats 8000000 in
set_option maxRecDepth 100000 in
theorem RLoad_yes (H : Hd) (A0 : Option Addr) (l : List Int) (n c0 : Nat) (lim : Int) (w : World) (hr : hR H.data H.fields = true) (hn : l.length = n) (hrd : Rd w .u8 (.slice A0 n c0) l) (hs : obN H ≤ (n : Int)) (hl : n ≤ 1000000) (hlim : lim ≤ 1048576) : Calls Try.prog 120 #[.agg #[.int .u64 H.id, .int .u64 H.key, .int .i64 H.data, .int .i64 H.fields, .int .u64 H.made], .slice A0 n c0, .int .i64 lim] w fun e w' => ∃ g, e = .returned (.pointer (some ⟨g, 0, none⟩)) ∧ (∃ vb va, Rm w' g w.heap.size H l l lim [] (fun k => w.heap.size ≤ k ∧ k < w'.heap.size) vb va (.slice none 0 0)) ∧ Below w.heap.size w w' := by
  obtain ⟨d0, d1, f0, f1⟩ := hR_of hr
  rw [obN] at hs
  have HR := Aside0.mk hr
  have HRD := Aside0.mk (fun (w1 : World) (hb : Below w.heap.size w w1) => hrd.below hb)
  have HN := Aside0.mk hn
  have hn0 : 0 < n := by omega
  have hl0 : 0 + n ≤ 1000000 := by omega
  have HNL := Aside0.mk (show 0 < l.length by omega)
  clear hr hn hrd
  go_enter Try.func120, Try.ntmps120
  go_wp2_with fail
  refine (ref_hRight_calls H.id H.key H.data H.fields H.made _).mono ?_
  rintro e w1 ⟨rfl, hb⟩
  have HZ := Aside0.mk (blk_below (blk_new w (.cells #[.int .u64 H.id, .int .u64 H.key, .int .i64 H.data, .int .i64 H.fields, .int .u64 H.made] 60)) hb)
  have HB := Aside0.mk (below_step (below_alloc (Below.refl w.heap.size w) (.cells #[.int .u64 H.id, .int .u64 H.key, .int .i64 H.data, .int .i64 H.fields, .int .u64 H.made] 60)) hb)
  rw [HR.out]
  clear hb
  have r0 : (w1).cell? ⟨w.heap.size, 0, none⟩ = some (.int .u64 H.id) := blk_cell HZ.out 0
  have r1 : (w1).cell? ⟨w.heap.size, 1, none⟩ = some (.int .u64 H.key) := blk_cell HZ.out 1
  have r2 : (w1).cell? ⟨w.heap.size, 2, none⟩ = some (.int .i64 H.data) := blk_cell HZ.out 2
  have r3 : (w1).cell? ⟨w.heap.size, 3, none⟩ = some (.int .i64 H.fields) := blk_cell HZ.out 3
  have r4 : (w1).cell? ⟨w.heap.size, 4, none⟩ = some (.int .u64 H.made) := blk_cell HZ.out 4
  go_wp2_with fail
  refine (ref_Objects_calls H.id H.key H.data H.fields H.made _ d0 d1 f0 f1).mono ?_
  rintro e w2 ⟨rfl, hb⟩
  replace HZ := Aside0.mk (blk_below HZ.out hb)
  replace HB := Aside0.mk (below_step HB.out hb)
  clear hb r0 r1 r2 r3 r4
  have r0 : (w2).cell? ⟨w.heap.size, 0, none⟩ = some (.int .u64 H.id) := blk_cell HZ.out 0
  have r1 : (w2).cell? ⟨w.heap.size, 1, none⟩ = some (.int .u64 H.key) := blk_cell HZ.out 1
  have r2 : (w2).cell? ⟨w.heap.size, 2, none⟩ = some (.int .i64 H.data) := blk_cell HZ.out 2
  have r3 : (w2).cell? ⟨w.heap.size, 3, none⟩ = some (.int .i64 H.fields) := blk_cell HZ.out 3
  have r4 : (w2).cell? ⟨w.heap.size, 4, none⟩ = some (.int .u64 H.made) := blk_cell HZ.out 4
  go_upto_region 5 with fail
  refine start_ (n := 11) (S := fun w' => w'.cell? ⟨w.heap.size, 0, none⟩ = some (.int .u64 H.id) ∧ w'.cell? ⟨w.heap.size, 1, none⟩ = some (.int .u64 H.key) ∧ w'.cell? ⟨w.heap.size, 2, none⟩ = some (.int .i64 H.data) ∧ w'.cell? ⟨w.heap.size, 3, none⟩ = some (.int .i64 H.fields) ∧ w'.cell? ⟨w.heap.size, 4, none⟩ = some (.int .u64 H.made)) (ds := [9]) #[false,false,false,false,false,false,false,false,false,false,false] (by kernel_rfl) rfl rfl ⟨r0, r1, r2, r3, r4⟩ (fun hHeld => ?_)
  refine pure_ (i := 2) (N := some 21) (v := ?_) (a' := ?_) #[false,false,true,false,false,false,false,false,false,false,false] rfl rfl (by kernel_rfl) (fun _ _ _ h => h) (Or.inl ⟨by rfl, ?_⟩) ?_ ?_
  rotate_left
  · intro w'
    go_simp
    with_reducible rfl
  rotate_left
  · simp only [Act.put, List.setIfInBounds_toArray, List.set_cons_zero, List.set_cons_succ, i64_w, i32_w]
    rfl
  refine pure_ (i := 5) (N := some 24) (v := ?_) (a' := ?_) #[false,false,true,false,false,true,false,false,false,false,false] rfl rfl (by kernel_rfl) (fun _ _ _ h => h) (Or.inl ⟨by rfl, ?_⟩) ?_ ?_
  rotate_left
  · intro w'
    go_simp
    with_reducible rfl
  rotate_left
  · simp only [Act.put, List.setIfInBounds_toArray, List.set_cons_zero, List.set_cons_succ, i64_w, i32_w]
    rfl
  refine pure_ (i := 7) (N := some 26) (v := ?_) (a' := ?_) #[false,false,true,false,false,true,false,true,false,false,false] rfl rfl (by kernel_rfl) (fun _ _ _ h => h) (Or.inl ⟨by rfl, ?_⟩) ?_ ?_
  rotate_left
  · intro w'
    go_simp
    with_reducible rfl
  rotate_left
  · simp only [Act.put, List.setIfInBounds_toArray, List.set_cons_zero, List.set_cons_succ, i64_w, i32_w]
    rfl
  refine take_ (i := 0) (N := some 19) (v := ?_) (a' := ?_) #[true,false,true,false,false,true,false,true,false,false,false] rfl rfl (by kernel_rfl) (fun _ _ _ h => h) (Or.inl ⟨by rfl, ?_⟩) hHeld ?_ ?_
  rotate_left
  · rintro w' ⟨s0, s1, s2, s3, s4⟩
    go_simp
    with_reducible rfl
  rotate_left
  · simp only [Act.put, List.setIfInBounds_toArray, List.set_cons_zero, List.set_cons_succ, i64_w, i32_w]
    rfl
  refine join_ (σ := Option Addr × Nat × Nat × Nat) 4 #[true,true,true,true,true,true,false,true,false,false,false] (fun s => [(20, .slice (some ⟨s.2.2.1, 0, none⟩) 0 0), (22, .slice s.1 n s.2.1), (23, .slice (some ⟨s.2.2.2, 0, none⟩) 0 0)]) (fun s w' => OwnO (Value.int .u8) w' w.heap.size 5 (.slice s.1 n s.2.1) l ∧ w'.heap[s.2.2.2]? = some (.cells #[] 5 (0, 0)) ∧ w.heap.size ≤ s.2.2.2 ∧ Below w.heap.size w w' ∧ w'.heap[w.heap.size]? = some (.cells #[.int .u64 H.id, .int .u64 H.key, .int .i64 H.data, .int .i64 H.fields, .int .u64 H.made] 60 (0, 0))) ?_ ?_
  rotate_left
  · intro hCont
    refine two_ (i := 1) (j := 4) (Ni := some 20) (Nj := some 23) #[true,true,true,false,false,true,false,true,false,false,false] #[true,false,true,false,true,true,false,true,false,false,false] rfl rfl rfl rfl (by kernel_rfl) (by decide) (by decide) (fun K hK => ?_) (fun K hK => ?_)
    · skip
      refine value_ (w1 := ?_) (v := ?_) (by rfl) rfl ?_ ?_
      rotate_left 2
      · go_simp
        constructor
        · rfl
        · rfl
      refine hK.out _ _ ⟨(pw_cell_below (below_alloc (Below.refl _ _) _) hHeld.1), (pw_cell_below (below_alloc (Below.refl _ _) _) hHeld.2.1), (pw_cell_below (below_alloc (Below.refl _ _) _) hHeld.2.2.1), (pw_cell_below (below_alloc (Below.refl _ _) _) hHeld.2.2.2.1), (pw_cell_below (below_alloc (Below.refl _ _) _) hHeld.2.2.2.2)⟩ (fun hHeld => ?_)
      clear hK K
      refine norm_ (a' := ?_) ?_ ?_
      rotate_left
      · show Act.put _ (some 20) _ = _
        simp only [Act.put, List.setIfInBounds_toArray, List.set_cons_zero, List.set_cons_succ, i64_w, i32_w]
        rfl
      refine two_ (i := 3) (j := 4) (Ni := some 22) (Nj := some 23) #[true,true,true,true,false,true,false,true,false,false,false] #[true,true,true,false,true,true,false,true,false,false,false] rfl rfl rfl rfl (by kernel_rfl) (by decide) (by decide) (fun K hK => ?_) (fun K hK => ?_)
      · skip
        have bw := (below_drew (below_alloc HB.out (.cells #[] 5)))
        have hoe := ((own_empty w2 w.heap.size HB.out.size).below (below_drew (Below.refl _ _)))
        obtain ⟨A1, c1, w3, hr3, ho3, hk3⟩ := app_row hoe (HRD.out _ bw) rfl HN.out bw.size hl0
        simp only [List.length_nil, Nat.zero_add, List.nil_append] at hr3 ho3
        have hz3 := hk3.blk (blk_drew (blk_alloc HZ.out (.cells #[] 5))) (fun h => hoe.ne (blk_drew (blk_alloc HZ.out (.cells #[] 5))) (by decide) h)
        have hb3 := Kp.from bw hk3 (fun b hb => hoe.ge hb)
        refine app_step (by rfl) (.tmp 20) (.tmp 21) rfl rfl rfl hr3 ?_
        refine hK.out _ _ ⟨(blk_cell hz3 0), (blk_cell hz3 1), (blk_cell hz3 2), (blk_cell hz3 3), (blk_cell hz3 4)⟩ (fun hHeld => ?_)
        clear hK K
        refine norm_ (a' := ?_) ?_ ?_
        rotate_left
        · show Act.put _ (some 22) _ = _
          simp only [Act.put, List.setIfInBounds_toArray, List.set_cons_zero, List.set_cons_succ, i64_w, i32_w]
          rfl
        refine one_ (i := 4) (N := some 23) #[true,true,true,true,true,true,false,true,false,false,false] rfl rfl (by kernel_rfl) (by decide) (fun K hK => ?_)
        refine value_ (w1 := ?_) (v := ?_) (by rfl) rfl ?_ ?_
        rotate_left 2
        · go_simp
          constructor
          · rfl
          · rfl
        refine hK.out _ _ ⟨(pw_cell_below (below_alloc (Below.refl _ _) _) hHeld.1), (pw_cell_below (below_alloc (Below.refl _ _) _) hHeld.2.1), (pw_cell_below (below_alloc (Below.refl _ _) _) hHeld.2.2.1), (pw_cell_below (below_alloc (Below.refl _ _) _) hHeld.2.2.2.1), (pw_cell_below (below_alloc (Below.refl _ _) _) hHeld.2.2.2.2)⟩ (fun hHeld => ?_)
        clear hK K
        refine norm_ (a' := ?_) ?_ ?_
        rotate_left
        · show Act.put _ (some 23) _ = _
          simp only [Act.put, List.setIfInBounds_toArray, List.set_cons_zero, List.set_cons_succ, i64_w, i32_w]
          rfl
        exact norm_ (by simp only [putAll, Act.put, List.setIfInBounds_toArray, List.set_cons_zero, List.set_cons_succ]) (hCont (A1, c1, w2.heap.size, w3.heap.size) _ ⟨ho3.below (below_alloc (Below.refl _ _) _), blk_new w3 _, hb3.size, below_alloc hb3 _, blk_alloc hz3 _⟩)
      · skip
        refine value_ (w1 := ?_) (v := ?_) (by rfl) rfl ?_ ?_
        rotate_left 2
        · go_simp
          constructor
          · rfl
          · rfl
        refine hK.out _ _ ⟨(pw_cell_below (below_alloc (Below.refl _ _) _) hHeld.1), (pw_cell_below (below_alloc (Below.refl _ _) _) hHeld.2.1), (pw_cell_below (below_alloc (Below.refl _ _) _) hHeld.2.2.1), (pw_cell_below (below_alloc (Below.refl _ _) _) hHeld.2.2.2.1), (pw_cell_below (below_alloc (Below.refl _ _) _) hHeld.2.2.2.2)⟩ (fun hHeld => ?_)
        clear hK K
        refine norm_ (a' := ?_) ?_ ?_
        rotate_left
        · show Act.put _ (some 23) _ = _
          simp only [Act.put, List.setIfInBounds_toArray, List.set_cons_zero, List.set_cons_succ, i64_w, i32_w]
          rfl
        refine one_ (i := 3) (N := some 22) #[true,true,true,true,true,true,false,true,false,false,false] rfl rfl (by kernel_rfl) (by decide) (fun K hK => ?_)
        have bw := (below_drew (below_alloc (below_alloc HB.out (.cells #[] 5)) (.cells #[] 5)))
        have hoe := (((own_empty w2 w.heap.size HB.out.size).below (below_alloc (Below.refl _ _) (.cells #[] 5))).below (below_drew (Below.refl _ _)))
        obtain ⟨A1, c1, w3, hr3, ho3, hk3⟩ := app_row hoe (HRD.out _ bw) rfl HN.out bw.size hl0
        simp only [List.length_nil, Nat.zero_add, List.nil_append] at hr3 ho3
        have hz3 := hk3.blk (blk_drew (blk_alloc (blk_alloc HZ.out (.cells #[] 5)) (.cells #[] 5))) (fun h => hoe.ne (blk_drew (blk_alloc (blk_alloc HZ.out (.cells #[] 5)) (.cells #[] 5))) (by decide) h)
        have hb3 := Kp.from bw hk3 (fun b hb => hoe.ge hb)
        refine app_step (by rfl) (.tmp 20) (.tmp 21) rfl rfl rfl hr3 ?_
        refine hK.out _ _ ⟨(blk_cell hz3 0), (blk_cell hz3 1), (blk_cell hz3 2), (blk_cell hz3 3), (blk_cell hz3 4)⟩ (fun hHeld => ?_)
        clear hK K
        refine norm_ (a' := ?_) ?_ ?_
        rotate_left
        · show Act.put _ (some 22) _ = _
          simp only [Act.put, List.setIfInBounds_toArray, List.set_cons_zero, List.set_cons_succ, i64_w, i32_w]
          rfl
        exact norm_ (by simp only [putAll, Act.put, List.setIfInBounds_toArray, List.set_cons_zero, List.set_cons_succ]) (hCont (A1, c1, w2.heap.size, w2.heap.size + 1) _ ⟨ho3, hk3.blk (blk_drew (blk_new1 w2 (.cells #[] 5))) (fun h => absurd (Option.some.inj h) (Nat.ne_of_lt (Nat.lt_succ_self _))), Nat.le_succ_of_le HB.out.size, hb3, hz3⟩)
    · skip
      refine value_ (w1 := ?_) (v := ?_) (by rfl) rfl ?_ ?_
      rotate_left 2
      · go_simp
        constructor
        · rfl
        · rfl
      refine hK.out _ _ ⟨(pw_cell_below (below_alloc (Below.refl _ _) _) hHeld.1), (pw_cell_below (below_alloc (Below.refl _ _) _) hHeld.2.1), (pw_cell_below (below_alloc (Below.refl _ _) _) hHeld.2.2.1), (pw_cell_below (below_alloc (Below.refl _ _) _) hHeld.2.2.2.1), (pw_cell_below (below_alloc (Below.refl _ _) _) hHeld.2.2.2.2)⟩ (fun hHeld => ?_)
      clear hK K
      refine norm_ (a' := ?_) ?_ ?_
      rotate_left
      · show Act.put _ (some 23) _ = _
        simp only [Act.put, List.setIfInBounds_toArray, List.set_cons_zero, List.set_cons_succ, i64_w, i32_w]
        rfl
      refine one_ (i := 1) (N := some 20) #[true,true,true,false,true,true,false,true,false,false,false] rfl rfl (by kernel_rfl) (by decide) (fun K hK => ?_)
      refine value_ (w1 := ?_) (v := ?_) (by rfl) rfl ?_ ?_
      rotate_left 2
      · go_simp
        constructor
        · rfl
        · rfl
      refine hK.out _ _ ⟨(pw_cell_below (below_alloc (Below.refl _ _) _) hHeld.1), (pw_cell_below (below_alloc (Below.refl _ _) _) hHeld.2.1), (pw_cell_below (below_alloc (Below.refl _ _) _) hHeld.2.2.1), (pw_cell_below (below_alloc (Below.refl _ _) _) hHeld.2.2.2.1), (pw_cell_below (below_alloc (Below.refl _ _) _) hHeld.2.2.2.2)⟩ (fun hHeld => ?_)
      clear hK K
      refine norm_ (a' := ?_) ?_ ?_
      rotate_left
      · show Act.put _ (some 20) _ = _
        simp only [Act.put, List.setIfInBounds_toArray, List.set_cons_zero, List.set_cons_succ, i64_w, i32_w]
        rfl
      refine one_ (i := 3) (N := some 22) #[true,true,true,true,true,true,false,true,false,false,false] rfl rfl (by kernel_rfl) (by decide) (fun K hK => ?_)
      have bw := (below_drew (below_alloc (below_alloc HB.out (.cells #[] 5)) (.cells #[] 5)))
      have hoe := ((own_empty1 w2 w.heap.size HB.out.size).below (below_drew (Below.refl _ _)))
      obtain ⟨A1, c1, w3, hr3, ho3, hk3⟩ := app_row hoe (HRD.out _ bw) rfl HN.out bw.size hl0
      simp only [List.length_nil, Nat.zero_add, List.nil_append] at hr3 ho3
      have hz3 := hk3.blk (blk_drew (blk_alloc (blk_alloc HZ.out (.cells #[] 5)) (.cells #[] 5))) (fun h => hoe.ne (blk_drew (blk_alloc (blk_alloc HZ.out (.cells #[] 5)) (.cells #[] 5))) (by decide) h)
      have hb3 := Kp.from bw hk3 (fun b hb => hoe.ge hb)
      refine app_step (by rfl) (.tmp 20) (.tmp 21) rfl rfl rfl hr3 ?_
      refine hK.out _ _ ⟨(blk_cell hz3 0), (blk_cell hz3 1), (blk_cell hz3 2), (blk_cell hz3 3), (blk_cell hz3 4)⟩ (fun hHeld => ?_)
      clear hK K
      refine norm_ (a' := ?_) ?_ ?_
      rotate_left
      · show Act.put _ (some 22) _ = _
        simp only [Act.put, List.setIfInBounds_toArray, List.set_cons_zero, List.set_cons_succ, i64_w, i32_w]
        rfl
      exact norm_ (by simp only [putAll, Act.put, List.setIfInBounds_toArray, List.set_cons_zero, List.set_cons_succ]) (hCont (A1, c1, w2.heap.size + 1, w2.heap.size) _ ⟨ho3, hk3.blk (blk_drew (blk_alloc (blk_new w2 (.cells #[] 5)) (.cells #[] 5))) (fun h => absurd (Option.some.inj h) (Nat.succ_ne_self _)), HB.out.size, hb3, hz3⟩)
  rintro s w4 ⟨ho4, hs4, hge4, hb4, hz4⟩
  obtain ⟨A1, c1, s1, s2⟩ := s
  dsimp only at ho4 hs4 hge4 ⊢
  have hHeld : w4.cell? ⟨w.heap.size, 0, none⟩ = some (.int .u64 H.id) ∧ w4.cell? ⟨w.heap.size, 1, none⟩ = some (.int .u64 H.key) ∧ w4.cell? ⟨w.heap.size, 2, none⟩ = some (.int .i64 H.data) ∧ w4.cell? ⟨w.heap.size, 3, none⟩ = some (.int .i64 H.fields) ∧ w4.cell? ⟨w.heap.size, 4, none⟩ = some (.int .u64 H.made) := ⟨blk_cell hz4 0, blk_cell hz4 1, blk_cell hz4 2, blk_cell hz4 3, blk_cell hz4 4⟩
  refine norm_ (a' := ?_) ?_ ?_
  rotate_left
  · simp only [putAll, Act.put, List.setIfInBounds_toArray, List.set_cons_zero, List.set_cons_succ]
    rfl
  refine one_ (i := 6) (N := some 25) #[true,true,true,true,true,true,true,true,false,false,false] rfl rfl (by kernel_rfl) (by decide) (fun K hK => ?_)
  obtain ⟨A5, c5, w5, hr5, ho5, hk5⟩ := app_row (own_emptyB hs4 hge4) (HRD.out _ hb4) rfl HN.out hb4.size hl0
  simp only [List.length_nil, Nat.zero_add, List.nil_append] at hr5 ho5
  have hz5 := hk5.blk hz4 (fun h => (own_emptyB hs4 hge4).ne hz4 (by decide) h)
  refine app_step (by rfl) (.tmp 23) (.tmp 24) rfl rfl rfl hr5 ?_
  refine hK.out _ _ ⟨(blk_cell hz5 0), (blk_cell hz5 1), (blk_cell hz5 2), (blk_cell hz5 3), (blk_cell hz5 4)⟩ (fun hHeld => ?_)
  clear hK K
  refine norm_ (a' := ?_) ?_ ?_
  rotate_left
  · show Act.put _ (some 25) _ = _
    simp only [Act.put, List.setIfInBounds_toArray, List.set_cons_zero, List.set_cons_succ, i64_w, i32_w]
    rfl
  refine pure_ (i := 8) (N := some 27) (v := ?_) (a' := ?_) #[true,true,true,true,true,true,true,true,true,false,false] rfl rfl (by kernel_rfl) (fun _ _ _ h => h) (Or.inl ⟨by rfl, ?_⟩) ?_ ?_
  rotate_left
  · intro w'
    go_simp
    with_reducible rfl
  rotate_left
  · simp only [Act.put, List.setIfInBounds_toArray, List.set_cons_zero, List.set_cons_succ, i64_w, i32_w]
    rfl
  refine last_ (i := 9) (N := some 28) #[true,true,true,true,true,true,true,true,true,true,false] rfl rfl (by kernel_rfl) (by decide) (fun K hK => ?_)
  refine value_ (w1 := ?_) (v := ?_) (by rfl) rfl ?_ ?_
  rotate_left 2
  · go_simp
    constructor
    · rfl
    · rfl
  refine hK.out _ _ ?_
  clear hK K
  refine norm_ (a' := ?_) ?_ ?_
  rotate_left
  · show Act.put _ (some 28) _ = _
    simp only [Act.put, List.setIfInBounds_toArray, List.set_cons_zero, List.set_cons_succ, i64_w, i32_w]
    rfl
  refine pure_ (i := 10) (N := some 6) (v := ?_) (a' := ?_) #[true,true,true,true,true,true,true,true,true,true,true] rfl rfl (by kernel_rfl) (fun _ _ _ h => h) (Or.inl ⟨by rfl, ?_⟩) ?_ ?_
  rotate_left
  · intro w'
    go_simp
    with_reducible rfl
  rotate_left
  · simp only [Act.put, List.setIfInBounds_toArray, List.set_cons_zero, List.set_cons_succ, i64_w, i32_w]
    rfl
  refine done_ (by kernel_rfl) ?_
  have HB5 := Aside0.mk (Kp.from hb4 hk5 (fun b hb => by rw [← show s2 = b from Option.some.inj hb]; exact hge4))
  have HO5 := Aside0.mk ho5
  have HA5 := Aside0.mk (ho4.kp hk5 (fun k hk e => by
    injection e with e
    subst e
    exact ho4.no_empty HNL.out hs4 hk))
  clear hb4 ho4 hs4 hge4 hz4 hr5 ho5 hk5 hz5 r0 r1 r2 r3 r4
  go_wp2_with fail
  go_ret
  exact ⟨_, rfl, ⟨_, _, Rm.fresh lim HA5.out HO5.out HB5.out⟩, below_alloc HB5.out _⟩
set_option maxHeartbeats 8000000 in
set_option maxRecDepth 100000 in
theorem RNew_yes (H : Hd) (lim : Int) (w : World) (hr : hR H.data H.fields = true) (i0 : 0 ≤ H.id) (i1 : H.id ≤ 18446744073709551615) (k0 : 0 ≤ H.key) (k1 : H.key ≤ 18446744073709551615) (m0 : 0 ≤ H.made) (m1 : H.made ≤ 18446744073709551615) (hlim : lim ≤ 1048576) : Calls Try.prog 48 #[.agg #[.int .u64 H.id, .int .u64 H.key, .int .i64 H.data, .int .i64 H.fields, .int .u64 H.made], .int .i64 lim] w fun e w' => ∃ g, e = .returned (.pointer (some ⟨g, 0, none⟩)) ∧ (∃ vb va base, w.heap.size ≤ base ∧ Rm w' g base H (encZ magicL [H.id, H.key, H.data, H.fields, H.made] ++ List.replicate (obN H - 64).toNat 0) (encZ magicL [H.id, H.key, H.data, H.fields, H.made] ++ List.replicate (obN H - 64).toNat 0) lim [] (fun k => base ≤ k ∧ k < w'.heap.size) vb va (.slice none 0 0)) ∧ Below w.heap.size w w' := by
  obtain ⟨d0, d1, f0, f1⟩ := hR_of hr
  have HR := Aside0.mk hr
  obtain ⟨q, hq⟩ : ∃ q : Nat, obN H = 64 + (q : Int) := ⟨(obN H - 64).toNat, by rw [obN]; omega⟩
  rw [show (obN H - 64).toNat = q by omega]
  have hsub : IntKind.i64.wrap (256 + 8 * H.data + 8 * H.fields - 64) = (q : Int) := by rw [obN] at hq; rw [IntKind.wrap_i64]; omega
  have q0 : 0 < q := by rw [obN] at hq; omega
  have q1 : q ≤ 5000 := by rw [obN] at hq; omega
  have HEL := Aside0.mk (show (encZ magicL [H.id, H.key, H.data, H.fields, H.made]).length = 64 by rw [encZ, List.length_append, encC_len, List.length_replicate]; rfl)
  have HL := Aside0.mk (fun (w1 : World) (A0 : Option Addr) (c0 : Nat) (h : Rd w1 .u8 (.slice A0 (64 + q) c0) (encZ magicL [H.id, H.key, H.data, H.fields, H.made] ++ List.replicate q 0)) => RLoad_yes H A0 _ (64 + q) c0 lim w1 hr (by rw [List.length_append, HEL.out, List.length_replicate]) h (by omega) (by omega) hlim)
  clear hr hq
  go_enter Try.func48, Try.ntmps48
  go_wp2_with fail
  refine (ref_hRight_calls H.id H.key H.data H.fields H.made _).mono ?_
  rintro e w1 ⟨rfl, hb⟩
  have HZ := Aside0.mk (blk_below (blk_new w (.cells #[.int .u64 H.id, .int .u64 H.key, .int .i64 H.data, .int .i64 H.fields, .int .u64 H.made] 60)) hb)
  have HB := Aside0.mk (below_step (below_alloc (Below.refl w.heap.size w) (.cells #[.int .u64 H.id, .int .u64 H.key, .int .i64 H.data, .int .i64 H.fields, .int .u64 H.made] 60)) hb)
  rw [HR.out]
  clear hb
  have r0 : (w1).cell? ⟨w.heap.size, 0, none⟩ = some (.int .u64 H.id) := blk_cell HZ.out 0
  have r1 : (w1).cell? ⟨w.heap.size, 1, none⟩ = some (.int .u64 H.key) := blk_cell HZ.out 1
  have r2 : (w1).cell? ⟨w.heap.size, 2, none⟩ = some (.int .i64 H.data) := blk_cell HZ.out 2
  have r3 : (w1).cell? ⟨w.heap.size, 3, none⟩ = some (.int .i64 H.fields) := blk_cell HZ.out 3
  have r4 : (w1).cell? ⟨w.heap.size, 4, none⟩ = some (.int .u64 H.made) := blk_cell HZ.out 4
  go_upto_region 3 with fail
  refine start_ (n := 7) (S := fun w' => w'.cell? ⟨w.heap.size, 0, none⟩ = some (.int .u64 H.id) ∧ w'.cell? ⟨w.heap.size, 1, none⟩ = some (.int .u64 H.key) ∧ w'.cell? ⟨w.heap.size, 2, none⟩ = some (.int .i64 H.data) ∧ w'.cell? ⟨w.heap.size, 3, none⟩ = some (.int .i64 H.fields) ∧ w'.cell? ⟨w.heap.size, 4, none⟩ = some (.int .u64 H.made)) (ds := [5]) #[false,false,false,false,false,false,false] (by kernel_rfl) rfl rfl ⟨r0, r1, r2, r3, r4⟩ (fun hHeld => ?_)
  refine take_ (i := 0) (N := some 9) (v := ?_) (a' := ?_) #[true,false,false,false,false,false,false] rfl rfl (by kernel_rfl) (fun _ _ _ h => h) (Or.inl ⟨by rfl, ?_⟩) hHeld ?_ ?_
  rotate_left
  · rintro w' ⟨s0, s1, s2, s3, s4⟩
    go_simp
    with_reducible rfl
  rotate_left
  · simp only [Act.put, List.setIfInBounds_toArray, List.set_cons_zero, List.set_cons_succ, i64_w, i32_w]
    rfl
  refine take_ (i := 2) (N := some 11) (v := ?_) (a' := ?_) #[true,false,true,false,false,false,false] rfl rfl (by kernel_rfl) (fun _ _ _ h => h) (Or.inl ⟨by rfl, ?_⟩) hHeld ?_ ?_
  rotate_left
  · rintro w' ⟨s0, s1, s2, s3, s4⟩
    go_simp
    with_reducible rfl
  rotate_left
  · simp only [Act.put, List.setIfInBounds_toArray, List.set_cons_zero, List.set_cons_succ, i64_w, i32_w]
    rfl
  refine one_ (i := 1) (N := some 10) #[true,true,true,false,false,false,false] rfl rfl (by kernel_rfl) (by decide) (fun K hK => ?_)
  refine goes_ Try.func37 (by kernel_rfl) rfl #[.agg #[.int .u64 H.id, .int .u64 H.key, .int .i64 H.data, .int .i64 H.fields, .int .u64 H.made]] (by rfl) rfl rfl (by (try simp only [List.map_toArray, List.map_cons, List.map_nil]); first | done | rfl) ?_
  with_reducible refine (ref_hEncode_yes H.id H.key H.data H.fields H.made _ HR.out i0 i1 k0 k1 (by omega) d1 (by omega) f1 m0 m1).mono ?_
  rintro e w2 ⟨v2, rfl, ho2, hb2⟩
  refine ⟨_, rfl, ?_⟩
  refine hK.out _ _ ⟨(pw_cell_below hb2 hHeld.1), (pw_cell_below hb2 hHeld.2.1), (pw_cell_below hb2 hHeld.2.2.1), (pw_cell_below hb2 hHeld.2.2.2.1), (pw_cell_below hb2 hHeld.2.2.2.2)⟩ (fun hHeld => ?_)
  clear hK K
  refine norm_ (a' := ?_) ?_ ?_
  rotate_left
  · show Act.put _ (some 10) _ = _
    simp only [Act.put, List.setIfInBounds_toArray, List.set_cons_zero, List.set_cons_succ, i64_w, i32_w]
    rfl
  refine one_ (i := 3) (N := some 12) #[true,true,true,true,false,false,false] rfl rfl (by kernel_rfl) (by decide) (fun K hK => ?_)
  refine goes_ Try.func38 (by kernel_rfl) rfl #[.agg #[.int .u64 H.id, .int .u64 H.key, .int .i64 H.data, .int .i64 H.fields, .int .u64 H.made]] (by rfl) rfl rfl (by (try simp only [List.map_toArray, List.map_cons, List.map_nil]); first | done | rfl) ?_
  with_reducible refine (ref_Objects_calls H.id H.key H.data H.fields H.made _ d0 d1 f0 f1).mono ?_
  rintro e w3 ⟨rfl, hb3⟩
  refine ⟨_, rfl, ?_⟩
  refine hK.out _ _ ⟨(pw_cell_below hb3 hHeld.1), (pw_cell_below hb3 hHeld.2.1), (pw_cell_below hb3 hHeld.2.2.1), (pw_cell_below hb3 hHeld.2.2.2.1), (pw_cell_below hb3 hHeld.2.2.2.2)⟩ (fun hHeld => ?_)
  clear hK K
  refine norm_ (a' := ?_) ?_ ?_
  rotate_left
  · show Act.put _ (some 12) _ = _
    simp only [Act.put, List.setIfInBounds_toArray, List.set_cons_zero, List.set_cons_succ, i64_w, i32_w]
    rfl
  refine pure_ (i := 4) (N := some 13) (v := ?_) (a' := ?_) #[true,true,true,true,true,false,false] rfl rfl (by kernel_rfl) (fun _ _ _ h => h) (Or.inl ⟨by rfl, ?_⟩) ?_ ?_
  rotate_left
  · intro w'
    go_simp
    with_reducible rfl
  rotate_left
  · simp only [Act.put, List.setIfInBounds_toArray, List.set_cons_zero, List.set_cons_succ, i64_w, i32_w]
    rfl
  refine last_ (i := 5) (N := some 14) #[true,true,true,true,true,true,false] rfl rfl (by kernel_rfl) (by decide) (fun K hK => ?_)
  have hbw := below_step (below_step (below_drew HB.out) hb2) hb3
  obtain ⟨A4, c4, w4, hr4, ho4, hk4, _⟩ := app_zeros q (((OwnO.of_own ho2).weaken (show w.heap.size ≤ _ from (below_drew HB.out).size)).below hb3) HEL.out hbw.size q0 (by omega)
  refine app_step (by rfl) (.tmp 10) (.tmp 13) rfl rfl rfl hr4 ?_
  refine hK.out _ _ ?_
  clear hK K
  refine norm_ (a' := ?_) ?_ ?_
  rotate_left
  · show Act.put _ (some 14) _ = _
    simp only [Act.put, List.setIfInBounds_toArray, List.set_cons_zero, List.set_cons_succ, i64_w, i32_w]
    rfl
  refine pure_ (i := 6) (N := some 5) (v := ?_) (a' := ?_) #[true,true,true,true,true,true,true] rfl rfl (by kernel_rfl) (fun _ _ _ h => h) (Or.inl ⟨by rfl, ?_⟩) ?_ ?_
  rotate_left
  · intro w'
    go_simp
    with_reducible rfl
  rotate_left
  · simp only [Act.put, List.setIfInBounds_toArray, List.set_cons_zero, List.set_cons_succ, i64_w, i32_w]
    rfl
  refine done_ (by kernel_rfl) ?_
  have HB4 := Aside0.mk (Kp.from hbw hk4 (fun b hb => by have := Own.ge ho2 hb; have := (below_drew HB.out).size; omega))
  have hz3 := blk_below (blk_below (blk_drew HZ.out) hb2) hb3
  have HZ4 := Aside0.mk (hk4.blk hz3 (fun h => Own.ne (ho2.below hb3) hz3 (by decide) h))
  have HO4 := Aside0.mk ho4.rd
  clear hbw hb2 hb3 ho2 ho4 hr4 hk4 hz3 hsub r0 r1 r2 r3 r4
  have r0 : (w4).cell? ⟨w.heap.size, 0, none⟩ = some (.int .u64 H.id) := blk_cell HZ4.out 0
  have r1 : (w4).cell? ⟨w.heap.size, 1, none⟩ = some (.int .u64 H.key) := blk_cell HZ4.out 1
  have r2 : (w4).cell? ⟨w.heap.size, 2, none⟩ = some (.int .i64 H.data) := blk_cell HZ4.out 2
  have r3 : (w4).cell? ⟨w.heap.size, 3, none⟩ = some (.int .i64 H.fields) := blk_cell HZ4.out 3
  have r4 : (w4).cell? ⟨w.heap.size, 4, none⟩ = some (.int .u64 H.made) := blk_cell HZ4.out 4
  go_wp2_with fail
  refine (HL.out _ _ _ HO4.out).mono ?_
  rintro e w5 ⟨g, rfl, ⟨vb, va, hI⟩, hb⟩
  have HI := Aside0.mk hI
  have HB5 := Aside0.mk (below_step HB4.out hb)
  clear hI hb
  go_wp2_with fail
  go_ret
  exact ⟨_, rfl, ⟨_, _, _, HB4.out.size, HI.out⟩, HB5.out⟩
end Go.Proofs.Ytigdchfjcfljjaa
end
section
/- The document's image: Object. -/
namespace Go.Proofs.Ytigdchfjcfljjaa
open Go.RowKit Go.Proofs.YtigdchfjcfljjaaW.PrintWords Go.Proofs.YtigdchfjcfljjaaW.PrintLast Go.Proofs.YtigdchfjcfljjaaW.PrintMore
attribute [local go_sem] max2_int min2_int max_two min_two max_three min_three max_four min_four
set_option maxHeartbeats 8000000 in
set_option maxRecDepth 100000 in
theorem RObject_calls (g base : Nat) (H : Hd) (B Was : List Int) (lim : Int) (ws : List Int) (F : Nat → Prop) (vb va vw : Value) (w : World) (hI : Rm w g base H B Was lim ws F vb va vw) (hr : hR H.data H.fields = true) (a : Int) (hb : isB B) (hl : B.length ≤ 100000) (ha0 : -9223372036854775808 ≤ a) : Calls Try.prog 126 #[.pointer (some ⟨g, 0, none⟩), .int .i64 a] w fun e w' => (∃ u1 u2 u3, e = .returned (obV H B a u1 u2 u3) ∧ (obB H B a = true → Rd w' .u64 u1 (odW B a (getN B a 8)) ∧ Rd w' .u8 u2 (odR B a (getN B a 8) (getN B (a + 8) 8)) ∧ Rd w' .u64 u3 (odI B a (getN B a 8) (getN B (a + 8) 8)))) ∧ Below w.heap.size w w' := by
  obtain ⟨d0, d1, f0, f1⟩ := hR_of hr
  have hI0 := hI.below (below_alloc (Below.refl _ _) (.cells #[.int .i64 0, .slice none 0 0, .slice none 0 0, .slice none 0 0] 48))
  have HZ := Aside0.mk (blk_new w (.cells #[.int .i64 0, .slice none 0 0, .slice none 0 0, .slice none 0 0] 48))
  have HB := Aside0.mk (below_alloc (Below.refl w.heap.size w) (.cells #[.int .i64 0, .slice none 0 0, .slice none 0 0, .slice none 0 0] 48))
  have HI0 := Aside0.mk hI0
  have CO := Aside0.mk (fun w => ref_Objects_calls H.id H.key H.data H.fields H.made w d0 d1 f0 f1)
  have CD := Aside0.mk (fun w1 (h : Rd w1 .u8 vb B) => ref_oDecode_any vb B a w1 h hb hl ha0)
  have HLO := Aside0.mk (@obB_low H B a)
  have HHI := Aside0.mk (@obB_high H B a)
  have HOV := Aside0.mk (fun (u1 u2 u3 : Value) => (show obV H B a u1 u2 u3 = bif obB H B a then .tuple #[.agg #[.int .i64 (getN B a 8), u1, u2, u3], .bool true] else .tuple #[.agg #[.int .i64 0, .slice none 0 0, .slice none 0 0, .slice none 0 0], .bool false] from rfl))
  rw [obN] at HLO HHI
  clear hI hI0 hb hl ha0 hr
  go_enter Try.func126, Try.ntmps126
  go_upto_region 1 with fail
  obtain ⟨w0, hw0⟩ : ∃ w0, w.alloc (.cells #[.int .i64 0, .slice none 0 0, .slice none 0 0, .slice none 0 0] 48) = w0 := ⟨_, rfl⟩
  rw [hw0] at HZ HB HI0 ⊢
  clear hw0
  have r0 : (w0).cell? ⟨g, 0, none⟩ = some (.int .u64 H.id) := blk_cell HI0.out.blk 0
  have r1 : (w0).cell? ⟨g, 1, none⟩ = some (.int .u64 H.key) := blk_cell HI0.out.blk 1
  have r2 : (w0).cell? ⟨g, 2, none⟩ = some (.int .i64 H.data) := blk_cell HI0.out.blk 2
  have r3 : (w0).cell? ⟨g, 3, none⟩ = some (.int .i64 H.fields) := blk_cell HI0.out.blk 3
  have r4 : (w0).cell? ⟨g, 4, none⟩ = some (.int .u64 H.made) := blk_cell HI0.out.blk 4
  have r5 : (w0).cell? ⟨g, 5, none⟩ = some (vb) := blk_cell HI0.out.blk 5
  have r6 : (w0).cell? ⟨g, 6, none⟩ = some (va) := blk_cell HI0.out.blk 6
  have r7 : (w0).cell? ⟨g, 7, none⟩ = some (.int .i64 lim) := blk_cell HI0.out.blk 7
  have r8 : (w0).cell? ⟨g, 8, none⟩ = some (vw) := blk_cell HI0.out.blk 8
  go_wp2_with fail
  refine (CO.out _).mono ?_
  rintro e w1 ⟨rfl, hb⟩
  replace HZ := Aside0.mk (blk_below HZ.out hb)
  replace HB := Aside0.mk (below_step HB.out hb)
  have HI1 := Aside0.mk (HI0.out.below hb)
  clear hb r0 r1 r2 r3 r4 r5 r6 r7 r8
  by_cases c1 : a < 256 + 8 * H.data + 8 * H.fields
  · have hlo := HLO.out (by omega)
    have z0 : (w1).cell? ⟨w.heap.size, 0, none⟩ = some (.int .i64 0) := blk_cell HZ.out 0
    have z1 : (w1).cell? ⟨w.heap.size, 1, none⟩ = some (.slice none 0 0) := blk_cell HZ.out 1
    have z2 : (w1).cell? ⟨w.heap.size, 2, none⟩ = some (.slice none 0 0) := blk_cell HZ.out 2
    have z3 : (w1).cell? ⟨w.heap.size, 3, none⟩ = some (.slice none 0 0) := blk_cell HZ.out 3
    have f0 := blk_frozen HZ.out 0
    have f1 := blk_frozen HZ.out 1
    have f2 := blk_frozen HZ.out 2
    have f3 := blk_frozen HZ.out 3
    go_wp2_with fail
    refine bodyPost_ret (v := .tuple #[.agg #[.int .i64 0, .slice none 0 0, .slice none 0 0, .slice none 0 0], .bool false]) (by simp [results, Try.results126, go_sem, z0, z1, z2, z3]) rfl ?_
    exact ⟨⟨.slice none 0 0, .slice none 0 0, .slice none 0 0, by rw [HOV.out, hlo]; rfl, fun h => by rw [hlo] at h; cases h⟩, by first | exact HB.out | exact below_set4 HB.out (Nat.le_refl _) _ _ _ _⟩
  · have hhi := HHI.out (by omega)
    have r0 : (w1).cell? ⟨g, 0, none⟩ = some (.int .u64 H.id) := blk_cell HI1.out.blk 0
    have r1 : (w1).cell? ⟨g, 1, none⟩ = some (.int .u64 H.key) := blk_cell HI1.out.blk 1
    have r2 : (w1).cell? ⟨g, 2, none⟩ = some (.int .i64 H.data) := blk_cell HI1.out.blk 2
    have r3 : (w1).cell? ⟨g, 3, none⟩ = some (.int .i64 H.fields) := blk_cell HI1.out.blk 3
    have r4 : (w1).cell? ⟨g, 4, none⟩ = some (.int .u64 H.made) := blk_cell HI1.out.blk 4
    have r5 : (w1).cell? ⟨g, 5, none⟩ = some (vb) := blk_cell HI1.out.blk 5
    have r6 : (w1).cell? ⟨g, 6, none⟩ = some (va) := blk_cell HI1.out.blk 6
    have r7 : (w1).cell? ⟨g, 7, none⟩ = some (.int .i64 lim) := blk_cell HI1.out.blk 7
    have r8 : (w1).cell? ⟨g, 8, none⟩ = some (vw) := blk_cell HI1.out.blk 8
    go_wp2_with fail
    refine (CD.out _ HI1.out.b.rd).mono ?_
    rintro e w2 ⟨⟨u1, u2, u3, rfl, hu⟩, hb⟩
    replace HZ := Aside0.mk (blk_below HZ.out hb)
    replace HB := Aside0.mk (below_step HB.out hb)
    rw [dV]
    clear hb r0 r1 r2 r3 r4 r5 r6 r7 r8
    cases hg : dG B a with
    | true =>
      obtain ⟨hr1, hr2, hr3⟩ := hu hg
      have R1 := Aside0.mk hr1
      have R2 := Aside0.mk hr2
      have R3 := Aside0.mk hr3
      obtain ⟨B1, d1, e1, _, _⟩ := hr1
      obtain ⟨B2, d2, e2, _, _⟩ := hr2
      obtain ⟨B3, d3, e3, _, _⟩ := hr3
      have HG := Aside0.mk (hhi.trans hg)
      obtain ⟨n1, en1⟩ : ∃ n, (odW B a (getN B a 8)).length = n := ⟨_, rfl⟩
      obtain ⟨n2, en2⟩ : ∃ n, (odR B a (getN B a 8) (getN B (a + 8) 8)).length = n := ⟨_, rfl⟩
      obtain ⟨n3, en3⟩ : ∃ n, (odI B a (getN B a 8) (getN B (a + 8) 8)).length = n := ⟨_, rfl⟩
      rw [en1] at e1
      rw [en2] at e2
      rw [en3] at e3
      obtain ⟨K, hK⟩ : ∃ K, getN B a 8 = K := ⟨_, rfl⟩
      subst e1; subst e2; subst e3
      have HOV2 := Aside0.mk (HOV.out (.slice B1 n1 d1) (.slice B2 n2 d2) (.slice B3 n3 d3))
      rw [HG.out, hK] at HOV2
      rw [cond_true, hK]
      have HZ2 := Aside0.mk (blk_alloc HZ.out (.cells #[.int .i64 K, .slice B1 n1 d1, .slice B2 n2 d2, .slice B3 n3 d3] 48))
      have HX2 := Aside0.mk (blk_new w2 (.cells #[.int .i64 K, .slice B1 n1 d1, .slice B2 n2 d2, .slice B3 n3 d3] 48))
      have HB2 := Aside0.mk (below_alloc HB.out (.cells #[.int .i64 K, .slice B1 n1 d1, .slice B2 n2 d2, .slice B3 n3 d3] 48))
      have HKP := Aside0.mk (below_alloc (Below.refl w2.heap.size w2) (.cells #[.int .i64 K, .slice B1 n1 d1, .slice B2 n2 d2, .slice B3 n3 d3] 48))
      have HLT := Aside0.mk (blk_lt HZ.out)
      have HKK := Aside0.mk hK
      clear hu hg hhi hK en1 en2 en3
      go_upto_region 4 with fail
      obtain ⟨g2, hg2⟩ : ∃ g2, w2.heap.size = g2 := ⟨_, rfl⟩
      rw [hg2] at HX2
      first | rw [hg2] | skip
      obtain ⟨w3, hw3⟩ : ∃ w3, w2.alloc (.cells #[.int .i64 K, .slice B1 n1 d1, .slice B2 n2 d2, .slice B3 n3 d3] 48) = w3 := ⟨_, rfl⟩
      rw [hw3] at HZ2 HX2 HB2 HKP ⊢
      clear hg2 hw3
      have x0 : (w3).cell? ⟨g2, 0, none⟩ = some (.int .i64 K) := blk_cell HX2.out 0
      have x1 : (w3).cell? ⟨g2, 1, none⟩ = some (.slice B1 n1 d1) := blk_cell HX2.out 1
      have x2 : (w3).cell? ⟨g2, 2, none⟩ = some (.slice B2 n2 d2) := blk_cell HX2.out 2
      have x3 : (w3).cell? ⟨g2, 3, none⟩ = some (.slice B3 n3 d3) := blk_cell HX2.out 3
      have z0 : (w3).cell? ⟨w.heap.size, 0, none⟩ = some (.int .i64 0) := blk_cell HZ2.out 0
      have z1 : (w3).cell? ⟨w.heap.size, 1, none⟩ = some (.slice none 0 0) := blk_cell HZ2.out 1
      have z2 : (w3).cell? ⟨w.heap.size, 2, none⟩ = some (.slice none 0 0) := blk_cell HZ2.out 2
      have z3 : (w3).cell? ⟨w.heap.size, 3, none⟩ = some (.slice none 0 0) := blk_cell HZ2.out 3
      have f0 := blk_frozen HZ2.out 0
      have f1 := blk_frozen HZ2.out 1
      have f2 := blk_frozen HZ2.out 2
      have f3 := blk_frozen HZ2.out 3
      go_wp2_with fail
      refine bodyPost_ret (v := .tuple #[.agg #[.int .i64 K, .slice B1 n1 d1, .slice B2 n2 d2, .slice B3 n3 d3], .bool true]) (by simp [results, Try.results126, go_sem, z0, z1, z2, z3]) rfl ?_
      refine ⟨⟨_, _, _, by rw [HOV2.out]; rfl, fun _ => ?_⟩, below_set4 HB2.out (Nat.le_refl _) _ _ _ _⟩
      have hkp : Kp (fun k => k = w.heap.size) w2 ((((w3.setCell ⟨w.heap.size, 0, none⟩ (.int .i64 K)).setCell ⟨w.heap.size, 1, none⟩ (.slice B1 n1 d1)).setCell ⟨w.heap.size, 2, none⟩ (.slice B2 n2 d2)).setCell ⟨w.heap.size, 3, none⟩ (.slice B3 n3 d3)) := kp_set4 (S := fun k => k = w.heap.size) (Kp.of_below HKP.out _) rfl _ _ _ _
      have hne : ∀ {k : IntKind} {v : Value} {xs : List Int}, k = .u64 ∨ k = .u8 → Rd w2 k v xs → Rd ((((w3.setCell ⟨w.heap.size, 0, none⟩ (.int .i64 K)).setCell ⟨w.heap.size, 1, none⟩ (.slice B1 n1 d1)).setCell ⟨w.heap.size, 2, none⟩ (.slice B2 n2 d2)).setCell ⟨w.heap.size, 3, none⟩ (.slice B3 n3 d3)) k v xs := by
        intro k v xs hk h
        refine rdE_int.1 ((rdE_int.2 h).move fun A ⟨n, c, hv, h0⟩ => hkp.block A.block ?_ ?_)
        · obtain ⟨A', c', e, hc', hm, hl', hcell⟩ := h
          rw [hv] at e
          injection e with e
          subst e
          obtain ⟨ad, e, hcc⟩ := hcell h0
          injection e with e
          subst e
          exact cell_lt (hcc 0 (by omega))
        · intro hA
          obtain ⟨A', c', e, hc', hm, hl', hcell⟩ := h
          rw [hv] at e
          injection e with e
          subst e
          obtain ⟨ad, e, hcc⟩ := hcell h0
          injection e with e
          subst e
          exact cell_type HZ.out (hcc 0 (by omega)) hA hk
      rw [HKK.out]
      have r1 := R1.out
      have r2 := R2.out
      have r3 := R3.out
      rw [HKK.out] at r1 r2 r3
      exact ⟨hne (.inl rfl) r1, hne (.inr rfl) r2, hne (.inl rfl) r3⟩
    | false =>
      have HG := Aside0.mk (hhi.trans hg)
      rw [cond_false]
      have HZ2 := Aside0.mk (blk_alloc HZ.out (.cells #[.int .i64 0, .slice none 0 0, .slice none 0 0, .slice none 0 0] 48))
      have HX2 := Aside0.mk (blk_new w2 (.cells #[.int .i64 0, .slice none 0 0, .slice none 0 0, .slice none 0 0] 48))
      have HB2 := Aside0.mk (below_alloc HB.out (.cells #[.int .i64 0, .slice none 0 0, .slice none 0 0, .slice none 0 0] 48))
      clear hu hg hhi
      go_upto_region 4 with fail
      obtain ⟨g2, hg2⟩ : ∃ g2, w2.heap.size = g2 := ⟨_, rfl⟩
      rw [hg2] at HX2
      first | rw [hg2] | skip
      obtain ⟨w3, hw3⟩ : ∃ w3, w2.alloc (.cells #[.int .i64 0, .slice none 0 0, .slice none 0 0, .slice none 0 0] 48) = w3 := ⟨_, rfl⟩
      rw [hw3] at HZ2 HX2 HB2 ⊢
      clear hg2 hw3
      have x0 : (w3).cell? ⟨g2, 0, none⟩ = some (.int .i64 0) := blk_cell HX2.out 0
      have x1 : (w3).cell? ⟨g2, 1, none⟩ = some (.slice none 0 0) := blk_cell HX2.out 1
      have x2 : (w3).cell? ⟨g2, 2, none⟩ = some (.slice none 0 0) := blk_cell HX2.out 2
      have x3 : (w3).cell? ⟨g2, 3, none⟩ = some (.slice none 0 0) := blk_cell HX2.out 3
      have z0 : (w3).cell? ⟨w.heap.size, 0, none⟩ = some (.int .i64 0) := blk_cell HZ2.out 0
      have z1 : (w3).cell? ⟨w.heap.size, 1, none⟩ = some (.slice none 0 0) := blk_cell HZ2.out 1
      have z2 : (w3).cell? ⟨w.heap.size, 2, none⟩ = some (.slice none 0 0) := blk_cell HZ2.out 2
      have z3 : (w3).cell? ⟨w.heap.size, 3, none⟩ = some (.slice none 0 0) := blk_cell HZ2.out 3
      have f0 := blk_frozen HZ2.out 0
      have f1 := blk_frozen HZ2.out 1
      have f2 := blk_frozen HZ2.out 2
      have f3 := blk_frozen HZ2.out 3
      go_wp2_with fail
      refine bodyPost_ret (v := .tuple #[.agg #[.int .i64 0, .slice none 0 0, .slice none 0 0, .slice none 0 0], .bool false]) (by simp [results, Try.results126, go_sem, z0, z1, z2, z3]) rfl ?_
      exact ⟨⟨.slice none 0 0, .slice none 0 0, .slice none 0 0, by rw [HOV.out, HG.out]; rfl, fun h => by rw [HG.out] at h; cases h⟩, below_set4 HB2.out (Nat.le_refl _) _ _ _ _⟩
end Go.Proofs.Ytigdchfjcfljjaa
end
section
/- Images: Set and Put of both, whatever they are given; light. -/
namespace Go.Proofs.Ytigdchfjcfljjaa
open Go.RowKit Go.Proofs.YtigdchfjcfljjaaW.PrintWords Go.Proofs.YtigdchfjcfljjaaW.PrintLast Go.Proofs.YtigdchfjcfljjaaW.PrintMore
attribute [local go_sem] max2_int min2_int max_two min_two max_three min_three max_four min_four
/-- What Set answers, and what it leaves. -/
def setC (B : List Int) (a : Int) : Int := if a % 8 = 0 ∧ 192 ≤ a ∧ a + 8 ≤ B.length then (if getN B a 8 = 0 then 0 else 7) else 1
def setB (B : List Int) (a x : Int) : List Int := if setC B a = 0 then splice B a.toNat (leB x 8) else B
def setW (B ws : List Int) (q a : Int) : List Int := if setC B a = 0 ∧ a < q then ws ++ [a] else ws
theorem setC_arg {B : List Int} {a : Int} (h : ¬ setOk B.length a) : setC B a = 1 := if_neg h
theorem setC_twice {B : List Int} {a : Int} (h : setOk B.length a) (hx : getN B a 8 ≠ 0) : setC B a = 7 := by rw [setC, if_pos (show a % 8 = 0 ∧ 192 ≤ a ∧ a + 8 ≤ (B.length : Int) from h), if_neg hx]
theorem setC_yes {B : List Int} {a : Int} (h : setOk B.length a) (hx : getN B a 8 = 0) : setC B a = 0 := by rw [setC, if_pos (show a % 8 = 0 ∧ 192 ≤ a ∧ a + 8 ≤ (B.length : Int) from h), if_pos hx]
theorem setB_no {B : List Int} {a x : Int} (h : setC B a ≠ 0) : setB B a x = B := if_neg h
theorem setW_no {B ws : List Int} {q a : Int} (h : setC B a ≠ 0) : setW B ws q a = ws := if_neg (fun hh => h hh.1)
theorem Set_any (g base : Nat) (H : Hd) (B : List Int) (lim fr : Int) (ws : List Int) (F : Nat → Prop) (vb vw : Value) (w : World) (hI : Im w g base H B lim fr ws F vb vw) (hb : isB B) (hl : B.length ≤ 100000) (a x : Int) (x0 : 0 ≤ x) (x1 : x ≤ 18446744073709551615) (hwl : ws.length ≤ 1000000) : Calls Try.prog 42 #[.pointer (some ⟨g, 0, none⟩), .int .i64 a, .int .u64 x] w fun e w' => e = .returned (.int .i64 (setC B a)) ∧ ImS w w' g base H (setB B a x) lim fr (setW B ws fr a) F := by
  by_cases h : setOk B.length a
  · by_cases hx : getN B a 8 = 0
    · obtain ⟨j, rfl⟩ := Int.eq_ofNat_of_zero_le (show 0 ≤ a by have := h.2.1; omega)
      have hc := setC_yes h hx
      refine (Set_yes g base H B lim fr ws F vb vw w hI _ rfl (by omega) hb j x h hx x0 x1 hwl).mono ?_
      rintro e w1 ⟨rfl, hs⟩
      refine ⟨by rw [hc], ?_⟩
      have e1 : setB B (j : Int) x = splice B j (leB x 8) := if_pos hc
      have e2 : setW B ws fr (j : Int) = if (j : Int) < fr then ws ++ [(j : Int)] else ws := by
        rw [setW]
        by_cases c : (j : Int) < fr
        · rw [if_pos ⟨hc, c⟩, if_pos c]
        · rw [if_neg (fun hh => c hh.2), if_neg c]
      rw [e1, e2]; exact hs
    · have hc := setC_twice h hx
      refine (Set_twice g base H B lim fr ws F vb vw w hI _ rfl (by omega) hb a x h hx).mono ?_
      rintro e w1 ⟨rfl, hbl⟩
      rw [hc, setB_no (by rw [hc]; decide), setW_no (by rw [hc]; decide)]
      exact ⟨rfl, ImS.same hI hbl⟩
  · have hc := setC_arg h
    refine (Set_arg g base H B lim fr ws F vb vw w hI _ rfl (by omega) a x h).mono ?_
    rintro e w1 ⟨rfl, rfl⟩
    rw [hc, setB_no (by rw [hc]; decide), setW_no (by rw [hc]; decide)]
    exact ⟨rfl, ImS.same hI (Below.refl _ _)⟩
theorem RSet_any (g base : Nat) (H : Hd) (B Was : List Int) (lim : Int) (ws : List Int) (F : Nat → Prop) (vb va vw : Value) (w : World) (hI : Rm w g base H B Was lim ws F vb va vw) (hb : isB B) (hl : B.length ≤ 100000) (q : Nat) (hq : Was.length = q) (a x : Int) (x0 : 0 ≤ x) (x1 : x ≤ 18446744073709551615) (hwl : ws.length ≤ 1000000) : Calls Try.prog 121 #[.pointer (some ⟨g, 0, none⟩), .int .i64 a, .int .u64 x] w fun e w' => e = .returned (.int .i64 (setC B a)) ∧ RmS w w' g base H (setB B a x) Was lim (setW B ws (q : Int) a) F := by
  by_cases h : setOk B.length a
  · by_cases hx : getN B a 8 = 0
    · obtain ⟨j, rfl⟩ := Int.eq_ofNat_of_zero_le (show 0 ≤ a by have := h.2.1; omega)
      have hc := setC_yes h hx
      refine (RSet_yes g base H B Was lim ws F vb va vw w hI hb _ rfl hl q hq j x h hx x0 x1 hwl).mono ?_
      rintro e w1 ⟨rfl, hs⟩
      refine ⟨by rw [hc], ?_⟩
      have e1 : setB B (j : Int) x = splice B j (leB x 8) := if_pos hc
      have e2 : setW B ws (q : Int) (j : Int) = if (j : Int) < (q : Int) then ws ++ [(j : Int)] else ws := by
        rw [setW]
        by_cases c : (j : Int) < (q : Int)
        · rw [if_pos ⟨hc, c⟩, if_pos c]
        · rw [if_neg (fun hh => c hh.2), if_neg c]
      rw [e1, e2]; exact hs
    · have hc := setC_twice h hx
      refine (RSet_twice g base H B Was lim ws F vb va vw w hI hb _ rfl a x h hx).mono ?_
      rintro e w1 ⟨rfl, hbl⟩
      rw [hc, setB_no (by rw [hc]; decide), setW_no (by rw [hc]; decide)]
      exact ⟨rfl, RmS.same hI hbl⟩
  · have hc := setC_arg h
    refine (RSet_arg g base H B Was lim ws F vb va vw w hI hb _ rfl a x h).mono ?_
    rintro e w1 ⟨rfl, hbl⟩
    rw [hc, setB_no (by rw [hc]; decide), setW_no (by rw [hc]; decide)]
    exact ⟨rfl, RmS.same hI hbl⟩
/-- What Put answers, and what it leaves. -/
def putC (B : List Int) (lim kd : Int) (ws_ raw it : List Int) : Int := if oR kd ws_.length raw.length it.length = true then (if ((objZ kd ws_ raw it).length : Int) ≤ lim - B.length then 0 else 21) else 1
def putA (B : List Int) (lim kd : Int) (ws_ raw it : List Int) : Int := if putC B lim kd ws_ raw it = 0 then B.length else 0
def putB (B : List Int) (lim kd : Int) (ws_ raw it : List Int) : List Int := if putC B lim kd ws_ raw it = 0 then B ++ objZ kd ws_ raw it else B
theorem putB_no {B : List Int} {lim kd : Int} {ws_ raw it : List Int} (h : putC B lim kd ws_ raw it ≠ 0) : putB B lim kd ws_ raw it = B := if_neg h
theorem putA_no {B : List Int} {lim kd : Int} {ws_ raw it : List Int} (h : putC B lim kd ws_ raw it ≠ 0) : putA B lim kd ws_ raw it = 0 := if_neg h
theorem Put_any (g base : Nat) (H : Hd) (B : List Int) (lim fr : Int) (ws : List Int) (F : Nat → Prop) (vb vw : Value) (w : World) (hI : Im w g base H B lim fr ws F vb vw) (hl : B.length ≤ 100000) (hlim : 0 ≤ lim ∧ lim ≤ 1048576) (kd : Int) (ws_ raw it : List Int) (A1 A2 A3 : Option Addr) (c1 c2 c3 : Nat) (h1 : Rd w .u64 (.slice A1 ws_.length c1) ws_) (h2 : Rd w .u8 (.slice A2 raw.length c2) raw) (h3 : Rd w .u64 (.slice A3 it.length c3) it) (k1 : isW ws_) (k2 : isB raw) (k3 : isW it) (m1 : ws_.length ≤ 100000) (m2 : raw.length ≤ 100000) (m3 : it.length ≤ 100000) : Calls Try.prog 46 #[.pointer (some ⟨g, 0, none⟩), .agg #[.int .i64 kd, .slice A1 ws_.length c1, .slice A2 raw.length c2, .slice A3 it.length c3]] w fun e w' => e = .returned (.tuple #[.int .i64 (putA B lim kd ws_ raw it), .int .i64 (putC B lim kd ws_ raw it)]) ∧ ImS w w' g base H (putB B lim kd ws_ raw it) lim fr ws F := by
  by_cases hr : oR kd ws_.length raw.length it.length = true
  · by_cases hf : ((objZ kd ws_ raw it).length : Int) ≤ lim - B.length
    · have hc : putC B lim kd ws_ raw it = 0 := by rw [putC, if_pos hr, if_pos hf]
      refine (Put_yes g base H B lim fr ws F vb vw w hI kd ws_ raw it A1 A2 A3 c1 c2 c3 h1 h2 h3 k1 k2 k3 hr _ _ rfl rfl (by omega) hlim hf).mono ?_
      rintro e w1 ⟨rfl, hs⟩
      rw [putA, putB, if_pos hc, if_pos hc, hc]
      exact ⟨rfl, hs⟩
    · have hc : putC B lim kd ws_ raw it = 21 := by rw [putC, if_pos hr, if_neg hf]
      refine (Put_file g base H B lim fr ws F vb vw w hI kd ws_ raw it A1 A2 A3 c1 c2 c3 h1 h2 h3 k1 k2 k3 hr _ _ rfl rfl (by omega) hlim (by omega)).mono ?_
      rintro e w1 ⟨rfl, hbl⟩
      rw [putA_no (by rw [hc]; decide), putB_no (by rw [hc]; decide), hc]
      exact ⟨rfl, ImS.same hI hbl⟩
  · have hc : putC B lim kd ws_ raw it = 1 := by rw [putC, if_neg hr]
    refine (Put_arg g base H B lim fr ws F vb vw w hI kd ws_.length raw.length it.length A1 A2 A3 c1 c2 c3 m1 m2 m3 (by simpa using hr)).mono ?_
    rintro e w1 ⟨rfl, hbl⟩
    rw [putA_no (by rw [hc]; decide), putB_no (by rw [hc]; decide), hc]
    exact ⟨rfl, ImS.same hI hbl⟩
theorem RPut_any (g base : Nat) (H : Hd) (B Was : List Int) (lim : Int) (ws : List Int) (F : Nat → Prop) (vb va vw : Value) (w : World) (hI : Rm w g base H B Was lim ws F vb va vw) (hl : B.length ≤ 100000) (hlim : 0 ≤ lim ∧ lim ≤ 1048576) (kd : Int) (ws_ raw it : List Int) (A1 A2 A3 : Option Addr) (c1 c2 c3 : Nat) (h1 : Rd w .u64 (.slice A1 ws_.length c1) ws_) (h2 : Rd w .u8 (.slice A2 raw.length c2) raw) (h3 : Rd w .u64 (.slice A3 it.length c3) it) (k1 : isW ws_) (k2 : isB raw) (k3 : isW it) (m1 : ws_.length ≤ 100000) (m2 : raw.length ≤ 100000) (m3 : it.length ≤ 100000) : Calls Try.prog 122 #[.pointer (some ⟨g, 0, none⟩), .agg #[.int .i64 kd, .slice A1 ws_.length c1, .slice A2 raw.length c2, .slice A3 it.length c3]] w fun e w' => e = .returned (.tuple #[.int .i64 (putA B lim kd ws_ raw it), .int .i64 (putC B lim kd ws_ raw it)]) ∧ RmS w w' g base H (putB B lim kd ws_ raw it) Was lim ws F := by
  by_cases hr : oR kd ws_.length raw.length it.length = true
  · by_cases hf : ((objZ kd ws_ raw it).length : Int) ≤ lim - B.length
    · have hc : putC B lim kd ws_ raw it = 0 := by rw [putC, if_pos hr, if_pos hf]
      refine (RPut_yes g base H B Was lim ws F vb va vw w hI kd ws_ raw it A1 A2 A3 c1 c2 c3 h1 h2 h3 k1 k2 k3 hr _ _ rfl rfl (by omega) hlim hf).mono ?_
      rintro e w1 ⟨rfl, hs⟩
      rw [putA, putB, if_pos hc, if_pos hc, hc]
      exact ⟨rfl, hs⟩
    · have hc : putC B lim kd ws_ raw it = 21 := by rw [putC, if_pos hr, if_neg hf]
      refine (RPut_file g base H B Was lim ws F vb va vw w hI kd ws_ raw it A1 A2 A3 c1 c2 c3 h1 h2 h3 k1 k2 k3 hr _ _ rfl rfl (by omega) hlim (by omega)).mono ?_
      rintro e w1 ⟨rfl, hbl⟩
      rw [putA_no (by rw [hc]; decide), putB_no (by rw [hc]; decide), hc]
      exact ⟨rfl, RmS.same hI hbl⟩
  · have hc : putC B lim kd ws_ raw it = 1 := by rw [putC, if_neg hr]
    refine (RPut_arg g base H B Was lim ws F vb va vw w hI kd ws_.length raw.length it.length A1 A2 A3 c1 c2 c3 m1 m2 m3 (by simpa using hr)).mono ?_
    rintro e w1 ⟨rfl, hbl⟩
    rw [putA_no (by rw [hc]; decide), putB_no (by rw [hc]; decide), hc]
    exact ⟨rfl, RmS.same hI hbl⟩
/-- Is an act light. -/
def lightA (nW nR nI : Nat) : Bool := decide (nW ≤ 10) && (decide (nR ≤ 300) && decide (nI ≤ 80))
set_option maxHeartbeats 8000000 in
set_option maxRecDepth 100000 in
theorem alight_calls (kind at_ nn kd : Int) (A1 A2 A3 : Option Addr) (nW nR nI c1 c2 c3 : Nat) (w : World) : Calls Try.prog 49 #[.agg #[.int .i64 kind, .int .i64 at_, .int .u64 nn, .int .i64 kd, .slice A1 nW c1, .slice A2 nR c2, .slice A3 nI c3]] w fun e w' => e = .returned (.bool (lightA nW nR nI)) ∧ Below w.heap.size w w' := by
  by_cases a : nW ≤ 10
  · by_cases b : nR ≤ 300
    · by_cases c : nI ≤ 80
      · skip
        have HE := Aside0.mk (show lightA nW nR nI = true by simp [lightA, a, b, c])
        go_enter Try.func49, Try.ntmps49
        go_wp2_with fail
        go_ret
        exact ⟨by rw [HE.out]; first | rfl | exact ret_yes (by omega), below_alloc (Below.refl _ _) _⟩
      · skip
        have HE := Aside0.mk (show lightA nW nR nI = false by simp [lightA]; omega)
        go_enter Try.func49, Try.ntmps49
        go_wp2_with fail
        go_ret
        exact ⟨by rw [HE.out]; first | rfl | exact ret_no (by omega), below_alloc (Below.refl _ _) _⟩
    · skip
      have HE := Aside0.mk (show lightA nW nR nI = false by simp [lightA]; omega)
      go_enter Try.func49, Try.ntmps49
      go_wp2_with fail
      go_ret
      exact ⟨by rw [HE.out]; first | rfl | exact ret_no (by omega), below_alloc (Below.refl _ _) _⟩
  · skip
    have HE := Aside0.mk (show lightA nW nR nI = false by simp [lightA]; omega)
    go_enter Try.func49, Try.ntmps49
    go_wp2_with fail
    go_ret
    exact ⟨by rw [HE.out]; first | rfl | exact ret_no (by omega), below_alloc (Below.refl _ _) _⟩
end Go.Proofs.Ytigdchfjcfljjaa
end
section
/- Images: what both keep (plain). -/
namespace Go.Proofs.Ytigdchfjcfljjaa
open Go.RowKit Go.Proofs.YtigdchfjcfljjaaW.PrintWords Go.Proofs.YtigdchfjcfljjaaW.PrintLast Go.Proofs.YtigdchfjcfljjaaW.PrintMore
theorem splice_getD (B : List Int) (j : Nat) (cs : List Int) (h : j + cs.length ≤ B.length) (i : Nat) : (splice B j cs).getD i 0 = if j ≤ i ∧ i < j + cs.length then cs.getD (i - j) 0 else B.getD i 0 := by
  have l1 : (B.take j).length = j := by rw [List.length_take]; omega
  rw [splice, List.getD_eq_getElem?_getD, List.getD_eq_getElem?_getD (l := B), List.getD_eq_getElem?_getD (l := cs)]
  by_cases c1 : i < j
  · rw [List.getElem?_append_left (by omega), List.getElem?_take_of_lt c1, if_neg (by omega)]
  · rw [List.getElem?_append_right (by omega), l1]
    by_cases c2 : i < j + cs.length
    · rw [List.getElem?_append_left (by omega), if_pos ⟨by omega, c2⟩]
    · rw [List.getElem?_append_right (by omega), if_neg (by omega), List.getElem?_drop]
      congr 2
      omega
/-- Does a place lie in one of the words. -/
def hit1 (i : Nat) (a : Int) : Bool := decide (a.toNat ≤ i ∧ i < a.toNat + 8)
def hit (ws : List Int) (i : Nat) : Bool := ws.any (hit1 i)
theorem zeroW_getD : ∀ (ws B : List Int), (∀ x ∈ ws, 0 ≤ x ∧ x + 8 ≤ B.length) → ∀ i, (zeroW B ws).getD i 0 = if hit ws i = true then 0 else B.getD i 0
  | [], B, _, i => by simp [zeroW, hit]
  | x :: ws, B, h, i => by
    have hx := h x (by simp)
    have hl : (splice B x.toNat (List.replicate 8 0)).length = B.length := length_splice _ _ _ (by simp; omega)
    have ih := zeroW_getD ws (splice B x.toNat (List.replicate 8 0)) (fun y hy => by rw [hl]; exact h y (by simp [hy])) i
    rw [zeroW, List.foldl_cons, ← zeroW, ih, splice_getD _ _ _ (by simp; omega)]
    have e : hit (x :: ws) i = (hit1 i x || hit ws i) := by simp [hit]
    rw [e]
    cases h2 : hit ws i
    · cases h1 : hit1 i x
      · have := of_decide_eq_false h1
        rw [if_neg (by decide), if_neg (by simpa using this)]
        simp
      · have := of_decide_eq_true h1
        rw [if_neg (by decide), if_pos (by simpa using this)]
        simp only [Bool.true_or, if_true]
        rw [List.getD_eq_getElem?_getD, List.getElem?_replicate]
        split <;> rfl
    · simp
theorem take_eq {l l' : List Int} {q : Nat} (h : q ≤ l.length) (h' : q ≤ l'.length) (e : ∀ i, i < q → l.getD i 0 = l'.getD i 0) : l.take q = l'.take q := by
  apply List.ext_getElem?
  intro i
  by_cases c : i < q
  · rw [List.getElem?_take_of_lt c, List.getElem?_take_of_lt c]
    have := e i c
    rw [List.getD_eq_getElem?_getD, List.getD_eq_getElem?_getD, List.getElem?_eq_getElem (show i < l.length by omega), List.getElem?_eq_getElem (show i < l'.length by omega)] at this
    rw [List.getElem?_eq_getElem (show i < l.length by omega), List.getElem?_eq_getElem (show i < l'.length by omega)]
    simpa using this
  · rw [List.getElem?_eq_none (by rw [List.length_take]; omega), List.getElem?_eq_none (by rw [List.length_take]; omega)]
/-- What both images keep. -/
def Gd (lim : Int) (B Was ws : List Int) (m : Nat) : Prop :=
  (isB B ∧ isB Was) ∧ (200 ≤ Was.length ∧ Was.length ≤ B.length ∧ B.length ≤ 70000) ∧ (B.length % 8 = 0 ∧ Was.length % 8 = 0) ∧ (∀ x ∈ ws, 192 ≤ x ∧ x % 8 = 0 ∧ x + 8 ≤ (Was.length : Int)) ∧ ws.length ≤ m ∧ (zeroW B ws).take Was.length = Was ∧ (0 ≤ lim ∧ lim ≤ 65535)
theorem Gd.inB {lim : Int} {B Was ws : List Int} {m : Nat} (h : Gd lim B Was ws m) : ∀ x ∈ ws, 0 ≤ x ∧ x + 8 ≤ (B.length : Int) := fun x hx => by
  obtain ⟨_, ⟨_, h2, _⟩, _, h4, _⟩ := h
  have := h4 x hx
  omega
theorem Gd.zl {lim : Int} {B Was ws : List Int} {m : Nat} (h : Gd lim B Was ws m) : (zeroW B ws).length = B.length := zeroW_len B ws h.inB
theorem getN_zero {B : List Int} (hb : isB B) (j : Nat) (h : j + 8 ≤ B.length) (h0 : getN B j 8 = 0) (i : Nat) (h1 : j ≤ i) (h2 : i < j + 8) : B.getD i 0 = 0 := by
  have := getN_bytes B hb (j : Int) 8 (fits_ok ⟨by omega, by omega, by omega, by omega⟩)
  rw [h0, Int.toNat_natCast, show (8 : Int).toNat = 8 from rfl] at this
  have e : (B.drop j).take 8 = List.replicate 8 0 := by rw [← this]; decide
  have e2 : ((B.drop j).take 8).getD (i - j) 0 = 0 := by
    rw [e, List.getD_eq_getElem?_getD, List.getElem?_replicate]
    split <;> rfl
  rw [List.getD_eq_getElem?_getD, List.getElem?_take_of_lt (by omega), List.getElem?_drop, show j + (i - j) = i by omega, ← List.getD_eq_getElem?_getD] at e2
  exact e2
theorem Gd.set {lim : Int} {B Was ws : List Int} {m : Nat} (h : Gd lim B Was ws m) (a x : Int) : Gd lim (setB B a x) Was (setW B ws (Was.length : Int) a) (m + 1) := by
  have hG := h
  obtain ⟨⟨hb, hwb⟩, ⟨l1, l2, l3⟩, ⟨m1, m2⟩, hw, hm, hz, hlim⟩ := h
  by_cases hc : setC B a = 0
  · have hok : (a % 8 = 0 ∧ 192 ≤ a ∧ a + 8 ≤ (B.length : Int)) ∧ getN B a 8 = 0 := by
      rw [setC] at hc
      by_cases c1 : a % 8 = 0 ∧ 192 ≤ a ∧ a + 8 ≤ (B.length : Int)
      · rw [if_pos c1] at hc
        by_cases c2 : getN B a 8 = 0
        · exact ⟨c1, c2⟩
        · rw [if_neg c2] at hc; exact absurd hc (by decide)
      · rw [if_neg c1] at hc; exact absurd hc (by decide)
    obtain ⟨⟨a8, a0, a1⟩, hx⟩ := hok
    obtain ⟨j, rfl⟩ := Int.eq_ofNat_of_zero_le (show 0 ≤ a by omega)
    have e1 : setB B (j : Int) x = splice B j (leB x 8) := if_pos hc
    have hl : (splice B j (leB x 8)).length = B.length := length_splice _ _ _ (by rw [leB_len]; omega)
    have hsb : isB (splice B j (leB x 8)) := (hb.take _).app ((leB_isB _ _).app (hb.drop _))
    have hs : ∀ i, (splice B j (leB x 8)).getD i 0 = if j ≤ i ∧ i < j + 8 then (leB x 8).getD (i - j) 0 else B.getD i 0 := fun i => by
      have := splice_getD B j (leB x 8) (by rw [leB_len]; omega) i
      rw [leB_len] at this
      exact this
    rw [e1]
    by_cases c : (j : Int) < (Was.length : Int)
    · have e2 : setW B ws (Was.length : Int) (j : Int) = ws ++ [(j : Int)] := if_pos ⟨hc, c⟩
      rw [e2]
      have hw2 : ∀ y ∈ ws ++ [(j : Int)], 192 ≤ y ∧ y % 8 = 0 ∧ y + 8 ≤ (Was.length : Int) := fun y hy => by
        rcases List.mem_append.1 hy with hy | hy
        · exact hw y hy
        · rw [List.mem_singleton.1 hy]; omega
      refine ⟨⟨hsb, hwb⟩, ⟨l1, by omega, by omega⟩, ⟨by omega, m2⟩, hw2, by rw [List.length_append]; simp; omega, ?_, hlim⟩
      rw [← hz, hz]
      conv => rhs; rw [← hz]
      refine take_eq (by rw [zeroW_len _ _ (fun y hy => by have := hw2 y hy; omega)]; omega) (by rw [hG.zl]; omega) fun i hi => ?_
      rw [zeroW_getD _ _ (fun y hy => by have := hw2 y hy; omega), zeroW_getD _ _ hG.inB, hs]
      have e3 : hit (ws ++ [(j : Int)]) i = (hit ws i || hit1 i (j : Int)) := by simp [hit]
      rw [e3]
      cases hh : hit ws i
      · cases h1 : hit1 i (j : Int)
        · have := of_decide_eq_false h1
          rw [Int.toNat_natCast] at this
          rw [if_neg this]
          simp
        · have := of_decide_eq_true h1
          rw [Int.toNat_natCast] at this
          have := getN_zero hb j (by omega) hx i this.1 this.2
          rw [this, if_pos (by decide), if_neg (by decide)]
      · simp
    · have e2 : setW B ws (Was.length : Int) (j : Int) = ws := if_neg (fun hh => c hh.2)
      rw [e2]
      refine ⟨⟨hsb, hwb⟩, ⟨l1, by omega, by omega⟩, ⟨by omega, m2⟩, hw, by omega, ?_, hlim⟩
      conv => rhs; rw [← hz]
      refine take_eq (by rw [zeroW_len _ _ (fun y hy => by have := hw y hy; omega)]; omega) (by rw [hG.zl]; omega) fun i hi => ?_
      rw [zeroW_getD _ _ (fun y hy => by have := hw y hy; omega), zeroW_getD _ _ hG.inB, hs, if_neg (show ¬ (j ≤ i ∧ i < j + 8) by omega)]
  · rw [setB_no hc, setW_no hc]
    exact ⟨⟨hb, hwb⟩, ⟨l1, l2, l3⟩, ⟨m1, m2⟩, hw, by omega, hz, hlim⟩
theorem objZ_mod8 (kd : Int) (ws_ raw it : List Int) : (objZ kd ws_ raw it).length % 8 = 0 := by
  obtain ⟨L, hL⟩ : ∃ L, (objB kd ws_ raw it).length = L := ⟨_, rfl⟩
  rw [objZ, List.length_append, List.length_replicate, hL]
  unfold padN
  split <;> omega
theorem Gd.put {lim : Int} {B Was ws : List Int} {m : Nat} (h : Gd lim B Was ws m) (kd : Int) (ws_ raw it : List Int) (hr : isB raw) : Gd lim (putB B lim kd ws_ raw it) Was ws (m + 1) := by
  have hG := h
  obtain ⟨⟨hb, hwb⟩, ⟨l1, l2, l3⟩, ⟨m1, m2⟩, hw, hm, hz, hlim⟩ := h
  by_cases hc : putC B lim kd ws_ raw it = 0
  · have hok : oR kd ws_.length raw.length it.length = true ∧ ((objZ kd ws_ raw it).length : Int) ≤ lim - B.length := by
      rw [putC] at hc
      by_cases c1 : oR kd ws_.length raw.length it.length = true
      · rw [if_pos c1] at hc
        by_cases c2 : ((objZ kd ws_ raw it).length : Int) ≤ lim - B.length
        · exact ⟨c1, c2⟩
        · rw [if_neg c2] at hc; exact absurd hc (by decide)
      · rw [if_neg c1] at hc; exact absurd hc (by decide)
    rw [show putB B lim kd ws_ raw it = B ++ objZ kd ws_ raw it from if_pos hc]
    have h8 : (objZ kd ws_ raw it).length % 8 = 0 := objZ_mod8 kd ws_ raw it
    have hl : (B ++ objZ kd ws_ raw it).length = B.length + (objZ kd ws_ raw it).length := List.length_append
    refine ⟨⟨hb.app (objZ_isB kd hr), hwb⟩, ⟨l1, by omega, by omega⟩, ⟨by omega, m2⟩, hw, by omega, ?_, hlim⟩
    conv => rhs; rw [← hz]
    refine take_eq (by rw [zeroW_len _ _ (fun y hy => by have := hw y hy; omega)]; omega) (by rw [hG.zl]; omega) fun i hi => ?_
    rw [zeroW_getD _ _ (fun y hy => by have := hw y hy; omega), zeroW_getD _ _ hG.inB, List.getD_eq_getElem?_getD (l := B ++ objZ kd ws_ raw it), List.getElem?_append_left (by omega), ← List.getD_eq_getElem?_getD]
  · rw [putB_no hc]
    exact ⟨⟨hb, hwb⟩, ⟨l1, l2, l3⟩, ⟨m1, m2⟩, hw, by omega, hz, hlim⟩
theorem Gd.done {lim : Int} {B Was ws : List Int} {m : Nat} (h : Gd lim B Was ws m) : Gd lim B B [] (m + 1) := by
  obtain ⟨⟨hb, hwb⟩, ⟨l1, l2, l3⟩, ⟨m1, m2⟩, hw, hm, hz, hlim⟩ := h
  exact ⟨⟨hb, hb⟩, ⟨by omega, Nat.le_refl _, l3⟩, ⟨m1, m1⟩, fun x hx => by simp at hx, by simp, List.take_length, hlim⟩
theorem Gd.back {lim : Int} {B Was ws : List Int} {m : Nat} (h : Gd lim B Was ws m) : Gd lim Was Was [] (m + 1) := by
  obtain ⟨⟨hb, hwb⟩, ⟨l1, l2, l3⟩, ⟨m1, m2⟩, hw, hm, hz, hlim⟩ := h
  exact ⟨⟨hwb, hwb⟩, ⟨l1, Nat.le_refl _, by omega⟩, ⟨m2, m2⟩, fun x hx => by simp at hx, by simp, List.take_length, hlim⟩
end Go.Proofs.Ytigdchfjcfljjaa
end
