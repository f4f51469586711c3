/- SHA-256: Of, Hex. -/
import Derived.Test.YtekbidjfddanhaaDigS
import Derived.Test.YtekbidjfddanhaaMixA
namespace Go.Proofs.Ytekbidjfddanhaa
open Go.RowKit Go.Proofs.YtekbidjfddanhaaW.PrintWords Go.Proofs.YtekbidjfddanhaaW.PrintLast Go.Proofs.YtekbidjfddanhaaW.PrintMore
attribute [local go_sem] max2_int min2_int max_two min_two max_three min_three max_four min_four   -- for this text's walks alone
set_option linter.unusedVariables false
set_option linter.unusedSimpArgs false

theorem zeros32 : (#[.int .u8 0, .int .u8 0, .int .u8 0, .int .u8 0, .int .u8 0, .int .u8 0, .int .u8 0, .int .u8 0, .int .u8 0, .int .u8 0, .int .u8 0, .int .u8 0, .int .u8 0, .int .u8 0, .int .u8 0, .int .u8 0, .int .u8 0, .int .u8 0, .int .u8 0, .int .u8 0, .int .u8 0, .int .u8 0, .int .u8 0, .int .u8 0, .int .u8 0, .int .u8 0, .int .u8 0, .int .u8 0, .int .u8 0, .int .u8 0, .int .u8 0, .int .u8 0] : Array Value) = (nums .u8 (fillL (fun _ => 0) 32 0)).toArray := rfl
set_option maxHeartbeats 8000000 in
set_option maxRecDepth 100000 in
theorem dOf_calls (u : Value) (L : List Int) (w : World) (hr : Rd w .u8 u L) (hib : isB L) (hL : L.length ≤ 100000) :
    Calls Try.prog 45 #[u] w fun e w' => e = .returned (.agg (nums .u8 (shaP L)).toArray) ∧ Below w.heap.size w w' := by
  obtain ⟨A0, c0, ev, _⟩ := hr.mid
  subst ev
  have HR := Aside0.mk hr
  have HIB := Aside0.mk hib
  have HL := Aside0.mk hL
  have HZ0 := Aside0.mk (show (w.alloc (.cells #[.int .u8 0, .int .u8 0, .int .u8 0, .int .u8 0, .int .u8 0, .int .u8 0, .int .u8 0, .int .u8 0, .int .u8 0, .int .u8 0, .int .u8 0, .int .u8 0, .int .u8 0, .int .u8 0, .int .u8 0, .int .u8 0, .int .u8 0, .int .u8 0, .int .u8 0, .int .u8 0, .int .u8 0, .int .u8 0, .int .u8 0, .int .u8 0, .int .u8 0, .int .u8 0, .int .u8 0, .int .u8 0, .int .u8 0, .int .u8 0, .int .u8 0, .int .u8 0] 69)).heap[w.heap.size]? = some (.cells (nums .u8 (fillL (fun _ => 0) 32 0)).toArray 69 (0, 0)) from blk_new w _)
  have HB0 := Aside0.mk (below_alloc (Below.refl w.heap.size w) (.cells #[.int .u8 0, .int .u8 0, .int .u8 0, .int .u8 0, .int .u8 0, .int .u8 0, .int .u8 0, .int .u8 0, .int .u8 0, .int .u8 0, .int .u8 0, .int .u8 0, .int .u8 0, .int .u8 0, .int .u8 0, .int .u8 0, .int .u8 0, .int .u8 0, .int .u8 0, .int .u8 0, .int .u8 0, .int .u8 0, .int .u8 0, .int .u8 0, .int .u8 0, .int .u8 0, .int .u8 0, .int .u8 0, .int .u8 0, .int .u8 0, .int .u8 0, .int .u8 0] 69))
  clear hr hib hL
  go_enter Try.func45, Try.ntmps45
  go_wp2_with fail
  obtain ⟨wx, hwx⟩ : ∃ wx, w.alloc (.cells #[.int .u8 0, .int .u8 0, .int .u8 0, .int .u8 0, .int .u8 0, .int .u8 0, .int .u8 0, .int .u8 0, .int .u8 0, .int .u8 0, .int .u8 0, .int .u8 0, .int .u8 0, .int .u8 0, .int .u8 0, .int .u8 0, .int .u8 0, .int .u8 0, .int .u8 0, .int .u8 0, .int .u8 0, .int .u8 0, .int .u8 0, .int .u8 0, .int .u8 0, .int .u8 0, .int .u8 0, .int .u8 0, .int .u8 0, .int .u8 0, .int .u8 0, .int .u8 0] 69) = wx := ⟨_, rfl⟩
  rw [hwx] at HZ0 HB0 ⊢
  clear hwx
  refine (dNew_calls _).mono ?_
  rintro e w1 ⟨rfl, hn, hb⟩
  have HB1 := Aside0.mk (below_step HB0.out hb)
  have HZ1 := Aside0.mk (blk_below HZ0.out hb)
  have HD1 := Aside0.mk (show DigS w1 wx.heap.size w.heap.size (.slice none 0 0) [] 0 from ⟨hn, OwnO.nil _ _ _ _⟩)
  have HP := Aside0.mk (show w.heap.size < wx.heap.size from blk_lt HZ0.out)
  obtain ⟨p, hp⟩ : ∃ p, wx.heap.size = p := ⟨_, rfl⟩
  rw [hp] at HD1 HP ⊢
  clear hn hb hp
  go_wp2_with fail
  refine (Write_calls _ L _ p w.heap.size _ [] 0 HD1.out (HR.out.below HB1.out) HIB.out HB1.out.size (Nat.le_of_lt HP.out) HL.out (by omega) (by omega)).mono ?_
  rintro e w2 ⟨rfl, v2, hd, hk, ha⟩
  rw [List.nil_append, Int.zero_add] at hd
  have HD2 := Aside0.mk hd
  have HB2 := Aside0.mk (Kp.from HB1.out hk (fun k hk => hk.elim (fun e => by rw [e]; exact Nat.le_of_lt HP.out) (fun e => by simp [Value.ownBlock] at e)))
  have HZ2 := Aside0.mk (hk.blk HZ1.out (fun h => h.elim (fun e => by have := HP.out; omega) (fun e => by simp [Value.ownBlock] at e)))
  clear hd hk ha
  go_wp2_with fail
  refine (Sum_calls _ p w.heap.size v2 L HD2.out HIB.out HL.out).mono ?_
  rintro e w3 ⟨rfl, hb⟩
  have HB3 := Aside0.mk (below_step HB2.out hb)
  have HZ3 := Aside0.mk (blk_below HZ2.out hb)
  have HT := Aside0.mk (there32 L HZ3.out)
  have H1 := Aside0.mk (ones_nums .u8 (shaP L))
  clear hb
  go_wp2_with (first | (refine wpList_store_mid rfl 69 (.tmp 2) (.tmp 9) rfl w.heap.size 0 (nums .u8 (shaP L)).toArray rfl rfl HT.out (info32A L) H1.out ?_))
  exact bodyPost_ret (results_cell (i := 2) rfl rfl (run_loadVar_mid _ w.heap.size 0 69 (nums .u8 (shaP L)) (.array 32 5) (World.rangeAt_setCells_same _ _ _ _ HT.out) Try.underlying69 rfl (info32L L))) rfl ⟨rfl, below_cells (Nat.le_refl _) _ _ _ HB3.out⟩
/-- A digit; sixteen by sixteen. -/
def hdg (d : Int) : Int := if d < 10 then 48 + d else 87 + d
def hexP (l : List Int) : List Int := l.flatMap fun x => [hdg (x / 16), hdg (x % 16)]
theorem hexP_app (l m : List Int) : hexP (l ++ m) = hexP l ++ hexP m := by simp [hexP]
theorem hexP_len : ∀ l : List Int, (hexP l).length = 2 * l.length
  | [] => rfl
  | x :: l => by have := hexP_len l; simp only [hexP, List.flatMap_cons, List.length_append, List.length_cons, List.length_nil] at this ⊢; omega
theorem hexP_take (l : List Int) (k : Nat) (h : k < l.length) : hexP (l.take k) ++ [hdg (l.getD k 0 / 16), hdg (l.getD k 0 % 16)] = hexP (l.take (k + 1)) := by
  rw [List.take_add_one, List.getElem?_eq_getElem h, List.getD_eq_getElem?_getD, List.getElem?_eq_getElem h, hexP_app]; rfl
theorem dig_index (d : Int) (h0 : 0 ≤ d) (h1 : d ≤ 15) (W : World) : (Instr.index 9 (.string {data := #[48, 49, 50, 51, 52, 53, 54, 55, 56, 57, 97, 98, 99, 100, 101, 102]}) (.int .u8 d)).run Try.prog W = .ok (.int .u8 (hdg d)) W := by
  obtain ⟨n, rfl⟩ := Int.eq_ofNat_of_zero_le h0
  obtain rfl | rfl | rfl | rfl | rfl | rfl | rfl | rfl | rfl | rfl | rfl | rfl | rfl | rfl | rfl | rfl := (by omega : n = 0 ∨ n = 1 ∨ n = 2 ∨ n = 3 ∨ n = 4 ∨ n = 5 ∨ n = 6 ∨ n = 7 ∨ n = 8 ∨ n = 9 ∨ n = 10 ∨ n = 11 ∨ n = 12 ∨ n = 13 ∨ n = 14 ∨ n = 15) <;> (rw [run_index_string _ _ _ _ _ Try.underlying9]; rfl)
theorem and15b : ∀ n : Fin 256, bits .and .u8 (n.val : Int) 15 = (n.val : Int) % 16 := by decide +kernel
theorem and15u (x : Int) (h0 : 0 ≤ x) (h1 : x ≤ 255) : bits .and .u8 x 15 = x % 16 := by
  obtain ⟨n, rfl⟩ := Int.eq_ofNat_of_zero_le h0
  exact and15b ⟨n, by omega⟩
theorem info32N {l : List Int} (h : l.length = 32) : (Try.prog.info? 69).map (·.size) = some (nums .u8 l).length := by rw [nums_len, h]; exact info32
theorem index32 (ws : List Int) (x : Int) (i : Nat) (hi : i < 32) (hx : (nums .u8 ws).toArray[i]? = some (.int .u8 x)) (W : World) : (Instr.index 69 (.agg (nums .u8 ws).toArray) (.int .i64 i)).run Try.prog W = .ok (.int .u8 x) W := by
  have hI : (Try.prog.info? 5).map (·.size) = some 1 := by kernel_rfl
  obtain ⟨i5, hi5, hz5⟩ := Option.map_eq_some_iff.1 hI
  have c1 : (0 : Int) ≤ (i : Int) ∧ (i : Int) < 32 := by omega
  have hp : (part 5 (nums .u8 ws).toArray i).run Try.prog W = .ok (.int .u8 x) W := by
    unfold part isAgg
    simp only [Sem.run_bind, run_underlying Try.underlying5, Result.andThen_ok, Sem.run_pure, hx]
    simp
  unfold Instr.index
  simp only [asIntOf, Sem.run_bind, Sem.run_pure, run_underlying Try.underlying69, Result.andThen_ok, sizeOf, typeInfo, hi5]
  simp [hi5, hz5, hp, c1.2]
set_option maxHeartbeats 8000000 in
set_option maxRecDepth 100000 in
theorem dHex_calls (l : List Int) (w : World) (hl : l.length = 32) (hib : isB l) :
    Calls Try.prog 50 #[.agg (nums .u8 l).toArray] w fun e w' => e = .returned (.string (strOfNums (hexP l))) ∧ Below w.heap.size w w' := by
  have HIB := Aside0.mk hib
  have HL := Aside0.mk hl
  have HA := Aside0.mk (blk_new w (.cells (nums .u8 l).toArray 69))
  have HB0 := Aside0.mk (below_alloc (Below.refl w.heap.size w) (.cells (nums .u8 l).toArray 69))
  clear hib hl
  go_enter Try.func50, Try.ntmps50
  go_wp2_with (first | (refine wpList_load_mid rfl 69 (.tmp 1) rfl w.heap.size 0 rfl (nums .u8 l) (.array 32 5) (range_blk HA.out) Try.underlying69 rfl (info32N HL.out) ?_))
  go_loopw [3, 5, 7] (fun v3 v5 v7 w' => ∃ k : Nat, k ≤ 32 ∧ v7 = .int .i64 k ∧ Aside0 (Own (Value.int .u8) w' w.heap.size 5 v3 (hexP (l.take k))) ∧ Aside0 (Below w.heap.size w w')) (fun _ _ v7 _ => 32 - (intOf v7).toNat)
  case atStart => exact ⟨0, by omega, rfl, ⟨Own.nil _ _ _ _⟩, HB0⟩
  case round =>
    clear HA HB0
    obtain ⟨k, hk, rfl, HO, HB⟩ := hrel
    obtain ⟨A5, c5, e5⟩ := own_slice HO.out
    subst e5
    have HL5 := Aside0.mk (show (hexP (l.take k)).length = 2 * k by rw [hexP_len, List.length_take, HL.out]; omega)
    rw [HL5.out] at HO ⊢
    by_cases c1 : k < 32
    · obtain ⟨x, ex⟩ : ∃ x, l.getD k 0 = x := ⟨_, rfl⟩
      have hidx := nums_get .u8 l k (by rw [HL.out]; exact c1)
      rw [ex] at hidx
      obtain ⟨x0, x1⟩ : 0 ≤ x ∧ x ≤ 255 := by rw [← ex]; exact HIB.out.getD k
      have hix := index32 l x k c1 hidx
      have HSU := Aside0.mk (show hexP (l.take k) ++ [hdg (x / 16), hdg (x % 16)] = hexP (l.take (k + 1)) by rw [← ex]; exact hexP_take l k (by rw [HL.out]; exact c1))
      have ha := and15u x x0 x1
      have hd1 := dig_index (x / 16) (by omega) (by omega)
      have hd2 := dig_index (x % 16) (by omega) (by omega)
      obtain ⟨y, hy⟩ : ∃ y, hdg (x / 16) = y := ⟨_, rfl⟩
      obtain ⟨z, hz⟩ : ∃ y, hdg (x % 16) = y := ⟨_, rfl⟩
      rw [hy] at hd1 HSU
      rw [hz] at hd2 HSU
      clear ex hidx hy hz
      obtain ⟨A7, c7, w7, hrun7, hO7, hg7, hat7⟩ := app8 (W := wr.drew.alloc (.cells #[.int .u8 y, .int .u8 z] 5)) (base := w.heap.size) (HO.out.below (below_alloc (below_drew (Below.refl _ _)) _)) (lit_rdE (Value.int .u8) 0 wr.drew 5 [y, z] (by simp)) (below_alloc (below_drew HB.out) _).size (by rw [HL5.out]; show 2 * k + 2 ≤ _; omega)
      rw [HSU.out] at hrun7 hO7 hat7
      have HL6 := Aside0.mk (show (hexP (l.take (k + 1))).length = 2 * (k + 1) by rw [hexP_len, List.length_take, HL.out]; omega)
      rw [HL6.out] at hrun7 hO7 hat7
      have HO7 := Aside0.mk hO7
      have HB7 := Aside0.mk (Kp.from (below_alloc (below_drew HB.out) _) (Kp.of_grown hg7) (fun k hk => HO.out.ge hk))
      have HR7 := Aside0.mk hrun7
      clear hrun7 hO7 hg7 hat7
      go_wp2_with fail
      refine start_ (n := 10) (S := fun w' => True) (ds := [8]) #[false, false, false, false, false, false, false, false, false, false] (by kernel_rfl) rfl rfl trivial (fun hHeld => ?_)
      refine pure_ (i := 0) (N := some 10) (v := ?_) (a' := ?_) #[true, false, false, false, false, false, false, false, false, false] rfl rfl (by kernel_rfl) (fun _ _ _ h => h) (Or.inl ⟨by rfl, ?_⟩) ?_ ?_
      rotate_left
      · intro w'
        go_simp
        with_reducible rfl
      rotate_left
      · simp only [Act.put, List.setIfInBounds_toArray, List.set_cons_zero, List.set_cons_succ, i64_w, i32_w]
        rfl
      refine pure_ (i := 1) (N := some 11) (v := ?_) (a' := ?_) #[true, true, false, false, false, false, false, false, false, false] rfl rfl (by kernel_rfl) (fun _ _ _ h => h) (Or.inl ⟨by rfl, ?_⟩) ?_ ?_
      rotate_left
      · intro w'
        go_simp
        with_reducible rfl
      rotate_left
      · simp only [Act.put, List.setIfInBounds_toArray, List.set_cons_zero, List.set_cons_succ, i64_w, i32_w]
        rfl
      refine pure_ (i := 2) (N := some 12) (v := ?_) (a' := ?_) #[true, true, true, false, false, false, false, false, false, false] rfl rfl (by kernel_rfl) (fun _ _ _ h => h) (Or.inl ⟨by rfl, ?_⟩) ?_ ?_
      rotate_left
      · intro w'
        go_simp
        with_reducible rfl
      rotate_left
      · simp only [Act.put, List.setIfInBounds_toArray, List.set_cons_zero, List.set_cons_succ, i64_w, i32_w]
        rfl
      refine pure_ (i := 4) (N := some 14) (v := ?_) (a' := ?_) #[true, true, true, false, true, false, false, false, false, false] rfl rfl (by kernel_rfl) (fun _ _ _ h => h) (Or.inl ⟨by rfl, ?_⟩) ?_ ?_
      rotate_left
      · intro w'
        go_simp
        with_reducible rfl
      rotate_left
      · simp only [Act.put, List.setIfInBounds_toArray, List.set_cons_zero, List.set_cons_succ, i64_w, i32_w]
        rfl
      refine pure_ (i := 5) (N := some 15) (v := ?_) (a' := ?_) #[true, true, true, false, true, true, false, false, false, false] rfl rfl (by kernel_rfl) (fun _ _ _ h => h) (Or.inl ⟨by rfl, ?_⟩) ?_ ?_
      rotate_left
      · intro w'
        go_simp
        with_reducible rfl
      rotate_left
      · simp only [Act.put, List.setIfInBounds_toArray, List.set_cons_zero, List.set_cons_succ, i64_w, i32_w]
        rfl
      refine take_ (i := 3) (N := some 13) (v := ?_) (a' := ?_) #[true, true, true, true, true, true, false, false, false, false] rfl rfl (by kernel_rfl) (fun _ _ _ h => h) (Or.inl ⟨by rfl, ?_⟩) hHeld ?_ ?_
      rotate_left
      · intro w' _
        go_simp
        with_reducible rfl
      rotate_left
      · simp only [Act.put, List.setIfInBounds_toArray, List.set_cons_zero, List.set_cons_succ, i64_w, i32_w]
        rfl
      refine take_ (i := 6) (N := some 16) (v := ?_) (a' := ?_) #[true, true, true, true, true, true, true, false, false, false] rfl rfl (by kernel_rfl) (fun _ _ _ h => h) (Or.inl ⟨by rfl, ?_⟩) hHeld ?_ ?_
      rotate_left
      · intro w' _
        go_simp
        with_reducible rfl
      rotate_left
      · simp only [Act.put, List.setIfInBounds_toArray, List.set_cons_zero, List.set_cons_succ, i64_w, i32_w]
        rfl
      refine one_ (i := 7) (N := some 17) #[true, true, true, true, true, true, true, true, false, false] rfl rfl (by kernel_rfl) (by decide) (fun K hK => ?_)
      refine value_ (w1 := ?_) (v := ?_) (by rfl) rfl ?_ ?_
      rotate_left 2
      · go_simp
        constructor
        · rfl
        · rfl
      refine hK.out _ _ trivial (fun hHeld => ?_)
      clear hK K
      refine norm_ (a' := ?_) ?_ ?_
      rotate_left
      · show Act.put _ (some 17) _ = _
        simp only [Act.put, List.setIfInBounds_toArray, List.set_cons_zero, List.set_cons_succ, i64_w, i32_w]
        rfl
      refine last_ (i := 8) (N := some 18) #[true, true, true, true, true, true, true, true, true, false] rfl rfl (by kernel_rfl) (by decide) (fun K hK => ?_)
      refine app_step (by rfl) (.tmp 10) (.tmp 17) rfl rfl rfl HR7.out ?_
      refine hK.out _ _ ?_
      clear hK K
      refine norm_ (a' := ?_) ?_ ?_
      rotate_left
      · show Act.put _ (some 18) _ = _
        simp only [Act.put, List.setIfInBounds_toArray, List.set_cons_zero, List.set_cons_succ, i64_w, i32_w]
        rfl
      refine pure_ (i := 9) (N := some 3) (v := ?_) (a' := ?_) #[true, true, true, true, true, true, true, true, true, true] rfl rfl (by kernel_rfl) (fun _ _ _ h => h) (Or.inl ⟨by rfl, ?_⟩) ?_ ?_
      rotate_left
      · intro w'
        go_simp
        with_reducible rfl
      rotate_left
      · simp only [Act.put, List.setIfInBounds_toArray, List.set_cons_zero, List.set_cons_succ, i64_w, i32_w]
        rfl
      refine done_ (by kernel_rfl) ?_
      clear hix ha hd1 hd2 HR7
      go_wp2_with fail
      go_roundw
      case rel => exact ⟨k + 1, by omega, by go_num, HO7, HB7⟩
      case measure => simp [intOf] <;> omega
    · obtain rfl : k = 32 := by omega
      rw [show 2 * 32 = 64 from rfl] at HO ⊢
      have HF := Aside0.mk (show hexP (l.take 32) = hexP l by rw [List.take_of_length_le (by rw [HL.out]; exact Nat.le_refl _)])
      have hR := Own.rd HO.out
      obtain ⟨A9, c9, e9, _, _, hR9⟩ := hR.mid
      simp only [Value.slice.injEq] at e9
      obtain ⟨rfl, e9, rfl⟩ := e9
      have hcv := string_of_reads (P := Try.prog) (c := c5) Try.underlying50 Try.underlying5 Try.underlying9 hR9
      rw [← e9, HF.out] at hcv
      clear e9
      clear hR hR9
      go_wp2_with fail
      go_ret
      exact ⟨rfl, HB.out⟩
end Go.Proofs.Ytekbidjfddanhaa
