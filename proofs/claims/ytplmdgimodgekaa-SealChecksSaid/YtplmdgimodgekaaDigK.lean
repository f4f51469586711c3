/- SHA-256: a block is taken in. -/
import Derived.Test.YtplmdgimodgekaaDigP
namespace Go.Proofs.Ytplmdgimodgekaa
open Go.RowKit Go.Proofs.YtplmdgimodgekaaW.PrintWords Go.Proofs.YtplmdgimodgekaaW.PrintLast Go.Proofs.YtplmdgimodgekaaW.PrintMore
attribute [local go_sem] max2_int min2_int max_two min_two max_three min_three max_four min_four   -- for this text's walks alone
set_option linter.unusedVariables false
set_option linter.unusedSimpArgs false

def hashA (hs : List Int) (v : Value) (n : Int) : Array Value := (nums .u32 hs ++ [v, .int .u64 n]).toArray
def HashV (W : World) (g : Nat) (hs : List Int) (v : Value) (n : Int) : Prop := W.heap[g]? = some (.cells (hashA hs v n) 215 (0, 0))
theorem hashA_get {hs : List Int} (hl : hs.length = 8) (v : Value) (n : Int) (i : Nat) (h : i < 8) : (hashA hs v n)[i]? = some (.int .u32 (hs.getD i 0)) := by
  simp only [hashA, List.getElem?_toArray]
  rw [List.getElem?_append_left (by simp [nums]; omega)]
  simp [nums, List.getD_eq_getElem?_getD, hl, h]
theorem hashA_8 {hs : List Int} (hl : hs.length = 8) (v : Value) (n : Int) : (hashA hs v n)[8]? = some v := by
  simp only [hashA, List.getElem?_toArray]
  rw [List.getElem?_append_right (by simp [nums]; omega)]
  simp [nums, hl]
theorem hashA_9 {hs : List Int} (hl : hs.length = 8) (v : Value) (n : Int) : (hashA hs v n)[9]? = some (.int .u64 n) := by
  simp only [hashA, List.getElem?_toArray]
  rw [List.getElem?_append_right (by simp [nums]; omega)]
  simp [nums, hl]
theorem hashA_set {hs : List Int} (hl : hs.length = 8) (v : Value) (n : Int) (i : Nat) (h : i < 8) (x : Int) : (hashA hs v n).setIfInBounds i (.int .u32 x) = hashA (hs.set i x) v n := by
  simp only [hashA, List.setIfInBounds_toArray]
  rw [List.set_append_left _ _ (by simp [nums]; omega)]
  simp [nums, List.map_set]
theorem hashA_set8 {hs : List Int} (hl : hs.length = 8) (v : Value) (n : Int) (u : Value) : (hashA hs v n).setIfInBounds 8 u = hashA hs u n := by
  simp only [hashA, List.setIfInBounds_toArray]
  rw [List.set_append_right _ _ (by simp [nums]; omega)]
  simp [nums, hl]
theorem hashA_set9 {hs : List Int} (hl : hs.length = 8) (v : Value) (n m : Int) : (hashA hs v n).setIfInBounds 9 (.int .u64 m) = hashA hs v m := by
  simp only [hashA, List.setIfInBounds_toArray]
  rw [List.set_append_right _ _ (by simp [nums]; omega)]
  simp [nums, hl]
theorem fill_get (f : Nat → Int) (k i j : Nat) (hi : i ≤ k) (hj : j < i) : (nums .u32 (fillL f k i)).toArray[j]? = some (.int .u32 (f j)) := by
  rw [nums_get .u32 _ j (by rw [fillL_len _ _ _ hi]; omega)]
  congr 2
  rw [fillL, List.getD_eq_getElem?_getD, List.getElem?_append_left (by simpa using hj), List.getElem?_map, List.getElem?_range hj]; rfl
theorem set8 {W : World} {b T : Nat} {v0 v1 v2 v3 v4 v5 v6 v7 : Value} (H : W.heap[b]? = some (.cells #[v0, v1, v2, v3, v4, v5, v6, v7] T (0, 0))) (x0 x1 x2 x3 x4 x5 x6 x7 : Value) : ((((((((W.setCell ⟨b, 0, none⟩ x0).setCell ⟨b, 1, none⟩ x1).setCell ⟨b, 2, none⟩ x2).setCell ⟨b, 3, none⟩ x3).setCell ⟨b, 4, none⟩ x4).setCell ⟨b, 5, none⟩ x5).setCell ⟨b, 6, none⟩ x6).setCell ⟨b, 7, none⟩ x7).heap[b]? = some (.cells #[x0, x1, x2, x3, x4, x5, x6, x7] T (0, 0)) := by
  have h0 := blk_set H 0 x0
  simp only [List.setIfInBounds_toArray, List.set_cons_zero, List.set_cons_succ] at h0
  have h1 := blk_set h0 1 x1
  simp only [List.setIfInBounds_toArray, List.set_cons_zero, List.set_cons_succ] at h1
  have h2 := blk_set h1 2 x2
  simp only [List.setIfInBounds_toArray, List.set_cons_zero, List.set_cons_succ] at h2
  have h3 := blk_set h2 3 x3
  simp only [List.setIfInBounds_toArray, List.set_cons_zero, List.set_cons_succ] at h3
  have h4 := blk_set h3 4 x4
  simp only [List.setIfInBounds_toArray, List.set_cons_zero, List.set_cons_succ] at h4
  have h5 := blk_set h4 5 x5
  simp only [List.setIfInBounds_toArray, List.set_cons_zero, List.set_cons_succ] at h5
  have h6 := blk_set h5 6 x6
  simp only [List.setIfInBounds_toArray, List.set_cons_zero, List.set_cons_succ] at h6
  have h7 := blk_set h6 7 x7
  simp only [List.setIfInBounds_toArray, List.set_cons_zero, List.set_cons_succ] at h7
  exact h7
theorem far8 {W : World} {b g T : Nat} {cs : Array Value} (H : W.heap[g]? = some (.cells cs T (0, 0))) (hp : g ≠ b) (x0 x1 x2 x3 x4 x5 x6 x7 : Value) : ((((((((W.setCell ⟨b, 0, none⟩ x0).setCell ⟨b, 1, none⟩ x1).setCell ⟨b, 2, none⟩ x2).setCell ⟨b, 3, none⟩ x3).setCell ⟨b, 4, none⟩ x4).setCell ⟨b, 5, none⟩ x5).setCell ⟨b, 6, none⟩ x6).setCell ⟨b, 7, none⟩ x7).heap[g]? = some (.cells cs T (0, 0)) := (blk_far (blk_far (blk_far (blk_far (blk_far (blk_far (blk_far (blk_far H (p := ⟨b, 0, none⟩) hp x0) (p := ⟨b, 1, none⟩) hp x1) (p := ⟨b, 2, none⟩) hp x2) (p := ⟨b, 3, none⟩) hp x3) (p := ⟨b, 4, none⟩) hp x4) (p := ⟨b, 5, none⟩) hp x5) (p := ⟨b, 6, none⟩) hp x6) (p := ⟨b, 7, none⟩) hp x7)
theorem below8 {w W : World} {b : Nat} (H : Below w.heap.size w W) (hp : w.heap.size ≤ b) (x0 x1 x2 x3 x4 x5 x6 x7 : Value) : Below w.heap.size w ((((((((W.setCell ⟨b, 0, none⟩ x0).setCell ⟨b, 1, none⟩ x1).setCell ⟨b, 2, none⟩ x2).setCell ⟨b, 3, none⟩ x3).setCell ⟨b, 4, none⟩ x4).setCell ⟨b, 5, none⟩ x5).setCell ⟨b, 6, none⟩ x6).setCell ⟨b, 7, none⟩ x7) := ((((((((H.setCell (p := ⟨b, 0, none⟩) hp x0).setCell (p := ⟨b, 1, none⟩) hp x1).setCell (p := ⟨b, 2, none⟩) hp x2).setCell (p := ⟨b, 3, none⟩) hp x3).setCell (p := ⟨b, 4, none⟩) hp x4).setCell (p := ⟨b, 5, none⟩) hp x5).setCell (p := ⟨b, 6, none⟩) hp x6).setCell (p := ⟨b, 7, none⟩) hp x7)

/-- The sum of words, the first j. -/
def addL (hs vs : List Int) (j : Nat) : List Int := (List.range 8).map fun i => if i < j then IntKind.u32.wrap (hs.getD i 0 + vs.getD i 0) else hs.getD i 0
theorem addL_0 {hs vs : List Int} (hl : hs.length = 8) : addL hs vs 0 = hs := by
  apply List.ext_getElem?
  intro i
  simp only [addL, List.getElem?_map]
  rcases Nat.lt_or_ge i 8 with h | h
  · rw [List.getElem?_range h, Option.map_some, if_neg (by omega), List.getD_eq_getElem?_getD, List.getElem?_eq_getElem (by omega)]; rfl
  · rw [List.getElem?_eq_none (by simpa using h), List.getElem?_eq_none (by omega)]; rfl
theorem addL_8 (hs bl : List Int) {vs : List Int} (h : stN hs bl 64 = vs) : addL hs vs 8 = blkP hs bl := by
  rw [addL, blkP, h]
  apply List.map_congr_left
  intro i hi
  rw [if_pos (List.mem_range.1 hi)]
theorem addL_len (hs vs : List Int) (j : Nat) : (addL hs vs j).length = 8 := by simp [addL]
theorem addL_at (hs vs : List Int) (j : Nat) (h : j < 8) : (addL hs vs j).getD j 0 = hs.getD j 0 := by
  rw [addL, List.getD_eq_getElem?_getD, List.getElem?_map, List.getElem?_range h, Option.map_some, if_neg (by omega)]; rfl
theorem addL_set (hs vs : List Int) (j : Nat) (h : j < 8) : (addL hs vs j).set j (IntKind.u32.wrap (hs.getD j 0 + vs.getD j 0)) = addL hs vs (j + 1) := by
  apply List.ext_getElem?
  intro i
  rw [List.getElem?_set, addL_len]
  by_cases e : j = i
  · subst e
    rw [if_pos rfl, if_pos h, addL, List.getElem?_map, List.getElem?_range h, Option.map_some, if_pos (by omega)]
  · rw [if_neg e, addL, addL, List.getElem?_map, List.getElem?_map]
    rcases Nat.lt_or_ge i 8 with h8 | h8
    · rw [List.getElem?_range h8, Option.map_some, Option.map_some]
      congr 1
      by_cases c : i < j
      · rw [if_pos c, if_pos (by omega)]
      · rw [if_neg c, if_neg (by omega)]
    · rw [List.getElem?_eq_none (by simpa using h8)]; rfl
set_option maxHeartbeats 8000000 in
set_option maxRecDepth 100000 in
theorem block_calls (u : Value) (bl : List Int) (w : World) (g : Nat) (hs : List Int) (v : Value) (n : Int) (H : HashV w g hs v n) (h8 : is8 hs) (hr : Rd w .u8 u bl) (hb : isB bl) (hl : bl.length = 64) :
    Calls Try.prog 146 #[.pointer (some ⟨g, 0, none⟩), u] w fun e w' => e = .returned (.tuple #[]) ∧ HashV w' g (blkP hs bl) v n ∧ Kp (fun k => k = g) w w' := by
  have HH := Aside0.mk H
  have H8 := Aside0.mk h8
  have HIB := Aside0.mk hb
  obtain ⟨A, c, rfl, hc, hm, hrd⟩ := hr.mid
  rw [hl] at hc hrd ⊢
  have HR := Aside0.mk hrd
  have HL := Aside0.mk hl
  have hgw : g < w.heap.size := blk_lt H
  clear H h8 hb hr hrd hl hm
  go_enter Try.func146, Try.ntmps146
  go_wp2_with fail
  go_loopw [5, 20] (fun v5 v20 w' => ∃ k : Nat, k ≤ 16 ∧ v20 = .int .i64 k ∧ Aside0 (w'.heap[w.heap.size]? = some (.cells (nums .u32 (fillL (wF bl) 64 k)).toArray 220 (0, 0))) ∧ Aside0 (Below w.heap.size w w')) (fun _ v20 _ => 16 - (intOf v20).toNat)
  case atStart => exact ⟨0, by omega, rfl, ⟨blk_new w _⟩, ⟨below_alloc (Below.refl _ _) _⟩⟩
  case round =>
    obtain ⟨k, hk, rfl, HX, HB⟩ := hrel
    by_cases c1 : k < 16
    · obtain ⟨ad, eA, hc0⟩ := rd_at (HR.out.below HB.out) (4 * k) (by omega)
      obtain ⟨ad1, eA1, hc1⟩ := rd_at (HR.out.below HB.out) (4 * k + 1) (by omega)
      obtain ⟨ad2, eA2, hc2⟩ := rd_at (HR.out.below HB.out) (4 * k + 2) (by omega)
      obtain ⟨ad3, eA3, hc3⟩ := rd_at (HR.out.below HB.out) (4 * k + 3) (by omega)
      rw [eA] at eA1 eA2 eA3
      cases eA1
      cases eA2
      cases eA3
      cases eA
      have HWD := Aside0.mk ((wd_or bl HIB.out k).trans (wF_lo (b := bl) c1).symm)
      have q0 := HIB.out.getD (4 * k)
      have q1 := HIB.out.getD (4 * k + 1)
      have q2 := HIB.out.getD (4 * k + 2)
      have q3 := HIB.out.getD (4 * k + 3)
      obtain ⟨x0, e0⟩ : ∃ x, bl.getD (4 * k) 0 = x := ⟨_, rfl⟩
      obtain ⟨x1, e1⟩ : ∃ x, bl.getD (4 * k + 1) 0 = x := ⟨_, rfl⟩
      obtain ⟨x2, e2⟩ : ∃ x, bl.getD (4 * k + 2) 0 = x := ⟨_, rfl⟩
      obtain ⟨x3, e3⟩ : ∃ x, bl.getD (4 * k + 3) 0 = x := ⟨_, rfl⟩
      rw [e0, e1, e2, e3] at HWD
      rw [e0] at q0 hc0
      rw [e1] at q1 hc1
      rw [e2] at q2 hc2
      rw [e3] at q3 hc3
      clear e0 e1 e2 e3
      rw [Addr.add, if_neg (by omega)] at hc1 hc2 hc3
      obtain ⟨V, hV⟩ : ∃ V, bits .or .u32 (bits .or .u32 (bits .or .u32 (x0 * 16777216) (x1 * 65536)) (x2 * 256)) x3 = V := ⟨_, rfl⟩
      rw [hV] at HWD
      have f1 := blk_frozen HX.out k
      obtain ⟨y, hy⟩ : ∃ y, wr.cell? ⟨w.heap.size, k, none⟩ = some y := ⟨_, (blk_cell HX.out k).trans (Array.getElem?_eq_getElem (by simp [nums, fillL_len _ 64 k (by omega)]; omega))⟩
      have HX2 := Aside0.mk (show (wr.setCell ⟨w.heap.size, k, none⟩ (.int .u32 V)).heap[w.heap.size]? = some (.cells (nums .u32 (fillL (wF bl) 64 (k + 1))).toArray 220 (0, 0)) by
        rw [blk_set HX.out k (.int .u32 V), nums_set, fillL_set (wF bl) 64 k (by omega) HWD.out.symm])
      have HB2 := Aside0.mk (show Below w.heap.size w (wr.setCell ⟨w.heap.size, k, none⟩ (.int .u32 V)) from HB.out.setCell (Nat.le_refl _) _)
      have m0 : IntKind.i64.wrap (4 * (k : Int)) = 4 * (k : Int) := by rw [IntKind.wrap_i64]; omega
      have m1 : IntKind.i64.wrap (4 * (k : Int) + 1) = 4 * (k : Int) + 1 := by rw [IntKind.wrap_i64]; omega
      have m2 : IntKind.i64.wrap (4 * (k : Int) + 2) = 4 * (k : Int) + 2 := by rw [IntKind.wrap_i64]; omega
      have m3 : IntKind.i64.wrap (4 * (k : Int) + 3) = 4 * (k : Int) + 3 := by rw [IntKind.wrap_i64]; omega
      have n0 : (4 * (k : Int)).toNat = 4 * k := by omega
      have n1 : (4 * (k : Int) + 1).toNat = 4 * k + 1 := by omega
      have n2 : (4 * (k : Int) + 2).toNat = 4 * k + 2 := by omega
      have n3 : (4 * (k : Int) + 3).toNat = 4 * k + 3 := by omega
      have w0 : IntKind.u32.wrap x0 = x0 := by rw [IntKind.wrap_u32]; omega
      have w1 : IntKind.u32.wrap x1 = x1 := by rw [IntKind.wrap_u32]; omega
      have w2 : IntKind.u32.wrap x2 = x2 := by rw [IntKind.wrap_u32]; omega
      have w3 : IntKind.u32.wrap x3 = x3 := by rw [IntKind.wrap_u32]; omega
      have s0 : IntKind.u32.wrap (x0 * 16777216) = x0 * 16777216 := by rw [IntKind.wrap_u32]; omega
      have s1 : IntKind.u32.wrap (x1 * 65536) = x1 * 65536 := by rw [IntKind.wrap_u32]; omega
      have s2 : IntKind.u32.wrap (x2 * 256) = x2 * 256 := by rw [IntKind.wrap_u32]; omega
      have i0 : (0 : Int) ≤ 4 * (k : Int) := by omega
      have i1 : 4 * (k : Int) < 64 := by omega
      have i2 : 4 * (k : Int) + 3 < 64 := by omega
      have i3 : (0 : Int) ≤ 4 * (k : Int) + 1 := by omega
      have i4 : (0 : Int) ≤ 4 * (k : Int) + 2 := by omega
      have i5 : (0 : Int) ≤ 4 * (k : Int) + 3 := by omega
      have i6 : 4 * (k : Int) + 1 < 64 := by omega
      have i7 : 4 * (k : Int) + 2 < 64 := by omega
      have i8 : (0 : Int) ≤ (k : Int) := by omega
      have i9 : (k : Int) < 64 := by omega
      clear q0 q1 q2 q3
      go_wp2_with fail
      refine start_ (n := 36) (S := fun w' => w'.cell? (ad.add (4 * k)) = some (.int .u8 x0) ∧ w'.cell? ⟨ad.block, ad.off + (4 * k + 1), none⟩ = some (.int .u8 x1) ∧ w'.cell? ⟨ad.block, ad.off + (4 * k + 2), none⟩ = some (.int .u8 x2) ∧ w'.cell? ⟨ad.block, ad.off + (4 * k + 3), none⟩ = some (.int .u8 x3)) (ds := [35]) #[false, false, false, false, false, false, false, false, false, false, false, false, false, false, false, false, false, false, false, false, false, false, false, false, false, false, false, false, false, false, false, false, false, false, false, false] (by kernel_rfl) rfl rfl ⟨hc0, hc1, hc2, hc3⟩ (fun hHeld => ?_)
      refine pure_ (i := 0) (N := some 23) (v := ?_) (a' := ?_) #[true, false, false, false, false, false, false, false, false, false, false, false, false, false, false, false, false, false, false, false, false, false, false, false, false, false, false, false, false, false, false, false, false, false, false, false] rfl rfl (by kernel_rfl) (fun _ _ _ h => h) (Or.inl ⟨by rfl, ?_⟩) ?_ ?_
      rotate_left
      · intro w'
        go_simp
        with_reducible rfl
      rotate_left
      · simp only [Act.put, List.setIfInBounds_toArray, List.set_cons_zero, List.set_cons_succ, i64_w, i32_w]
        rfl
      refine pure_ (i := 1) (N := some 24) (v := ?_) (a' := ?_) #[true, true, false, false, false, false, false, false, false, false, false, false, false, false, false, false, false, false, false, false, false, false, false, false, false, false, false, false, false, false, false, false, false, false, false, false] rfl rfl (by kernel_rfl) (fun _ _ _ h => h) (Or.inl ⟨by rfl, ?_⟩) ?_ ?_
      rotate_left
      · intro w'
        go_simp
        with_reducible rfl
      rotate_left
      · simp only [Act.put, List.setIfInBounds_toArray, List.set_cons_zero, List.set_cons_succ, i64_w, i32_w]
        rfl
      refine pure_ (i := 2) (N := some 25) (v := ?_) (a' := ?_) #[true, true, true, false, false, false, false, false, false, false, false, false, false, false, false, false, false, false, false, false, false, false, false, false, false, false, false, false, false, false, false, false, false, false, false, false] rfl rfl (by kernel_rfl) (fun _ _ _ h => h) (Or.inl ⟨by rfl, ?_⟩) ?_ ?_
      rotate_left
      · intro w'
        go_simp
        with_reducible rfl
      rotate_left
      · simp only [Act.put, List.setIfInBounds_toArray, List.set_cons_zero, List.set_cons_succ, i64_w, i32_w]
        rfl
      refine pure_ (i := 3) (N := some 26) (v := ?_) (a' := ?_) #[true, true, true, true, false, false, false, false, false, false, false, false, false, false, false, false, false, false, false, false, false, false, false, false, false, false, false, false, false, false, false, false, false, false, false, false] rfl rfl (by kernel_rfl) (fun _ _ _ h => h) (Or.inl ⟨by rfl, ?_⟩) ?_ ?_
      rotate_left
      · intro w'
        go_simp
        with_reducible rfl
      rotate_left
      · simp only [Act.put, List.setIfInBounds_toArray, List.set_cons_zero, List.set_cons_succ, i64_w, i32_w]
        rfl
      refine pure_ (i := 4) (N := some 27) (v := ?_) (a' := ?_) #[true, true, true, true, true, false, false, false, false, false, false, false, false, false, false, false, false, false, false, false, false, false, false, false, false, false, false, false, false, false, false, false, false, false, false, false] rfl rfl (by kernel_rfl) (fun _ _ _ h => h) (Or.inl ⟨by rfl, ?_⟩) ?_ ?_
      rotate_left
      · intro w'
        go_simp
        with_reducible rfl
      rotate_left
      · simp only [Act.put, List.setIfInBounds_toArray, List.set_cons_zero, List.set_cons_succ, i64_w, i32_w]
        rfl
      refine pure_ (i := 8) (N := some 31) (v := ?_) (a' := ?_) #[true, true, true, true, true, false, false, false, true, false, false, false, false, false, false, false, false, false, false, false, false, false, false, false, false, false, false, false, false, false, false, false, false, false, false, false] rfl rfl (by kernel_rfl) (fun _ _ _ h => h) (Or.inl ⟨by rfl, ?_⟩) ?_ ?_
      rotate_left
      · intro w'
        go_simp
        with_reducible rfl
      rotate_left
      · simp only [Act.put, List.setIfInBounds_toArray, List.set_cons_zero, List.set_cons_succ, i64_w, i32_w]
        rfl
      refine pure_ (i := 9) (N := some 32) (v := ?_) (a' := ?_) #[true, true, true, true, true, false, false, false, true, true, false, false, false, false, false, false, false, false, false, false, false, false, false, false, false, false, false, false, false, false, false, false, false, false, false, false] rfl rfl (by kernel_rfl) (fun _ _ _ h => h) (Or.inl ⟨by rfl, ?_⟩) ?_ ?_
      rotate_left
      · intro w'
        go_simp
        with_reducible rfl
      rotate_left
      · simp only [Act.put, List.setIfInBounds_toArray, List.set_cons_zero, List.set_cons_succ, i64_w, i32_w]
        rfl
      refine pure_ (i := 10) (N := some 33) (v := ?_) (a' := ?_) #[true, true, true, true, true, false, false, false, true, true, true, false, false, false, false, false, false, false, false, false, false, false, false, false, false, false, false, false, false, false, false, false, false, false, false, false] rfl rfl (by kernel_rfl) (fun _ _ _ h => h) (Or.inl ⟨by rfl, ?_⟩) ?_ ?_
      rotate_left
      · intro w'
        go_simp
        with_reducible rfl
      rotate_left
      · simp only [Act.put, List.setIfInBounds_toArray, List.set_cons_zero, List.set_cons_succ, i64_w, i32_w]
        rfl
      refine pure_ (i := 11) (N := some 34) (v := ?_) (a' := ?_) #[true, true, true, true, true, false, false, false, true, true, true, true, false, false, false, false, false, false, false, false, false, false, false, false, false, false, false, false, false, false, false, false, false, false, false, false] rfl rfl (by kernel_rfl) (fun _ _ _ h => h) (Or.inl ⟨by rfl, ?_⟩) ?_ ?_
      rotate_left
      · intro w'
        go_simp
        with_reducible rfl
      rotate_left
      · simp only [Act.put, List.setIfInBounds_toArray, List.set_cons_zero, List.set_cons_succ, i64_w, i32_w]
        rfl
      refine pure_ (i := 12) (N := some 35) (v := ?_) (a' := ?_) #[true, true, true, true, true, false, false, false, true, true, true, true, true, false, false, false, false, false, false, false, false, false, false, false, false, false, false, false, false, false, false, false, false, false, false, false] rfl rfl (by kernel_rfl) (fun _ _ _ h => h) (Or.inl ⟨by rfl, ?_⟩) ?_ ?_
      rotate_left
      · intro w'
        go_simp
        with_reducible rfl
      rotate_left
      · simp only [Act.put, List.setIfInBounds_toArray, List.set_cons_zero, List.set_cons_succ, i64_w, i32_w]
        rfl
      refine pure_ (i := 17) (N := some 40) (v := ?_) (a' := ?_) #[true, true, true, true, true, false, false, false, true, true, true, true, true, false, false, false, false, true, false, false, false, false, false, false, false, false, false, false, false, false, false, false, false, false, false, false] rfl rfl (by kernel_rfl) (fun _ _ _ h => h) (Or.inl ⟨by rfl, ?_⟩) ?_ ?_
      rotate_left
      · intro w'
        go_simp
        with_reducible rfl
      rotate_left
      · simp only [Act.put, List.setIfInBounds_toArray, List.set_cons_zero, List.set_cons_succ, i64_w, i32_w]
        rfl
      refine pure_ (i := 18) (N := some 41) (v := ?_) (a' := ?_) #[true, true, true, true, true, false, false, false, true, true, true, true, true, false, false, false, false, true, true, false, false, false, false, false, false, false, false, false, false, false, false, false, false, false, false, false] rfl rfl (by kernel_rfl) (fun _ _ _ h => h) (Or.inl ⟨by rfl, ?_⟩) ?_ ?_
      rotate_left
      · intro w'
        go_simp
        with_reducible rfl
      rotate_left
      · simp only [Act.put, List.setIfInBounds_toArray, List.set_cons_zero, List.set_cons_succ, i64_w, i32_w]
        rfl
      refine pure_ (i := 19) (N := some 42) (v := ?_) (a' := ?_) #[true, true, true, true, true, false, false, false, true, true, true, true, true, false, false, false, false, true, true, true, false, false, false, false, false, false, false, false, false, false, false, false, false, false, false, false] rfl rfl (by kernel_rfl) (fun _ _ _ h => h) (Or.inl ⟨by rfl, ?_⟩) ?_ ?_
      rotate_left
      · intro w'
        go_simp
        with_reducible rfl
      rotate_left
      · simp only [Act.put, List.setIfInBounds_toArray, List.set_cons_zero, List.set_cons_succ, i64_w, i32_w]
        rfl
      refine pure_ (i := 20) (N := some 43) (v := ?_) (a' := ?_) #[true, true, true, true, true, false, false, false, true, true, true, true, true, false, false, false, false, true, true, true, true, false, false, false, false, false, false, false, false, false, false, false, false, false, false, false] rfl rfl (by kernel_rfl) (fun _ _ _ h => h) (Or.inl ⟨by rfl, ?_⟩) ?_ ?_
      rotate_left
      · intro w'
        go_simp
        with_reducible rfl
      rotate_left
      · simp only [Act.put, List.setIfInBounds_toArray, List.set_cons_zero, List.set_cons_succ, i64_w, i32_w]
        rfl
      refine pure_ (i := 21) (N := some 44) (v := ?_) (a' := ?_) #[true, true, true, true, true, false, false, false, true, true, true, true, true, false, false, false, false, true, true, true, true, true, false, false, false, false, false, false, false, false, false, false, false, false, false, false] rfl rfl (by kernel_rfl) (fun _ _ _ h => h) (Or.inl ⟨by rfl, ?_⟩) ?_ ?_
      rotate_left
      · intro w'
        go_simp
        with_reducible rfl
      rotate_left
      · simp only [Act.put, List.setIfInBounds_toArray, List.set_cons_zero, List.set_cons_succ, i64_w, i32_w]
        rfl
      refine pure_ (i := 26) (N := some 49) (v := ?_) (a' := ?_) #[true, true, true, true, true, false, false, false, true, true, true, true, true, false, false, false, false, true, true, true, true, true, false, false, false, false, true, false, false, false, false, false, false, false, false, false] rfl rfl (by kernel_rfl) (fun _ _ _ h => h) (Or.inl ⟨by rfl, ?_⟩) ?_ ?_
      rotate_left
      · intro w'
        go_simp
        with_reducible rfl
      rotate_left
      · simp only [Act.put, List.setIfInBounds_toArray, List.set_cons_zero, List.set_cons_succ, i64_w, i32_w]
        rfl
      refine pure_ (i := 27) (N := some 50) (v := ?_) (a' := ?_) #[true, true, true, true, true, false, false, false, true, true, true, true, true, false, false, false, false, true, true, true, true, true, false, false, false, false, true, true, false, false, false, false, false, false, false, false] rfl rfl (by kernel_rfl) (fun _ _ _ h => h) (Or.inl ⟨by rfl, ?_⟩) ?_ ?_
      rotate_left
      · intro w'
        go_simp
        with_reducible rfl
      rotate_left
      · simp only [Act.put, List.setIfInBounds_toArray, List.set_cons_zero, List.set_cons_succ, i64_w, i32_w]
        rfl
      refine pure_ (i := 28) (N := some 51) (v := ?_) (a' := ?_) #[true, true, true, true, true, false, false, false, true, true, true, true, true, false, false, false, false, true, true, true, true, true, false, false, false, false, true, true, true, false, false, false, false, false, false, false] rfl rfl (by kernel_rfl) (fun _ _ _ h => h) (Or.inl ⟨by rfl, ?_⟩) ?_ ?_
      rotate_left
      · intro w'
        go_simp
        with_reducible rfl
      rotate_left
      · simp only [Act.put, List.setIfInBounds_toArray, List.set_cons_zero, List.set_cons_succ, i64_w, i32_w]
        rfl
      refine pure_ (i := 29) (N := some 52) (v := ?_) (a' := ?_) #[true, true, true, true, true, false, false, false, true, true, true, true, true, false, false, false, false, true, true, true, true, true, false, false, false, false, true, true, true, true, false, false, false, false, false, false] rfl rfl (by kernel_rfl) (fun _ _ _ h => h) (Or.inl ⟨by rfl, ?_⟩) ?_ ?_
      rotate_left
      · intro w'
        go_simp
        with_reducible rfl
      rotate_left
      · simp only [Act.put, List.setIfInBounds_toArray, List.set_cons_zero, List.set_cons_succ, i64_w, i32_w]
        rfl
      refine pure_ (i := 30) (N := some 53) (v := ?_) (a' := ?_) #[true, true, true, true, true, false, false, false, true, true, true, true, true, false, false, false, false, true, true, true, true, true, false, false, false, false, true, true, true, true, true, false, false, false, false, false] rfl rfl (by kernel_rfl) (fun _ _ _ h => h) (Or.inl ⟨by rfl, ?_⟩) ?_ ?_
      rotate_left
      · intro w'
        go_simp
        with_reducible rfl
      rotate_left
      · simp only [Act.put, List.setIfInBounds_toArray, List.set_cons_zero, List.set_cons_succ, i64_w, i32_w]
        rfl
      refine take_ (i := 5) (N := some 28) (v := ?_) (a' := ?_) #[true, true, true, true, true, true, false, false, true, true, true, true, true, false, false, false, false, true, true, true, true, true, false, false, false, false, true, true, true, true, true, false, false, false, false, false] rfl rfl (by kernel_rfl) (fun _ _ _ h => h) (Or.inl ⟨by rfl, ?_⟩) hHeld ?_ ?_
      rotate_left
      · rintro w' ⟨s0, s1, s2, s3⟩
        go_simp
        with_reducible rfl
      rotate_left
      · simp only [Act.put, List.setIfInBounds_toArray, List.set_cons_zero, List.set_cons_succ, i64_w, i32_w]
        rfl
      refine pure_ (i := 6) (N := some 29) (v := ?_) (a' := ?_) #[true, true, true, true, true, true, true, false, true, true, true, true, true, false, false, false, false, true, true, true, true, true, false, false, false, false, true, true, true, true, true, false, false, false, false, false] rfl rfl (by kernel_rfl) (fun _ _ _ h => h) (Or.inl ⟨by rfl, ?_⟩) ?_ ?_
      rotate_left
      · intro w'
        go_simp
        with_reducible rfl
      rotate_left
      · simp only [Act.put, List.setIfInBounds_toArray, List.set_cons_zero, List.set_cons_succ, i64_w, i32_w]
        rfl
      refine pure_ (i := 7) (N := some 30) (v := ?_) (a' := ?_) #[true, true, true, true, true, true, true, true, true, true, true, true, true, false, false, false, false, true, true, true, true, true, false, false, false, false, true, true, true, true, true, false, false, false, false, false] rfl rfl (by kernel_rfl) (fun _ _ _ h => h) (Or.inl ⟨by rfl, ?_⟩) ?_ ?_
      rotate_left
      · intro w'
        go_simp
        with_reducible rfl
      rotate_left
      · simp only [Act.put, List.setIfInBounds_toArray, List.set_cons_zero, List.set_cons_succ, i64_w, i32_w]
        rfl
      refine take_ (i := 13) (N := some 36) (v := ?_) (a' := ?_) #[true, true, true, true, true, true, true, true, true, true, true, true, true, true, false, false, false, true, true, true, true, true, false, false, false, false, true, true, true, true, true, false, false, false, false, false] rfl rfl (by kernel_rfl) (fun _ _ _ h => h) (Or.inl ⟨by rfl, ?_⟩) hHeld ?_ ?_
      rotate_left
      · rintro w' ⟨s0, s1, s2, s3⟩
        go_simp
        with_reducible rfl
      rotate_left
      · simp only [Act.put, List.setIfInBounds_toArray, List.set_cons_zero, List.set_cons_succ, i64_w, i32_w]
        rfl
      refine pure_ (i := 14) (N := some 37) (v := ?_) (a' := ?_) #[true, true, true, true, true, true, true, true, true, true, true, true, true, true, true, false, false, true, true, true, true, true, false, false, false, false, true, true, true, true, true, false, false, false, false, false] rfl rfl (by kernel_rfl) (fun _ _ _ h => h) (Or.inl ⟨by rfl, ?_⟩) ?_ ?_
      rotate_left
      · intro w'
        go_simp
        with_reducible rfl
      rotate_left
      · simp only [Act.put, List.setIfInBounds_toArray, List.set_cons_zero, List.set_cons_succ, i64_w, i32_w]
        rfl
      refine pure_ (i := 15) (N := some 38) (v := ?_) (a' := ?_) #[true, true, true, true, true, true, true, true, true, true, true, true, true, true, true, true, false, true, true, true, true, true, false, false, false, false, true, true, true, true, true, false, false, false, false, false] rfl rfl (by kernel_rfl) (fun _ _ _ h => h) (Or.inl ⟨by rfl, ?_⟩) ?_ ?_
      rotate_left
      · intro w'
        go_simp
        with_reducible rfl
      rotate_left
      · simp only [Act.put, List.setIfInBounds_toArray, List.set_cons_zero, List.set_cons_succ, i64_w, i32_w]
        rfl
      refine pure_ (i := 16) (N := some 39) (v := ?_) (a' := ?_) #[true, true, true, true, true, true, true, true, true, true, true, true, true, true, true, true, true, true, true, true, true, true, false, false, false, false, true, true, true, true, true, false, false, false, false, false] rfl rfl (by kernel_rfl) (fun _ _ _ h => h) (Or.inl ⟨by rfl, ?_⟩) ?_ ?_
      rotate_left
      · intro w'
        go_simp
        with_reducible rfl
      rotate_left
      · simp only [Act.put, List.setIfInBounds_toArray, List.set_cons_zero, List.set_cons_succ, i64_w, i32_w]
        rfl
      refine take_ (i := 22) (N := some 45) (v := ?_) (a' := ?_) #[true, true, true, true, true, true, true, true, true, true, true, true, true, true, true, true, true, true, true, true, true, true, true, false, false, false, true, true, true, true, true, false, false, false, false, false] rfl rfl (by kernel_rfl) (fun _ _ _ h => h) (Or.inl ⟨by rfl, ?_⟩) hHeld ?_ ?_
      rotate_left
      · rintro w' ⟨s0, s1, s2, s3⟩
        go_simp
        with_reducible rfl
      rotate_left
      · simp only [Act.put, List.setIfInBounds_toArray, List.set_cons_zero, List.set_cons_succ, i64_w, i32_w]
        rfl
      refine pure_ (i := 23) (N := some 46) (v := ?_) (a' := ?_) #[true, true, true, true, true, true, true, true, true, true, true, true, true, true, true, true, true, true, true, true, true, true, true, true, false, false, true, true, true, true, true, false, false, false, false, false] rfl rfl (by kernel_rfl) (fun _ _ _ h => h) (Or.inl ⟨by rfl, ?_⟩) ?_ ?_
      rotate_left
      · intro w'
        go_simp
        with_reducible rfl
      rotate_left
      · simp only [Act.put, List.setIfInBounds_toArray, List.set_cons_zero, List.set_cons_succ, i64_w, i32_w]
        rfl
      refine pure_ (i := 24) (N := some 47) (v := ?_) (a' := ?_) #[true, true, true, true, true, true, true, true, true, true, true, true, true, true, true, true, true, true, true, true, true, true, true, true, true, false, true, true, true, true, true, false, false, false, false, false] rfl rfl (by kernel_rfl) (fun _ _ _ h => h) (Or.inl ⟨by rfl, ?_⟩) ?_ ?_
      rotate_left
      · intro w'
        go_simp
        with_reducible rfl
      rotate_left
      · simp only [Act.put, List.setIfInBounds_toArray, List.set_cons_zero, List.set_cons_succ, i64_w, i32_w]
        rfl
      refine pure_ (i := 25) (N := some 48) (v := ?_) (a' := ?_) #[true, true, true, true, true, true, true, true, true, true, true, true, true, true, true, true, true, true, true, true, true, true, true, true, true, true, true, true, true, true, true, false, false, false, false, false] rfl rfl (by kernel_rfl) (fun _ _ _ h => h) (Or.inl ⟨by rfl, ?_⟩) ?_ ?_
      rotate_left
      · intro w'
        go_simp
        with_reducible rfl
      rotate_left
      · simp only [Act.put, List.setIfInBounds_toArray, List.set_cons_zero, List.set_cons_succ, i64_w, i32_w]
        rfl
      refine take_ (i := 31) (N := some 54) (v := ?_) (a' := ?_) #[true, true, true, true, true, true, true, true, true, true, true, true, true, true, true, true, true, true, true, true, true, true, true, true, true, true, true, true, true, true, true, true, false, false, false, false] rfl rfl (by kernel_rfl) (fun _ _ _ h => h) (Or.inl ⟨by rfl, ?_⟩) hHeld ?_ ?_
      rotate_left
      · rintro w' ⟨s0, s1, s2, s3⟩
        go_simp
        with_reducible rfl
      rotate_left
      · simp only [Act.put, List.setIfInBounds_toArray, List.set_cons_zero, List.set_cons_succ, i64_w, i32_w]
        rfl
      refine pure_ (i := 32) (N := some 55) (v := ?_) (a' := ?_) #[true, true, true, true, true, true, true, true, true, true, true, true, true, true, true, true, true, true, true, true, true, true, true, true, true, true, true, true, true, true, true, true, true, false, false, false] rfl rfl (by kernel_rfl) (fun _ _ _ h => h) (Or.inl ⟨by rfl, ?_⟩) ?_ ?_
      rotate_left
      · intro w'
        go_simp
        with_reducible rfl
      rotate_left
      · simp only [Act.put, List.setIfInBounds_toArray, List.set_cons_zero, List.set_cons_succ, i64_w, i32_w]
        rfl
      refine pure_ (i := 33) (N := some 56) (v := ?_) (a' := ?_) #[true, true, true, true, true, true, true, true, true, true, true, true, true, true, true, true, true, true, true, true, true, true, true, true, true, true, true, true, true, true, true, true, true, true, false, false] rfl rfl (by kernel_rfl) (fun _ _ _ h => h) (Or.inl ⟨by rfl, ?_⟩) ?_ ?_
      rotate_left
      · intro w'
        go_simp
        with_reducible rfl
      rotate_left
      · simp only [Act.put, List.setIfInBounds_toArray, List.set_cons_zero, List.set_cons_succ, i64_w, i32_w]
        rfl
      refine pure_ (i := 34) (N := some 57) (v := ?_) (a' := ?_) #[true, true, true, true, true, true, true, true, true, true, true, true, true, true, true, true, true, true, true, true, true, true, true, true, true, true, true, true, true, true, true, true, true, true, true, false] rfl rfl (by kernel_rfl) (fun _ _ _ h => h) (Or.inl ⟨by rfl, ?_⟩) ?_ ?_
      rotate_left
      · intro w'
        go_simp
        with_reducible rfl
      rotate_left
      · simp only [Act.put, List.setIfInBounds_toArray, List.set_cons_zero, List.set_cons_succ, i64_w, i32_w]
        rfl
      refine last_ (i := 35) (N := none) #[true, true, true, true, true, true, true, true, true, true, true, true, true, true, true, true, true, true, true, true, true, true, true, true, true, true, true, true, true, true, true, true, true, true, true, true] rfl rfl (by kernel_rfl) (by decide) (fun K hK => ?_)
      refine skip_ (w1 := ?_) (by rfl) rfl ?_ ?_
      rotate_left
      · go_simp
        rfl
      refine hK.out _ _ ?_
      clear hK K
      refine done_ (by kernel_rfl) ?_
      clear m0 m1 m2 m3 n0 n1 n2 n3 w0 w1 w2 w3 s0 s1 s2 hV
      go_wp2_with fail
      go_roundw
      case rel => exact ⟨k + 1, by omega, by go_num, ⟨blk_drew HX2.out⟩, ⟨below_drew HB2.out⟩⟩
      case measure => simp [intOf] <;> omega
    · obtain rfl : k = 16 := by omega
      go_wp2_with fail
      go_loopw [6, 7, 8, 9, 10] (fun v6 v7 v8 v9 v10 w' => ∃ k : Nat, 16 ≤ k ∧ k ≤ 64 ∧ v6 = .int .i64 k ∧ Aside0 (w'.heap[w.heap.size]? = some (.cells (nums .u32 (fillL (wF bl) 64 k)).toArray 220 (0, 0))) ∧ Aside0 (Below w.heap.size w w')) (fun v6 _ _ _ _ _ => 64 - (intOf v6).toNat)
      case atStart => exact ⟨16, by omega, by omega, rfl, HX, HB⟩
      case round =>
        clear HX HB c1 hk
        obtain ⟨k, hk0, hk, rfl, HX, HB⟩ := hrel
        by_cases c2 : k < 64
        · skip
          have z16 := (blk_cell HX.out (k - 16)).trans (fill_get (wF bl) 64 k (k - 16) (by omega) (by omega))
          have b16 := wF_bd HIB.out (k - 16)
          obtain ⟨y16, e16⟩ : ∃ y, wF bl (k - 16) = y := ⟨_, rfl⟩
          rw [e16] at z16 b16
          obtain ⟨b16l, b16h⟩ := b16
          have j16 : IntKind.i64.wrap ((k : Int) - 16) = (k : Int) - 16 := by rw [IntKind.wrap_i64]; omega
          have t16 : ((k : Int) - 16).toNat = k - 16 := by omega
          have u16 : (0 : Int) ≤ (k : Int) - 16 := by omega
          have v16 : (k : Int) - 16 < 64 := by omega
          have z15 := (blk_cell HX.out (k - 15)).trans (fill_get (wF bl) 64 k (k - 15) (by omega) (by omega))
          have b15 := wF_bd HIB.out (k - 15)
          obtain ⟨y15, e15⟩ : ∃ y, wF bl (k - 15) = y := ⟨_, rfl⟩
          rw [e15] at z15 b15
          obtain ⟨b15l, b15h⟩ := b15
          have j15 : IntKind.i64.wrap ((k : Int) - 15) = (k : Int) - 15 := by rw [IntKind.wrap_i64]; omega
          have t15 : ((k : Int) - 15).toNat = k - 15 := by omega
          have u15 : (0 : Int) ≤ (k : Int) - 15 := by omega
          have v15 : (k : Int) - 15 < 64 := by omega
          have z7 := (blk_cell HX.out (k - 7)).trans (fill_get (wF bl) 64 k (k - 7) (by omega) (by omega))
          have b7 := wF_bd HIB.out (k - 7)
          obtain ⟨y7, e7⟩ : ∃ y, wF bl (k - 7) = y := ⟨_, rfl⟩
          rw [e7] at z7 b7
          obtain ⟨b7l, b7h⟩ := b7
          have j7 : IntKind.i64.wrap ((k : Int) - 7) = (k : Int) - 7 := by rw [IntKind.wrap_i64]; omega
          have t7 : ((k : Int) - 7).toNat = k - 7 := by omega
          have u7 : (0 : Int) ≤ (k : Int) - 7 := by omega
          have v7 : (k : Int) - 7 < 64 := by omega
          have z2 := (blk_cell HX.out (k - 2)).trans (fill_get (wF bl) 64 k (k - 2) (by omega) (by omega))
          have b2 := wF_bd HIB.out (k - 2)
          obtain ⟨y2, e2⟩ : ∃ y, wF bl (k - 2) = y := ⟨_, rfl⟩
          rw [e2] at z2 b2
          obtain ⟨b2l, b2h⟩ := b2
          have j2 : IntKind.i64.wrap ((k : Int) - 2) = (k : Int) - 2 := by rw [IntKind.wrap_i64]; omega
          have t2 : ((k : Int) - 2).toNat = k - 2 := by omega
          have u2 : (0 : Int) ≤ (k : Int) - 2 := by omega
          have v2 : (k : Int) - 2 < 64 := by omega
          have hrec := wF_hi (b := bl) hk0
          rw [e16, e15, e7, e2] at hrec
          obtain ⟨S, hS⟩ : ∃ S, s0Z y15 = S := ⟨_, rfl⟩
          obtain ⟨T, hT⟩ : ∃ T, s1Z y2 = T := ⟨_, rfl⟩
          rw [hS, hT] at hrec
          have hS2 : bits .xor .u32 (bits .xor .u32 (rr 33554432 128 y15) (rr 16384 262144 y15)) (y15 / 8) = S := hS
          have hT2 : bits .xor .u32 (bits .xor .u32 (rr 32768 131072 y2) (rr 8192 524288 y2)) (y2 / 1024) = T := hT
          have kk0 : (0 : Int) ≤ (k : Int) := by omega
          have m16 : (16 : Int) ≤ (k : Int) := by omega
          have m15 : (15 : Int) ≤ (k : Int) := by omega
          have m7 : (7 : Int) ≤ (k : Int) := by omega
          have m2 : (2 : Int) ≤ (k : Int) := by omega
          have kk1 : (k : Int) < 64 := by omega
          have f1 := blk_frozen HX.out k
          obtain ⟨y, hy⟩ : ∃ y, wr.cell? ⟨w.heap.size, k, none⟩ = some y := ⟨_, (blk_cell HX.out k).trans (Array.getElem?_eq_getElem (by simp [nums, fillL_len _ 64 k (by omega)]; omega))⟩
          have HX2 := Aside0.mk (show (wr.setCell ⟨w.heap.size, k, none⟩ (.int .u32 (IntKind.u32.wrap (IntKind.u32.wrap (IntKind.u32.wrap (y16 + S) + y7) + T)))).heap[w.heap.size]? = some (.cells (nums .u32 (fillL (wF bl) 64 (k + 1))).toArray 220 (0, 0)) by
            rw [blk_set HX.out k _, nums_set, fillL_set (wF bl) 64 k c2 hrec])
          have HB2 := Aside0.mk (show Below w.heap.size w (wr.setCell ⟨w.heap.size, k, none⟩ (.int .u32 (IntKind.u32.wrap (IntKind.u32.wrap (IntKind.u32.wrap (y16 + S) + y7) + T)))) from HB.out.setCell (Nat.le_refl _) _)
          clear e16 e15 e7 e2 hrec hS hT
          go_wp2_with fail
          go_quiet (fail)
          go_wp2_with fail
          refine (rot32_7 y15 _ b15l b15h).mono ?_
          rintro e wx ⟨rfl, rfl⟩
          go_wp2_with fail
          refine (rot32_18 y15 _ b15l b15h).mono ?_
          rintro e wx ⟨rfl, rfl⟩
          go_wp2_with fail
          refine (rot32_17 y2 _ b2l b2h).mono ?_
          rintro e wx ⟨rfl, rfl⟩
          go_wp2_with fail
          refine (rot32_19 y2 _ b2l b2h).mono ?_
          rintro e wx ⟨rfl, rfl⟩
          go_wp2_with fail
          refine start_ (n := 16) (S := fun w' => w'.cell? ⟨w.heap.size, k - 16, none⟩ = some (.int .u32 y16) ∧ w'.cell? ⟨w.heap.size, k - 7, none⟩ = some (.int .u32 y7)) (ds := [15]) #[false, false, false, false, false, false, false, false, false, false, false, false, false, false, false, false] (by kernel_rfl) rfl rfl ⟨z16, z7⟩ (fun hHeld => ?_)
          refine pure_ (i := 0) (N := some 87) (v := ?_) (a' := ?_) #[true, false, false, false, false, false, false, false, false, false, false, false, false, false, false, false] rfl rfl (by kernel_rfl) (fun _ _ _ h => h) (Or.inl ⟨by rfl, ?_⟩) ?_ ?_
          rotate_left
          · intro w'
            go_simp
            with_reducible rfl
          rotate_left
          · simp only [Act.put, List.setIfInBounds_toArray, List.set_cons_zero, List.set_cons_succ, i64_w, i32_w]
            rfl
          refine pure_ (i := 1) (N := some 88) (v := ?_) (a' := ?_) #[true, true, false, false, false, false, false, false, false, false, false, false, false, false, false, false] rfl rfl (by kernel_rfl) (fun _ _ _ h => h) (Or.inl ⟨by rfl, ?_⟩) ?_ ?_
          rotate_left
          · intro w'
            go_simp
            with_reducible rfl
          rotate_left
          · simp only [Act.put, List.setIfInBounds_toArray, List.set_cons_zero, List.set_cons_succ, i64_w, i32_w]
            rfl
          refine pure_ (i := 2) (N := some 89) (v := ?_) (a' := ?_) #[true, true, true, false, false, false, false, false, false, false, false, false, false, false, false, false] rfl rfl (by kernel_rfl) (fun _ _ _ h => h) (Or.inl ⟨by rfl, ?_⟩) ?_ ?_
          rotate_left
          · intro w'
            go_simp
            with_reducible rfl
          rotate_left
          · simp only [Act.put, List.setIfInBounds_toArray, List.set_cons_zero, List.set_cons_succ, i64_w, i32_w]
            rfl
          refine pure_ (i := 3) (N := some 90) (v := ?_) (a' := ?_) #[true, true, true, true, false, false, false, false, false, false, false, false, false, false, false, false] rfl rfl (by kernel_rfl) (fun _ _ _ h => h) (Or.inl ⟨by rfl, ?_⟩) ?_ ?_
          rotate_left
          · intro w'
            go_simp
            with_reducible rfl
          rotate_left
          · simp only [Act.put, List.setIfInBounds_toArray, List.set_cons_zero, List.set_cons_succ, i64_w, i32_w]
            rfl
          refine pure_ (i := 5) (N := some 92) (v := ?_) (a' := ?_) #[true, true, true, true, false, true, false, false, false, false, false, false, false, false, false, false] rfl rfl (by kernel_rfl) (fun _ _ _ h => h) (Or.inl ⟨by rfl, ?_⟩) ?_ ?_
          rotate_left
          · intro w'
            go_simp
            with_reducible rfl
          rotate_left
          · simp only [Act.put, List.setIfInBounds_toArray, List.set_cons_zero, List.set_cons_succ, i64_w, i32_w]
            rfl
          refine pure_ (i := 7) (N := some 94) (v := ?_) (a' := ?_) #[true, true, true, true, false, true, false, true, false, false, false, false, false, false, false, false] rfl rfl (by kernel_rfl) (fun _ _ _ h => h) (Or.inl ⟨by rfl, ?_⟩) ?_ ?_
          rotate_left
          · intro w'
            go_simp
            with_reducible rfl
          rotate_left
          · simp only [Act.put, List.setIfInBounds_toArray, List.set_cons_zero, List.set_cons_succ, i64_w, i32_w]
            rfl
          refine pure_ (i := 8) (N := some 95) (v := ?_) (a' := ?_) #[true, true, true, true, false, true, false, true, true, false, false, false, false, false, false, false] rfl rfl (by kernel_rfl) (fun _ _ _ h => h) (Or.inl ⟨by rfl, ?_⟩) ?_ ?_
          rotate_left
          · intro w'
            go_simp
            with_reducible rfl
          rotate_left
          · simp only [Act.put, List.setIfInBounds_toArray, List.set_cons_zero, List.set_cons_succ, i64_w, i32_w]
            rfl
          refine pure_ (i := 9) (N := some 96) (v := ?_) (a' := ?_) #[true, true, true, true, false, true, false, true, true, true, false, false, false, false, false, false] rfl rfl (by kernel_rfl) (fun _ _ _ h => h) (Or.inl ⟨by rfl, ?_⟩) ?_ ?_
          rotate_left
          · intro w'
            go_simp
            with_reducible rfl
          rotate_left
          · simp only [Act.put, List.setIfInBounds_toArray, List.set_cons_zero, List.set_cons_succ, i64_w, i32_w]
            rfl
          refine pure_ (i := 12) (N := some 99) (v := ?_) (a' := ?_) #[true, true, true, true, false, true, false, true, true, true, false, false, true, false, false, false] rfl rfl (by kernel_rfl) (fun _ _ _ h => h) (Or.inl ⟨by rfl, ?_⟩) ?_ ?_
          rotate_left
          · intro w'
            go_simp
            with_reducible rfl
          rotate_left
          · simp only [Act.put, List.setIfInBounds_toArray, List.set_cons_zero, List.set_cons_succ, i64_w, i32_w]
            rfl
          refine take_ (i := 4) (N := some 91) (v := ?_) (a' := ?_) #[true, true, true, true, true, true, false, true, true, true, false, false, true, false, false, false] rfl rfl (by kernel_rfl) (fun _ _ _ h => h) (Or.inl ⟨by rfl, ?_⟩) hHeld ?_ ?_
          rotate_left
          · rintro w' ⟨s0, s1⟩
            go_simp
            with_reducible rfl
          rotate_left
          · simp only [Act.put, List.setIfInBounds_toArray, List.set_cons_zero, List.set_cons_succ, i64_w, i32_w]
            rfl
          refine pure_ (i := 6) (N := some 93) (v := ?_) (a' := ?_) #[true, true, true, true, true, true, true, true, true, true, false, false, true, false, false, false] rfl rfl (by kernel_rfl) (fun _ _ _ h => h) (Or.inl ⟨by rfl, ?_⟩) ?_ ?_
          rotate_left
          · intro w'
            go_simp
            with_reducible rfl
          rotate_left
          · simp only [Act.put, List.setIfInBounds_toArray, List.set_cons_zero, List.set_cons_succ, i64_w, i32_w]
            rfl
          refine take_ (i := 10) (N := some 97) (v := ?_) (a' := ?_) #[true, true, true, true, true, true, true, true, true, true, true, false, true, false, false, false] rfl rfl (by kernel_rfl) (fun _ _ _ h => h) (Or.inl ⟨by rfl, ?_⟩) hHeld ?_ ?_
          rotate_left
          · rintro w' ⟨s0, s1⟩
            go_simp
            with_reducible rfl
          rotate_left
          · simp only [Act.put, List.setIfInBounds_toArray, List.set_cons_zero, List.set_cons_succ, i64_w, i32_w]
            rfl
          refine pure_ (i := 11) (N := some 98) (v := ?_) (a' := ?_) #[true, true, true, true, true, true, true, true, true, true, true, true, true, false, false, false] rfl rfl (by kernel_rfl) (fun _ _ _ h => h) (Or.inl ⟨by rfl, ?_⟩) ?_ ?_
          rotate_left
          · intro w'
            go_simp
            with_reducible rfl
          rotate_left
          · simp only [Act.put, List.setIfInBounds_toArray, List.set_cons_zero, List.set_cons_succ, i64_w, i32_w]
            rfl
          refine pure_ (i := 13) (N := some 100) (v := ?_) (a' := ?_) #[true, true, true, true, true, true, true, true, true, true, true, true, true, true, false, false] rfl rfl (by kernel_rfl) (fun _ _ _ h => h) (Or.inl ⟨by rfl, ?_⟩) ?_ ?_
          rotate_left
          · intro w'
            go_simp
            with_reducible rfl
          rotate_left
          · simp only [Act.put, List.setIfInBounds_toArray, List.set_cons_zero, List.set_cons_succ, i64_w, i32_w]
            rfl
          refine pure_ (i := 14) (N := some 101) (v := ?_) (a' := ?_) #[true, true, true, true, true, true, true, true, true, true, true, true, true, true, true, false] rfl rfl (by kernel_rfl) (fun _ _ _ h => h) (Or.inl ⟨by rfl, ?_⟩) ?_ ?_
          rotate_left
          · intro w'
            go_simp
            with_reducible rfl
          rotate_left
          · simp only [Act.put, List.setIfInBounds_toArray, List.set_cons_zero, List.set_cons_succ, i64_w, i32_w]
            rfl
          refine last_ (i := 15) (N := none) #[true, true, true, true, true, true, true, true, true, true, true, true, true, true, true, true] rfl rfl (by kernel_rfl) (by decide) (fun K hK => ?_)
          refine skip_ (w1 := ?_) (by rfl) rfl ?_ ?_
          rotate_left
          · go_simp
            rfl
          refine hK.out _ _ ?_
          clear hK K
          refine done_ (by kernel_rfl) ?_
          clear j16 t16 j15 t15 j7 t7 j2 t2 hS2 hT2
          go_wp2_with fail
          go_roundw
          case rel => (repeat apply Exists.intro); exact ⟨⟨k + 1, by omega, by omega, by go_num, ⟨HX2.out⟩, ⟨HB2.out.os, HB2.out.tape, HB2.out.output, HB2.out.size, HB2.out.block⟩⟩, rfl⟩
          case measure => simp [intOf] <;> omega
        · obtain rfl : k = 64 := by omega
          obtain ⟨a0, a1, a2, a3, a4, a5, a6, a7, eH, ⟨lo0, hi0⟩, ⟨lo1, hi1⟩, ⟨lo2, hi2⟩, ⟨lo3, hi3⟩, ⟨lo4, hi4⟩, ⟨lo5, hi5⟩, ⟨lo6, hi6⟩, ⟨lo7, hi7⟩⟩ := list8 H8.out
          have HE := Aside0.mk eH
          have HH2 := Aside0.mk (blk_below HH.out HB.out)
          have HL8 := Aside0.mk (show hs.length = 8 from H8.out.1)
          have hGG := hashA_get HL8.out v n
          have c0 := (blk_cell HH2.out 0).trans (hGG 0 (by omega))
          have c1 := (blk_cell HH2.out 1).trans (hGG 1 (by omega))
          have c2 := (blk_cell HH2.out 2).trans (hGG 2 (by omega))
          have c3 := (blk_cell HH2.out 3).trans (hGG 3 (by omega))
          have c4 := (blk_cell HH2.out 4).trans (hGG 4 (by omega))
          have c5 := (blk_cell HH2.out 5).trans (hGG 5 (by omega))
          have c6 := (blk_cell HH2.out 6).trans (hGG 6 (by omega))
          have c7 := (blk_cell HH2.out 7).trans (hGG 7 (by omega))

          rw [eH] at c0 c1 c2 c3 c4 c5 c6 c7
          have HV1 := Aside0.mk (blk_new wr (.cells #[.int .u32 a0, .int .u32 a1, .int .u32 a2, .int .u32 a3, .int .u32 a4, .int .u32 a5, .int .u32 a6, .int .u32 a7] 213))
          have HX1 := Aside0.mk (blk_alloc HX.out (.cells #[.int .u32 a0, .int .u32 a1, .int .u32 a2, .int .u32 a3, .int .u32 a4, .int .u32 a5, .int .u32 a6, .int .u32 a7] 213))
          have HB1 := Aside0.mk (below_alloc HB.out (.cells #[.int .u32 a0, .int .u32 a1, .int .u32 a2, .int .u32 a3, .int .u32 a4, .int .u32 a5, .int .u32 a6, .int .u32 a7] 213))
          obtain ⟨p, hp⟩ : ∃ p, wr.heap.size = p := ⟨_, rfl⟩
          have HP := Aside0.mk hp
          have hwp : w.heap.size < p := by have := blk_lt HX.out; omega
          rw [hp] at HV1
          clear hp eH hGG
          go_wp2_with fail
          rw [HP.out]
          go_loopw [12, 13, 14, 15, 16, 17, 18, 106] (fun v12 v13 v14 v15 v16 v17 v18 v106 w' => ∃ (i : Nat) (q0 q1 q2 q3 q4 q5 q6 q7 : Int), i ≤ 64 ∧ v106 = .int .i64 i ∧ Aside0 (stN hs bl i = [q0, q1, q2, q3, q4, q5, q6, q7]) ∧ Aside0 (w'.heap[p]? = some (.cells #[.int .u32 q0, .int .u32 q1, .int .u32 q2, .int .u32 q3, .int .u32 q4, .int .u32 q5, .int .u32 q6, .int .u32 q7] 213 (0, 0))) ∧ Aside0 (w'.heap[w.heap.size]? = some (.cells (nums .u32 (fillL (wF bl) 64 64)).toArray 220 (0, 0))) ∧ Aside0 (Below w.heap.size w w')) (fun _ _ _ _ _ _ _ v106 _ => 64 - (intOf v106).toNat)
          case atStart => exact ⟨0, a0, a1, a2, a3, a4, a5, a6, a7, by omega, rfl, ⟨by rw [stN]; exact HE.out⟩, HV1, HX1, HB1⟩
          case round =>
            clear HX HB HX1 HB1 HV1 HP c0 lo0 hi0 c1 lo1 hi1 c2 lo2 hi2 c3 lo3 hi3 c4 lo4 hi4 c5 lo5 hi5 c6 lo6 hi6 c7 lo7 hi7 hk0
            obtain ⟨i, q0, q1, q2, q3, q4, q5, q6, q7, hi, rfl, HS, HV, HX, HB⟩ := hrel
            by_cases g3 : i < 64
            · skip
              have h8i := stN_8 H8.out bl i
              rw [HS.out] at h8i
              obtain ⟨_, lb⟩ := h8i
              obtain ⟨l0, h0⟩ := lb q0 (by simp)
              obtain ⟨l1, h1⟩ := lb q1 (by simp)
              obtain ⟨l2, h2⟩ := lb q2 (by simp)
              obtain ⟨l3, h3⟩ := lb q3 (by simp)
              obtain ⟨l4, h4⟩ := lb q4 (by simp)
              obtain ⟨l5, h5⟩ := lb q5 (by simp)
              obtain ⟨l6, h6⟩ := lb q6 (by simp)
              obtain ⟨l7, h7⟩ := lb q7 (by simp)
              clear lb
              have c0 : wr.cell? ⟨p, 0, none⟩ = some (.int .u32 q0) := (blk_cell HV.out 0).trans rfl
              have c1 : wr.cell? ⟨p, 1, none⟩ = some (.int .u32 q1) := (blk_cell HV.out 1).trans rfl
              have c2 : wr.cell? ⟨p, 2, none⟩ = some (.int .u32 q2) := (blk_cell HV.out 2).trans rfl
              have c3 : wr.cell? ⟨p, 3, none⟩ = some (.int .u32 q3) := (blk_cell HV.out 3).trans rfl
              have c4 : wr.cell? ⟨p, 4, none⟩ = some (.int .u32 q4) := (blk_cell HV.out 4).trans rfl
              have c5 : wr.cell? ⟨p, 5, none⟩ = some (.int .u32 q5) := (blk_cell HV.out 5).trans rfl
              have c6 : wr.cell? ⟨p, 6, none⟩ = some (.int .u32 q6) := (blk_cell HV.out 6).trans rfl
              have c7 : wr.cell? ⟨p, 7, none⟩ = some (.int .u32 q7) := (blk_cell HV.out 7).trans rfl
              have cx := (blk_cell HX.out i).trans (fill_get (wF bl) 64 64 i (by omega) g3)
              obtain ⟨x, ex⟩ : ∃ x, wF bl i = x := ⟨_, rfl⟩
              obtain ⟨kk, ek⟩ : ∃ x, kT.getD i 0 = x := ⟨_, rfl⟩
              have HR1 := Aside0.mk (fun ww => ek ▸ round_calls i ww g3)
              have HN := Aside0.mk (show stN hs bl (i + 1) = rndL kk x [q0, q1, q2, q3, q4, q5, q6, q7] by rw [stN, HS.out, ek, ex])
              rw [ex] at cx
              clear ex ek
              obtain ⟨s1, hs1⟩ : ∃ y, S1Z q4 = y := ⟨_, rfl⟩
              obtain ⟨s0, hs0⟩ : ∃ y, S0Z q0 = y := ⟨_, rfl⟩
              obtain ⟨ch, hch⟩ : ∃ y, chZ q4 q5 q6 = y := ⟨_, rfl⟩
              obtain ⟨mj, hmj⟩ : ∃ y, mjZ q0 q1 q2 = y := ⟨_, rfl⟩
              rw [rndL, hs1, hs0, hch, hmj] at HN
              have fs1 : bits .xor .u32 (bits .xor .u32 (rr 67108864 64 q4) (rr 2097152 2048 q4)) (rr 128 33554432 q4) = s1 := hs1
              have fs0 : bits .xor .u32 (bits .xor .u32 (rr 1073741824 4 q0) (rr 524288 8192 q0)) (rr 1024 4194304 q0) = s0 := hs0
              have fmx : (if IntKind.u32.signed = true then (-1 : Int) else IntKind.u32.max) = 4294967295 := rfl
              have fch : bits .xor .u32 (bits .and .u32 q4 q5) (bits .and .u32 (bits .xor .u32 4294967295 q4) q6) = ch := (ch_xor q4 q5 q6).trans hch
              have fmj : bits .xor .u32 (bits .xor .u32 (bits .and .u32 q0 q1) (bits .and .u32 q0 q2)) (bits .and .u32 q1 q2) = mj := (mj_xor q0 q1 q2).trans hmj
              clear hs1 hs0 hch hmj
              have i0 : (0 : Int) ≤ (i : Int) := by omega
              have i1 : (i : Int) < 64 := by omega
              go_wp2_with fail
              go_quiet (fail)
              go_wp2_with fail
              refine (rot32_6 q4 _ l4 h4).mono ?_
              rintro e wx ⟨rfl, rfl⟩
              go_wp2_with fail
              refine (rot32_11 q4 _ l4 h4).mono ?_
              rintro e wx ⟨rfl, rfl⟩
              go_wp2_with fail
              refine (rot32_25 q4 _ l4 h4).mono ?_
              rintro e wx ⟨rfl, rfl⟩
              go_wp2_with fail
              refine start_ (n := 23) (S := fun w' => w'.cell? ⟨p, 5, none⟩ = some (.int .u32 q5) ∧ w'.cell? ⟨p, 6, none⟩ = some (.int .u32 q6) ∧ w'.cell? ⟨p, 7, none⟩ = some (.int .u32 q7) ∧ w'.cell? ⟨w.heap.size, i, none⟩ = some (.int .u32 x)) (ds := []) #[false, false, false, false, false, false, false, false, false, false, false, false, false, false, false, false, false, false, false, false, false, false, false] (by kernel_rfl) rfl rfl ⟨c5, c6, c7, cx⟩ (fun hHeld => ?_)
              refine pure_ (i := 0) (N := some 121) (v := ?_) (a' := ?_) #[true, false, false, false, false, false, false, false, false, false, false, false, false, false, false, false, false, false, false, false, false, false, false] rfl rfl (by kernel_rfl) (fun _ _ _ h => h) (Or.inl ⟨by rfl, ?_⟩) ?_ ?_
              rotate_left
              · intro w'
                go_simp
                with_reducible rfl
              rotate_left
              · simp only [Act.put, List.setIfInBounds_toArray, List.set_cons_zero, List.set_cons_succ, i64_w, i32_w]
                rfl
              refine pure_ (i := 2) (N := some 123) (v := ?_) (a' := ?_) #[true, false, true, false, false, false, false, false, false, false, false, false, false, false, false, false, false, false, false, false, false, false, false] rfl rfl (by kernel_rfl) (fun _ _ _ h => h) (Or.inl ⟨by rfl, ?_⟩) ?_ ?_
              rotate_left
              · intro w'
                go_simp
                with_reducible rfl
              rotate_left
              · simp only [Act.put, List.setIfInBounds_toArray, List.set_cons_zero, List.set_cons_succ, i64_w, i32_w]
                rfl
              refine pure_ (i := 4) (N := some 125) (v := ?_) (a' := ?_) #[true, false, true, false, true, false, false, false, false, false, false, false, false, false, false, false, false, false, false, false, false, false, false] rfl rfl (by kernel_rfl) (fun _ _ _ h => h) (Or.inl ⟨by rfl, ?_⟩) ?_ ?_
              rotate_left
              · intro w'
                go_simp
                with_reducible rfl
              rotate_left
              · simp only [Act.put, List.setIfInBounds_toArray, List.set_cons_zero, List.set_cons_succ, i64_w, i32_w]
                rfl
              refine pure_ (i := 5) (N := some 126) (v := ?_) (a' := ?_) #[true, false, true, false, true, true, false, false, false, false, false, false, false, false, false, false, false, false, false, false, false, false, false] rfl rfl (by kernel_rfl) (fun _ _ _ h => h) (Or.inl ⟨by rfl, ?_⟩) ?_ ?_
              rotate_left
              · intro w'
                go_simp
                with_reducible rfl
              rotate_left
              · simp only [Act.put, List.setIfInBounds_toArray, List.set_cons_zero, List.set_cons_succ, i64_w, i32_w]
                rfl
              refine pure_ (i := 8) (N := some 129) (v := ?_) (a' := ?_) #[true, false, true, false, true, true, false, false, true, false, false, false, false, false, false, false, false, false, false, false, false, false, false] rfl rfl (by kernel_rfl) (fun _ _ _ h => h) (Or.inl ⟨by rfl, ?_⟩) ?_ ?_
              rotate_left
              · intro w'
                go_simp
                with_reducible rfl
              rotate_left
              · simp only [Act.put, List.setIfInBounds_toArray, List.set_cons_zero, List.set_cons_succ, i64_w, i32_w]
                rfl
              refine pure_ (i := 9) (N := some 130) (v := ?_) (a' := ?_) #[true, false, true, false, true, true, false, false, true, true, false, false, false, false, false, false, false, false, false, false, false, false, false] rfl rfl (by kernel_rfl) (fun _ _ _ h => h) (Or.inl ⟨by rfl, ?_⟩) ?_ ?_
              rotate_left
              · intro w'
                go_simp
                with_reducible rfl
              rotate_left
              · simp only [Act.put, List.setIfInBounds_toArray, List.set_cons_zero, List.set_cons_succ, i64_w, i32_w]
                rfl
              refine pure_ (i := 10) (N := some 131) (v := ?_) (a' := ?_) #[true, false, true, false, true, true, false, false, true, true, true, false, false, false, false, false, false, false, false, false, false, false, false] rfl rfl (by kernel_rfl) (fun _ _ _ h => h) (Or.inl ⟨by rfl, ?_⟩) ?_ ?_
              rotate_left
              · intro w'
                go_simp
                with_reducible rfl
              rotate_left
              · simp only [Act.put, List.setIfInBounds_toArray, List.set_cons_zero, List.set_cons_succ, i64_w, i32_w]
                rfl
              refine pure_ (i := 15) (N := some 136) (v := ?_) (a' := ?_) #[true, false, true, false, true, true, false, false, true, true, true, false, false, false, false, true, false, false, false, false, false, false, false] rfl rfl (by kernel_rfl) (fun _ _ _ h => h) (Or.inl ⟨by rfl, ?_⟩) ?_ ?_
              rotate_left
              · intro w'
                go_simp
                with_reducible rfl
              rotate_left
              · simp only [Act.put, List.setIfInBounds_toArray, List.set_cons_zero, List.set_cons_succ, i64_w, i32_w]
                rfl
              refine pure_ (i := 18) (N := some 139) (v := ?_) (a' := ?_) #[true, false, true, false, true, true, false, false, true, true, true, false, false, false, false, true, false, false, true, false, false, false, false] rfl rfl (by kernel_rfl) (fun _ _ _ h => h) (Or.inl ⟨by rfl, ?_⟩) ?_ ?_
              rotate_left
              · intro w'
                go_simp
                with_reducible rfl
              rotate_left
              · simp only [Act.put, List.setIfInBounds_toArray, List.set_cons_zero, List.set_cons_succ, i64_w, i32_w]
                rfl
              refine pure_ (i := 19) (N := some 140) (v := ?_) (a' := ?_) #[true, false, true, false, true, true, false, false, true, true, true, false, false, false, false, true, false, false, true, true, false, false, false] rfl rfl (by kernel_rfl) (fun _ _ _ h => h) (Or.inl ⟨by rfl, ?_⟩) ?_ ?_
              rotate_left
              · intro w'
                go_simp
                with_reducible rfl
              rotate_left
              · simp only [Act.put, List.setIfInBounds_toArray, List.set_cons_zero, List.set_cons_succ, i64_w, i32_w]
                rfl
              refine take_ (i := 1) (N := some 122) (v := ?_) (a' := ?_) #[true, true, true, false, true, true, false, false, true, true, true, false, false, false, false, true, false, false, true, true, false, false, false] rfl rfl (by kernel_rfl) (fun _ _ _ h => h) (Or.inl ⟨by rfl, ?_⟩) hHeld ?_ ?_
              rotate_left
              · rintro w' ⟨s0, s1, s2, s3⟩
                go_simp
                with_reducible rfl
              rotate_left
              · simp only [Act.put, List.setIfInBounds_toArray, List.set_cons_zero, List.set_cons_succ, i64_w, i32_w]
                rfl
              refine pure_ (i := 3) (N := some 124) (v := ?_) (a' := ?_) #[true, true, true, true, true, true, false, false, true, true, true, false, false, false, false, true, false, false, true, true, false, false, false] rfl rfl (by kernel_rfl) (fun _ _ _ h => h) (Or.inl ⟨by rfl, ?_⟩) ?_ ?_
              rotate_left
              · intro w'
                go_simp
                with_reducible rfl
              rotate_left
              · simp only [Act.put, List.setIfInBounds_toArray, List.set_cons_zero, List.set_cons_succ, i64_w, i32_w]
                rfl
              refine take_ (i := 6) (N := some 127) (v := ?_) (a' := ?_) #[true, true, true, true, true, true, true, false, true, true, true, false, false, false, false, true, false, false, true, true, false, false, false] rfl rfl (by kernel_rfl) (fun _ _ _ h => h) (Or.inl ⟨by rfl, ?_⟩) hHeld ?_ ?_
              rotate_left
              · rintro w' ⟨s0, s1, s2, s3⟩
                go_simp
                with_reducible rfl
              rotate_left
              · simp only [Act.put, List.setIfInBounds_toArray, List.set_cons_zero, List.set_cons_succ, i64_w, i32_w]
                rfl
              refine pure_ (i := 7) (N := some 128) (v := ?_) (a' := ?_) #[true, true, true, true, true, true, true, true, true, true, true, false, false, false, false, true, false, false, true, true, false, false, false] rfl rfl (by kernel_rfl) (fun _ _ _ h => h) (Or.inl ⟨by rfl, ?_⟩) ?_ ?_
              rotate_left
              · intro w'
                go_simp
                with_reducible rfl
              rotate_left
              · simp only [Act.put, List.setIfInBounds_toArray, List.set_cons_zero, List.set_cons_succ, i64_w, i32_w]
                rfl
              refine take_ (i := 11) (N := some 132) (v := ?_) (a' := ?_) #[true, true, true, true, true, true, true, true, true, true, true, true, false, false, false, true, false, false, true, true, false, false, false] rfl rfl (by kernel_rfl) (fun _ _ _ h => h) (Or.inl ⟨by rfl, ?_⟩) hHeld ?_ ?_
              rotate_left
              · rintro w' ⟨s0, s1, s2, s3⟩
                go_simp
                with_reducible rfl
              rotate_left
              · simp only [Act.put, List.setIfInBounds_toArray, List.set_cons_zero, List.set_cons_succ, i64_w, i32_w]
                rfl
              refine pure_ (i := 12) (N := some 133) (v := ?_) (a' := ?_) #[true, true, true, true, true, true, true, true, true, true, true, true, true, false, false, true, false, false, true, true, false, false, false] rfl rfl (by kernel_rfl) (fun _ _ _ h => h) (Or.inl ⟨by rfl, ?_⟩) ?_ ?_
              rotate_left
              · intro w'
                go_simp
                with_reducible rfl
              rotate_left
              · simp only [Act.put, List.setIfInBounds_toArray, List.set_cons_zero, List.set_cons_succ, i64_w, i32_w]
                rfl
              refine pure_ (i := 13) (N := some 134) (v := ?_) (a' := ?_) #[true, true, true, true, true, true, true, true, true, true, true, true, true, true, false, true, false, false, true, true, false, false, false] rfl rfl (by kernel_rfl) (fun _ _ _ h => h) (Or.inl ⟨by rfl, ?_⟩) ?_ ?_
              rotate_left
              · intro w'
                go_simp
                with_reducible rfl
              rotate_left
              · simp only [Act.put, List.setIfInBounds_toArray, List.set_cons_zero, List.set_cons_succ, i64_w, i32_w]
                rfl
              refine pure_ (i := 14) (N := some 135) (v := ?_) (a' := ?_) #[true, true, true, true, true, true, true, true, true, true, true, true, true, true, true, true, false, false, true, true, false, false, false] rfl rfl (by kernel_rfl) (fun _ _ _ h => h) (Or.inl ⟨by rfl, ?_⟩) ?_ ?_
              rotate_left
              · intro w'
                go_simp
                with_reducible rfl
              rotate_left
              · simp only [Act.put, List.setIfInBounds_toArray, List.set_cons_zero, List.set_cons_succ, i64_w, i32_w]
                rfl
              refine take_ (i := 20) (N := some 141) (v := ?_) (a' := ?_) #[true, true, true, true, true, true, true, true, true, true, true, true, true, true, true, true, false, false, true, true, true, false, false] rfl rfl (by kernel_rfl) (fun _ _ _ h => h) (Or.inl ⟨by rfl, ?_⟩) hHeld ?_ ?_
              rotate_left
              · rintro w' ⟨s0, s1, s2, s3⟩
                go_simp
                with_reducible rfl
              rotate_left
              · simp only [Act.put, List.setIfInBounds_toArray, List.set_cons_zero, List.set_cons_succ, i64_w, i32_w]
                rfl
              refine one_ (i := 16) (N := some 137) #[true, true, true, true, true, true, true, true, true, true, true, true, true, true, true, true, true, false, true, true, true, false, false] rfl rfl (by kernel_rfl) (by decide) (fun K hK => ?_)
              refine goes_ Try.func153 (by kernel_rfl) rfl #[.int .i64 i] (by rfl) rfl rfl (by (try simp only [List.map_toArray, List.map_cons, List.map_nil]); first | done | rfl) ?_
              with_reducible refine (HR1.out _).mono ?_
              rintro e w3 ⟨rfl, hb3⟩
              refine ⟨_, rfl, ?_⟩
              refine hK.out _ _ ⟨(pw_cell_below hb3 hHeld.1), (pw_cell_below hb3 hHeld.2.1), (pw_cell_below hb3 hHeld.2.2.1), (pw_cell_below hb3 hHeld.2.2.2)⟩ (fun hHeld => ?_)
              clear hK K
              refine norm_ (a' := ?_) ?_ ?_
              rotate_left
              · show Act.put _ (some 137) _ = _
                simp only [Act.put, List.setIfInBounds_toArray, List.set_cons_zero, List.set_cons_succ, i64_w, i32_w]
                rfl
              refine pure_ (i := 17) (N := some 138) (v := ?_) (a' := ?_) #[true, true, true, true, true, true, true, true, true, true, true, true, true, true, true, true, true, true, true, true, true, false, false] rfl rfl (by kernel_rfl) (fun _ _ _ h => h) (Or.inl ⟨by rfl, ?_⟩) ?_ ?_
              rotate_left
              · intro w'
                go_simp
                with_reducible rfl
              rotate_left
              · simp only [Act.put, List.setIfInBounds_toArray, List.set_cons_zero, List.set_cons_succ, i64_w, i32_w]
                rfl
              refine pure_ (i := 21) (N := some 142) (v := ?_) (a' := ?_) #[true, true, true, true, true, true, true, true, true, true, true, true, true, true, true, true, true, true, true, true, true, true, false] rfl rfl (by kernel_rfl) (fun _ _ _ h => h) (Or.inl ⟨by rfl, ?_⟩) ?_ ?_
              rotate_left
              · intro w'
                go_simp
                with_reducible rfl
              rotate_left
              · simp only [Act.put, List.setIfInBounds_toArray, List.set_cons_zero, List.set_cons_succ, i64_w, i32_w]
                rfl
              refine pure_ (i := 22) (N := some 16) (v := ?_) (a' := ?_) #[true, true, true, true, true, true, true, true, true, true, true, true, true, true, true, true, true, true, true, true, true, true, true] rfl rfl (by kernel_rfl) (fun _ _ _ h => h) (Or.inl ⟨by rfl, ?_⟩) ?_ ?_
              rotate_left
              · intro w'
                go_simp
                with_reducible rfl
              rotate_left
              · simp only [Act.put, List.setIfInBounds_toArray, List.set_cons_zero, List.set_cons_succ, i64_w, i32_w]
                rfl
              refine done_ (by kernel_rfl) ?_
              have HV3 := Aside0.mk (blk_below (blk_drew (blk_drewN HV.out _)) hb3)
              have HX3 := Aside0.mk (blk_below (blk_drew (blk_drewN HX.out _)) hb3)
              have HB3 := Aside0.mk (below_step (below_drew (pw_below_drewN HB.out _)) hb3)
              clear hb3 c0 c1 c2 c3 c4 c5 c6 c7 cx
              have f0 := blk_frozen HV3.out 0
              have f1 := blk_frozen HV3.out 1
              have f2 := blk_frozen HV3.out 2
              have f3 := blk_frozen HV3.out 3
              have f4 := blk_frozen HV3.out 4
              have f5 := blk_frozen HV3.out 5
              have f6 := blk_frozen HV3.out 6
              have f7 := blk_frozen HV3.out 7
              have c0 : w3.cell? ⟨p, 0, none⟩ = some (.int .u32 q0) := (blk_cell HV3.out 0).trans rfl
              have c1 : w3.cell? ⟨p, 1, none⟩ = some (.int .u32 q1) := (blk_cell HV3.out 1).trans rfl
              have c2 : w3.cell? ⟨p, 2, none⟩ = some (.int .u32 q2) := (blk_cell HV3.out 2).trans rfl
              have c3 : w3.cell? ⟨p, 3, none⟩ = some (.int .u32 q3) := (blk_cell HV3.out 3).trans rfl
              have c4 : w3.cell? ⟨p, 4, none⟩ = some (.int .u32 q4) := (blk_cell HV3.out 4).trans rfl
              have c5 : w3.cell? ⟨p, 5, none⟩ = some (.int .u32 q5) := (blk_cell HV3.out 5).trans rfl
              have c6 : w3.cell? ⟨p, 6, none⟩ = some (.int .u32 q6) := (blk_cell HV3.out 6).trans rfl
              have c7 : w3.cell? ⟨p, 7, none⟩ = some (.int .u32 q7) := (blk_cell HV3.out 7).trans rfl
              go_wp2_with fail
              refine (rot32_2 q0 _ l0 h0).mono ?_
              rintro e wx ⟨rfl, rfl⟩
              go_wp2_with fail
              refine (rot32_13 q0 _ l0 h0).mono ?_
              rintro e wx ⟨rfl, rfl⟩
              go_wp2_with fail
              refine (rot32_22 q0 _ l0 h0).mono ?_
              rintro e wx ⟨rfl, rfl⟩
              go_wp2_with fail
              obtain ⟨t1, ht1⟩ : ∃ y, IntKind.u32.wrap (IntKind.u32.wrap (IntKind.u32.wrap (IntKind.u32.wrap (q7 + s1) + ch) + kk) + x) = y := ⟨_, rfl⟩
              rw [ht1] at HN
              have HT1 := Aside0.mk ht1
              clear ht1
              go_wp2_with fail
              rw [HT1.out]
              generalize hww : World.setCell _ _ _ = ww
              have E1 : (q7 + s1 + ch + kk + x + s0 + mj) % 4294967296 = IntKind.u32.wrap (IntKind.u32.wrap (t1 + s0) + mj) := by rw [← HT1.out]; simp only [IntKind.wrap_u32]; omega
              have E4 : (q3 + (q7 + s1 + ch + kk + x)) % 4294967296 = IntKind.u32.wrap (q3 + t1) := by rw [← HT1.out]; simp only [IntKind.wrap_u32]; omega
              rw [E1, E4] at hww
              clear E1 E4
              go_roundw
              case rel => (repeat apply Exists.intro); exact ⟨⟨i + 1, _, _, _, _, _, _, _, _, by omega, by go_num, HN, ⟨by rw [← hww]; exact set8 HV3.out _ _ _ _ _ _ _ _⟩, ⟨by rw [← hww]; exact far8 HX3.out (by omega) _ _ _ _ _ _ _ _⟩, ⟨by rw [← hww]; exact below8 HB3.out (by omega) _ _ _ _ _ _ _ _⟩⟩, rfl⟩
              case measure => simp [intOf] <;> omega
            · obtain rfl : i = 64 := by omega
              go_wp2_with fail
              go_loopw [19, 187] (fun v19 v187 w' => ∃ j : Nat, j ≤ 8 ∧ v187 = .int .i64 j ∧ Aside0 (HashV w' g (addL hs [q0, q1, q2, q3, q4, q5, q6, q7] j) v n) ∧ Aside0 (w'.heap[p]? = some (.cells #[.int .u32 q0, .int .u32 q1, .int .u32 q2, .int .u32 q3, .int .u32 q4, .int .u32 q5, .int .u32 q6, .int .u32 q7] 213 (0, 0))) ∧ Aside0 (Kp (fun k => k = g) w w')) (fun _ v187 _ => 8 - (intOf v187).toNat)
              case atStart => exact ⟨0, by omega, rfl, ⟨by rw [addL_0 HL8.out]; exact blk_below HH.out HB.out⟩, HV, ⟨Kp.of_below HB.out _⟩⟩
              case round =>
                clear HV HX HB hi g3
                obtain ⟨j, hj, rfl, HG, HV, HK⟩ := hrel
                by_cases c4 : j < 8
                · skip
                  have z1 := (blk_cell HG.out j).trans (hashA_get (addL_len _ _ j) v n j c4)
                  rw [addL_at _ _ j c4] at z1
                  have z2 : wr.cell? ⟨p, j, none⟩ = some (.int .u32 ([q0, q1, q2, q3, q4, q5, q6, q7].getD j 0)) := (blk_cell HV.out j).trans (nums_get .u32 [q0, q1, q2, q3, q4, q5, q6, q7] j (by simpa using c4))
                  obtain ⟨x, ex⟩ : ∃ x, hs.getD j 0 = x := ⟨_, rfl⟩
                  obtain ⟨y, ey⟩ : ∃ x, [q0, q1, q2, q3, q4, q5, q6, q7].getD j 0 = x := ⟨_, rfl⟩
                  have HG2 := Aside0.mk (show HashV (wr.setCell ⟨g, j, none⟩ (.int .u32 (IntKind.u32.wrap (x + y)))) g (addL hs [q0, q1, q2, q3, q4, q5, q6, q7] (j + 1)) v n by
                    rw [HashV, blk_set HG.out j _, hashA_set (addL_len _ _ j) v n j c4, ← addL_set _ _ j c4, ex, ey])
                  have HV2 := Aside0.mk (blk_far HV.out (p := ⟨g, j, none⟩) (by show p ≠ g; omega) (.int .u32 (IntKind.u32.wrap (x + y))))
                  have HK2 := Aside0.mk (show Kp (fun k => k = g) w (wr.setCell ⟨g, j, none⟩ (.int .u32 (IntKind.u32.wrap (x + y)))) from HK.out.trans (Kp.set _ _ _) (fun k hk => Or.inl hk))
                  rw [ex] at z1
                  rw [ey] at z2
                  clear ex ey
                  have f1 := blk_frozen HG.out j
                  have j0 : (0 : Int) ≤ (j : Int) := by omega
                  have j1 : (j : Int) < 8 := by omega
                  go_wp2_with fail
                  refine start_ (n := 14) (S := fun w' => w'.cell? ⟨g, j, none⟩ = some (.int .u32 x) ∧ w'.cell? ⟨p, j, none⟩ = some (.int .u32 y)) (ds := [13]) #[false, false, false, false, false, false, false, false, false, false, false, false, false, false] (by kernel_rfl) rfl rfl ⟨z1, z2⟩ (fun hHeld => ?_)
                  refine pure_ (i := 0) (N := some 190) (v := ?_) (a' := ?_) #[true, false, false, false, false, false, false, false, false, false, false, false, false, false] rfl rfl (by kernel_rfl) (fun _ _ _ h => h) (Or.inl ⟨by rfl, ?_⟩) ?_ ?_
                  rotate_left
                  · intro w'
                    go_simp
                    with_reducible rfl
                  rotate_left
                  · simp only [Act.put, List.setIfInBounds_toArray, List.set_cons_zero, List.set_cons_succ, i64_w, i32_w]
                    rfl
                  refine pure_ (i := 1) (N := some 191) (v := ?_) (a' := ?_) #[true, true, false, false, false, false, false, false, false, false, false, false, false, false] rfl rfl (by kernel_rfl) (fun _ _ _ h => h) (Or.inl ⟨by rfl, ?_⟩) ?_ ?_
                  rotate_left
                  · intro w'
                    go_simp
                    with_reducible rfl
                  rotate_left
                  · simp only [Act.put, List.setIfInBounds_toArray, List.set_cons_zero, List.set_cons_succ, i64_w, i32_w]
                    rfl
                  refine pure_ (i := 2) (N := some 192) (v := ?_) (a' := ?_) #[true, true, true, false, false, false, false, false, false, false, false, false, false, false] rfl rfl (by kernel_rfl) (fun _ _ _ h => h) (Or.inl ⟨by rfl, ?_⟩) ?_ ?_
                  rotate_left
                  · intro w'
                    go_simp
                    with_reducible rfl
                  rotate_left
                  · simp only [Act.put, List.setIfInBounds_toArray, List.set_cons_zero, List.set_cons_succ, i64_w, i32_w]
                    rfl
                  refine pure_ (i := 3) (N := some 193) (v := ?_) (a' := ?_) #[true, true, true, true, false, false, false, false, false, false, false, false, false, false] rfl rfl (by kernel_rfl) (fun _ _ _ h => h) (Or.inl ⟨by rfl, ?_⟩) ?_ ?_
                  rotate_left
                  · intro w'
                    go_simp
                    with_reducible rfl
                  rotate_left
                  · simp only [Act.put, List.setIfInBounds_toArray, List.set_cons_zero, List.set_cons_succ, i64_w, i32_w]
                    rfl
                  refine pure_ (i := 4) (N := some 194) (v := ?_) (a' := ?_) #[true, true, true, true, true, false, false, false, false, false, false, false, false, false] rfl rfl (by kernel_rfl) (fun _ _ _ h => h) (Or.inl ⟨by rfl, ?_⟩) ?_ ?_
                  rotate_left
                  · intro w'
                    go_simp
                    with_reducible rfl
                  rotate_left
                  · simp only [Act.put, List.setIfInBounds_toArray, List.set_cons_zero, List.set_cons_succ, i64_w, i32_w]
                    rfl
                  refine pure_ (i := 6) (N := some 196) (v := ?_) (a' := ?_) #[true, true, true, true, true, false, true, false, false, false, false, false, false, false] rfl rfl (by kernel_rfl) (fun _ _ _ h => h) (Or.inl ⟨by rfl, ?_⟩) ?_ ?_
                  rotate_left
                  · intro w'
                    go_simp
                    with_reducible rfl
                  rotate_left
                  · simp only [Act.put, List.setIfInBounds_toArray, List.set_cons_zero, List.set_cons_succ, i64_w, i32_w]
                    rfl
                  refine pure_ (i := 7) (N := some 197) (v := ?_) (a' := ?_) #[true, true, true, true, true, false, true, true, false, false, false, false, false, false] rfl rfl (by kernel_rfl) (fun _ _ _ h => h) (Or.inl ⟨by rfl, ?_⟩) ?_ ?_
                  rotate_left
                  · intro w'
                    go_simp
                    with_reducible rfl
                  rotate_left
                  · simp only [Act.put, List.setIfInBounds_toArray, List.set_cons_zero, List.set_cons_succ, i64_w, i32_w]
                    rfl
                  refine pure_ (i := 10) (N := some 200) (v := ?_) (a' := ?_) #[true, true, true, true, true, false, true, true, false, false, true, false, false, false] rfl rfl (by kernel_rfl) (fun _ _ _ h => h) (Or.inl ⟨by rfl, ?_⟩) ?_ ?_
                  rotate_left
                  · intro w'
                    go_simp
                    with_reducible rfl
                  rotate_left
                  · simp only [Act.put, List.setIfInBounds_toArray, List.set_cons_zero, List.set_cons_succ, i64_w, i32_w]
                    rfl
                  refine pure_ (i := 11) (N := some 201) (v := ?_) (a' := ?_) #[true, true, true, true, true, false, true, true, false, false, true, true, false, false] rfl rfl (by kernel_rfl) (fun _ _ _ h => h) (Or.inl ⟨by rfl, ?_⟩) ?_ ?_
                  rotate_left
                  · intro w'
                    go_simp
                    with_reducible rfl
                  rotate_left
                  · simp only [Act.put, List.setIfInBounds_toArray, List.set_cons_zero, List.set_cons_succ, i64_w, i32_w]
                    rfl
                  refine take_ (i := 5) (N := some 195) (v := ?_) (a' := ?_) #[true, true, true, true, true, true, true, true, false, false, true, true, false, false] rfl rfl (by kernel_rfl) (fun _ _ _ h => h) (Or.inl ⟨by rfl, ?_⟩) hHeld ?_ ?_
                  rotate_left
                  · rintro w' ⟨s0, s1⟩
                    go_simp
                    with_reducible rfl
                  rotate_left
                  · simp only [Act.put, List.setIfInBounds_toArray, List.set_cons_zero, List.set_cons_succ, i64_w, i32_w]
                    rfl
                  refine take_ (i := 8) (N := some 198) (v := ?_) (a' := ?_) #[true, true, true, true, true, true, true, true, true, false, true, true, false, false] rfl rfl (by kernel_rfl) (fun _ _ _ h => h) (Or.inl ⟨by rfl, ?_⟩) hHeld ?_ ?_
                  rotate_left
                  · rintro w' ⟨s0, s1⟩
                    go_simp
                    with_reducible rfl
                  rotate_left
                  · simp only [Act.put, List.setIfInBounds_toArray, List.set_cons_zero, List.set_cons_succ, i64_w, i32_w]
                    rfl
                  refine pure_ (i := 9) (N := some 199) (v := ?_) (a' := ?_) #[true, true, true, true, true, true, true, true, true, true, true, true, false, false] rfl rfl (by kernel_rfl) (fun _ _ _ h => h) (Or.inl ⟨by rfl, ?_⟩) ?_ ?_
                  rotate_left
                  · intro w'
                    go_simp
                    with_reducible rfl
                  rotate_left
                  · simp only [Act.put, List.setIfInBounds_toArray, List.set_cons_zero, List.set_cons_succ, i64_w, i32_w]
                    rfl
                  refine pure_ (i := 12) (N := some 202) (v := ?_) (a' := ?_) #[true, true, true, true, true, true, true, true, true, true, true, true, true, false] rfl rfl (by kernel_rfl) (fun _ _ _ h => h) (Or.inl ⟨by rfl, ?_⟩) ?_ ?_
                  rotate_left
                  · intro w'
                    go_simp
                    with_reducible rfl
                  rotate_left
                  · simp only [Act.put, List.setIfInBounds_toArray, List.set_cons_zero, List.set_cons_succ, i64_w, i32_w]
                    rfl
                  refine last_ (i := 13) (N := none) #[true, true, true, true, true, true, true, true, true, true, true, true, true, true] rfl rfl (by kernel_rfl) (by decide) (fun K hK => ?_)
                  refine skip_ (w1 := ?_) (by rfl) rfl ?_ ?_
                  rotate_left
                  · go_simp
                    rfl
                  refine hK.out _ _ ?_
                  clear hK K
                  refine done_ (by kernel_rfl) ?_
                  go_wp2_with fail
                  go_roundw
                  case rel => exact ⟨j + 1, by omega, by go_num, ⟨HG2.out⟩, ⟨HV2.out⟩, ⟨HK2.out.drew⟩⟩
                  case measure => simp [intOf] <;> omega
                · obtain rfl : j = 8 := by omega
                  go_wp2_with fail
                  go_end0
                  exact ⟨rfl, by rw [← addL_8 hs bl HS.out]; exact HG.out, HK.out⟩
end Go.Proofs.Ytplmdgimodgekaa
