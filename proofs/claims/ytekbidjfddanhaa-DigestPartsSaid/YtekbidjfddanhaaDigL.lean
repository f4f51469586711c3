/- DigestSums, DigestKeys, DigestParts: the walks. -/
import Derived.Test.YtekbidjfddanhaaDigY
import Derived.Test.YtekbidjfddanhaaRows8
import Derived.Stop.BytesEq
namespace Go.Proofs.Ytekbidjfddanhaa
open Go.RowKit Go.Proofs.YtekbidjfddanhaaW.PrintWords Go.Proofs.YtekbidjfddanhaaW.PrintLast Go.Proofs.YtekbidjfddanhaaW.PrintMore
attribute [local go_sem] max2_int min2_int max_two min_two max_three min_three max_four min_four   -- for this text's walks alone
set_option linter.unusedVariables false
set_option linter.unusedSimpArgs false

set_option maxHeartbeats 8000000 in
set_option maxRecDepth 100000 in
theorem DigestSums_calls (v : Value) (L : List Int) (w : World) (hr : Rd w .u8 v L) (hib : isB L) :
    Calls Try.prog 11 #[v] w fun e w' => e = .returned (.bool true) ∧ Below w.heap.size w w' := by
  obtain ⟨A, c, ev, hc, hm, _⟩ := hr.mid
  obtain ⟨N, hN⟩ : ∃ N, L.length = N := ⟨_, rfl⟩
  rw [hN] at ev hc hm
  subst ev
  have HR := Aside0.mk hr
  have HI := Aside0.mk hib
  have HN := Aside0.mk hN
  clear hr hib hN
  by_cases c1 : 1500 < N
  · go_enter Try.func11, Try.ntmps11
    go_wp2_with fail
    refine (dig_awake_calls _).mono ?_
    rintro e w1 ⟨rfl, hb⟩
    have HB1 := Aside0.mk hb
    clear hb
    go_wp2_with fail
    go_ret
    exact ⟨rfl, HB1.out⟩
  · go_enter Try.func11, Try.ntmps11
    go_wp2_with fail
    refine (Constants_calls _).mono ?_
    rintro e w1 ⟨va, vk, rfl, ha, hk, _, hb⟩
    have HA := Aside0.mk (OwnO.rd ha)
    have HK := Aside0.mk (OwnO.rd hk)
    have HB := Aside0.mk hb
    clear ha hk hb
    go_wp2_with fail
    refine (dOf_calls _ L _ (HR.out.below HB.out) HI.out (by rw [HN.out]; omega)).mono ?_
    rintro e w2 ⟨rfl, hb⟩
    replace HB := Aside0.mk (below_step HB.out hb)
    replace HA := Aside0.mk (HA.out.below hb)
    replace HK := Aside0.mk (HK.out.below hb)
    have HNB := Aside0.mk (blk_new w2 (.cells (nums .u8 (shaP L)).toArray 69))
    have HB3 := Aside0.mk (below_alloc HB.out (.cells (nums .u8 (shaP L)).toArray 69))
    have HA3 := Aside0.mk (HA.out.below (below_alloc (Below.refl _ _) (.cells (nums .u8 (shaP L)).toArray 69)))
    have HK3 := Aside0.mk (HK.out.below (below_alloc (Below.refl _ _) (.cells (nums .u8 (shaP L)).toArray 69)))
    clear hb HB HA HK
    go_wp2_with (first | (refine wpList_store_fresh rfl 69 (.tmp 5) (.tmp 15) rfl _ (nums .u8 (shaP L)).toArray rfl rfl (info32A L) (sz32 L) (ones_nums _ _) ?_))
    obtain ⟨wx, hwx⟩ : ∃ wx, w2.alloc (.cells (nums .u8 (shaP L)).toArray 69) = wx := ⟨_, rfl⟩
    rw [hwx] at HNB HB3 HA3 HK3 ⊢
    clear hwx
    have HS := Aside0.mk (Own.rd (own_blk (base := 0) HNB.out (Nat.zero_le _) (by rw [shaP_len]; omega)))
    rw [shaP_len] at HS
    have hN1 : L.length ≤ 100000 := by rw [HN.out]; omega
    have HN1 := Aside0.mk hN1
    clear hN1
    refine start_ (n := 10) (S := fun w' => True) (ds := []) #[false, false, false, false, false, false, false, false, false, false] (by kernel_rfl) rfl rfl trivial (fun hHeld => ?_)
    refine pure_ (i := 0) (N := some 16) (v := ?_) (a' := ?_) #[true, false, false, false, false, false, false, false, false, false] rfl rfl (by kernel_rfl) (fun _ _ _ h => h) (Or.inl ⟨by rfl, ?_⟩) ?_ ?_
    rotate_left
    · intro w'
      go_simp
      with_reducible rfl
    rotate_left
    · simp only [Act.put, List.setIfInBounds_toArray, List.set_cons_zero, List.set_cons_succ, i64_w, i32_w]
      rfl
    refine pure_ (i := 1) (N := some 17) (v := ?_) (a' := ?_) #[true, true, false, false, false, false, false, false, false, false] rfl rfl (by kernel_rfl) (fun _ _ _ h => h) (Or.inl ⟨by rfl, ?_⟩) ?_ ?_
    rotate_left
    · intro w'
      go_simp
      with_reducible rfl
    rotate_left
    · simp only [Act.put, List.setIfInBounds_toArray, List.set_cons_zero, List.set_cons_succ, i64_w, i32_w]
      rfl
    refine pure_ (i := 2) (N := some 18) (v := ?_) (a' := ?_) #[true, true, true, false, false, false, false, false, false, false] rfl rfl (by kernel_rfl) (fun _ _ _ h => h) (Or.inl ⟨by rfl, ?_⟩) ?_ ?_
    rotate_left
    · intro w'
      go_simp
      with_reducible rfl
    rotate_left
    · simp only [Act.put, List.setIfInBounds_toArray, List.set_cons_zero, List.set_cons_succ, i64_w, i32_w]
      rfl
    refine pure_ (i := 3) (N := some 19) (v := ?_) (a' := ?_) #[true, true, true, true, false, false, false, false, false, false] rfl rfl (by kernel_rfl) (fun _ _ _ h => h) (Or.inl ⟨by rfl, ?_⟩) ?_ ?_
    rotate_left
    · intro w'
      go_simp
      with_reducible rfl
    rotate_left
    · simp only [Act.put, List.setIfInBounds_toArray, List.set_cons_zero, List.set_cons_succ, i64_w, i32_w]
      rfl
    refine one_ (i := 4) (N := some 20) #[true, true, true, true, true, false, false, false, false, false] rfl rfl (by kernel_rfl) (by decide) (fun K hK => ?_)
    refine goes_ Try.func46 (by kernel_rfl) rfl #[va, vk, .slice A N c] (by rfl) rfl rfl (by (try simp only [List.map_toArray, List.map_cons, List.map_nil]); first | done | rfl) ?_
    with_reducible refine (refOf_calls va vk (.slice A N c) L _ (HA3.out.below (below_drew (Below.refl _ _))) (HK3.out.below (below_drew (Below.refl _ _))) (HR.out.below (below_drew HB3.out)) HI.out HN1.out).mono ?_
    rintro e w5 ⟨v5, rfl, ho5, hb5⟩
    refine ⟨_, rfl, ?_⟩
    refine hK.out _ _ trivial (fun hHeld => ?_)
    clear hK K
    refine norm_ (a' := ?_) ?_ ?_
    rotate_left
    · show Act.put _ (some 20) _ = _
      simp only [Act.put, List.setIfInBounds_toArray, List.set_cons_zero, List.set_cons_succ, i64_w, i32_w]
      rfl
    refine one_ (i := 5) (N := some 21) #[true, true, true, true, true, true, false, false, false, false] rfl rfl (by kernel_rfl) (by decide) (fun K hK => ?_)
    refine goes_ Try.func37 (by kernel_rfl) rfl #[.slice (some ⟨w2.heap.size, 0, none⟩) 32 32, v5] (by rfl) rfl rfl (by (try simp only [List.map_toArray, List.map_cons, List.map_nil]); first | done | rfl) ?_
    with_reducible refine (Same_calls (.slice (some ⟨w2.heap.size, 0, none⟩) 32 32) v5 (shaP L) (shaP L) _ ((HS.out.below (below_drew (Below.refl _ _))).below hb5) (OwnO.rd ho5) (shaP_isB _) (shaP_isB _)).mono ?_
    rintro e w6 ⟨rfl, hb6⟩
    refine ⟨_, rfl, ?_⟩
    rw [show decide (shaP L = shaP L) = true from by simp]
    refine hK.out _ _ trivial (fun hHeld => ?_)
    clear hK K
    refine norm_ (a' := ?_) ?_ ?_
    rotate_left
    · show Act.put _ (some 21) _ = _
      simp only [Act.put, List.setIfInBounds_toArray, List.set_cons_zero, List.set_cons_succ, i64_w, i32_w]
      rfl
    refine pure_ (i := 6) (N := some 22) (v := ?_) (a' := ?_) #[true, true, true, true, true, true, true, false, false, false] rfl rfl (by kernel_rfl) (fun _ _ _ h => h) (Or.inl ⟨by rfl, ?_⟩) ?_ ?_
    rotate_left
    · intro w'
      go_simp
      with_reducible rfl
    rotate_left
    · simp only [Act.put, List.setIfInBounds_toArray, List.set_cons_zero, List.set_cons_succ, i64_w, i32_w]
      rfl
    refine one_ (i := 7) (N := some 23) #[true, true, true, true, true, true, true, true, false, false] rfl rfl (by kernel_rfl) (by decide) (fun K hK => ?_)
    refine goes_ Try.func43 (by kernel_rfl) rfl #[] (by rfl) rfl rfl (by (try simp only [List.map_toArray, List.map_cons, List.map_nil]); first | done | rfl) ?_
    with_reducible refine (dig_awake_calls _).mono ?_
    rintro e w7 ⟨rfl, hb7⟩
    refine ⟨_, rfl, ?_⟩
    refine hK.out _ _ trivial (fun hHeld => ?_)
    clear hK K
    refine norm_ (a' := ?_) ?_ ?_
    rotate_left
    · show Act.put _ (some 23) _ = _
      simp only [Act.put, List.setIfInBounds_toArray, List.set_cons_zero, List.set_cons_succ, i64_w, i32_w]
      rfl
    refine pure_ (i := 8) (N := some 24) (v := ?_) (a' := ?_) #[true, true, true, true, true, true, true, true, true, false] rfl rfl (by kernel_rfl) (fun _ _ _ h => h) (Or.inl ⟨by rfl, ?_⟩) ?_ ?_
    rotate_left
    · intro w'
      go_simp
      with_reducible rfl
    rotate_left
    · simp only [Act.put, List.setIfInBounds_toArray, List.set_cons_zero, List.set_cons_succ, i64_w, i32_w]
      rfl
    refine pure_ (i := 9) (N := some 2) (v := ?_) (a' := ?_) #[true, true, true, true, true, true, true, true, true, true] rfl rfl (by kernel_rfl) (fun _ _ _ h => h) (Or.inl ⟨by rfl, ?_⟩) ?_ ?_
    rotate_left
    · intro w'
      go_simp
      with_reducible rfl
    rotate_left
    · simp only [Act.put, List.setIfInBounds_toArray, List.set_cons_zero, List.set_cons_succ, i64_w, i32_w]
      rfl
    refine done_ (by kernel_rfl) ?_
    have HB7 := Aside0.mk (below_step (below_step (below_step (below_drew HB3.out) hb5) hb6) hb7)
    clear hb5 hb6 hb7 ho5
    go_wp2_with fail
    go_ret
    exact ⟨rfl, HB7.out⟩
theorem DigestSums_walk (a0 : Option Addr) (len0 cap0 : Nat) (z0 : List Int) (w : World) (w0 : (a0 = none ∧ len0 = 0 ∧ cap0 = 0 ∧ z0 = []) ∨ ∃ x, a0 = some x ∧ len0 ≤ cap0 ∧ cap0 ≤ maxLen ∧ z0.length = cap0 ∧ (∀ i, i < z0.length → w.cell? (x.add i) = some (.int .u8 (z0.getD i 0))) ∧ ∀ n ∈ z0, (Lit.int .u8 n).wf = true) (y0 : len0 * 1 ≤ 140737488351232) :
    Calls Try.prog 11 #[.slice a0 len0 cap0] w fun e w' => e = .returned (.bool true) ∧ Below w.heap.size w w' := by
  obtain ⟨l0, rfl, hr0, hm0, hw0, hc0⟩ := ReadsInt.ofRowC w0
  exact DigestSums_calls _ l0 w ⟨_, _, rfl, hc0, hr0⟩ (wf_isB hw0)
set_option maxHeartbeats 8000000 in
set_option maxRecDepth 100000 in
theorem DigestKeys_calls (vy v : Value) (y L : List Int) (w : World) (hy : Rd w .u8 vy y) (hiy : isB y) (hr : Rd w .u8 v L) (hib : isB L) :
    Calls Try.prog 14 #[vy, v] w fun e w' => e = .returned (.bool true) ∧ Below w.heap.size w w' := by
  obtain ⟨A, c, ev, hc, hm, _⟩ := hr.mid
  obtain ⟨N, hN⟩ : ∃ N, L.length = N := ⟨_, rfl⟩
  rw [hN] at ev hc hm
  subst ev
  obtain ⟨Ay, cy, ey, hcy, hmy, _⟩ := hy.mid
  obtain ⟨Y, hY⟩ : ∃ N, y.length = N := ⟨_, rfl⟩
  rw [hY] at ey hcy hmy
  subst ey
  have HR := Aside0.mk hr
  have HI := Aside0.mk hib
  have HN := Aside0.mk hN
  have HY := Aside0.mk hy
  have HIY := Aside0.mk hiy
  have HYN := Aside0.mk hY
  clear hr hib hN hy hiy hY
  by_cases c1 : 300 < Y
  · go_enter Try.func14, Try.ntmps14
    go_wp2_with fail
    refine (dig_awake_calls _).mono ?_
    rintro e w1 ⟨rfl, hb⟩
    have HB1 := Aside0.mk hb
    clear hb
    go_wp2_with fail
    go_ret
    exact ⟨rfl, HB1.out⟩
  by_cases c2 : 1000 < N
  · go_enter Try.func14, Try.ntmps14
    go_wp2_with fail
    refine (dig_awake_calls _).mono ?_
    rintro e w1 ⟨rfl, hb⟩
    have HB1 := Aside0.mk hb
    clear hb
    go_wp2_with fail
    go_ret
    exact ⟨rfl, HB1.out⟩
  · go_enter Try.func14, Try.ntmps14
    go_wp2_with fail
    refine (Constants_calls _).mono ?_
    rintro e w1 ⟨va, vk, rfl, ha, hk, _, hb⟩
    have HA := Aside0.mk (OwnO.rd ha)
    have HK := Aside0.mk (OwnO.rd hk)
    have HB := Aside0.mk hb
    clear ha hk hb
    go_wp2_with fail
    refine (dKeyed_calls _ _ y L _ (HY.out.below HB.out) HIY.out (HR.out.below HB.out) HI.out (by rw [HN.out]; omega) (by rw [HYN.out]; omega)).mono ?_
    rintro e w2 ⟨rfl, hb⟩
    replace HB := Aside0.mk (below_step HB.out hb)
    replace HA := Aside0.mk (HA.out.below hb)
    replace HK := Aside0.mk (HK.out.below hb)
    obtain ⟨X, hX⟩ : ∃ X, ipd 92 (keyP y) 64 ++ shaP (ipd 54 (keyP y) 64 ++ L) = X := ⟨_, rfl⟩
    have HKX := Aside0.mk (show kyP y L = shaP X by rw [kyP, hX])
    rw [HKX.out]
    clear hX
    have HNB := Aside0.mk (blk_new w2 (.cells (nums .u8 (shaP X)).toArray 69))
    have HB3 := Aside0.mk (below_alloc HB.out (.cells (nums .u8 (shaP X)).toArray 69))
    have HA3 := Aside0.mk (HA.out.below (below_alloc (Below.refl _ _) (.cells (nums .u8 (shaP X)).toArray 69)))
    have HK3 := Aside0.mk (HK.out.below (below_alloc (Below.refl _ _) (.cells (nums .u8 (shaP X)).toArray 69)))
    clear hb HB HA HK
    go_wp2_with (first | (refine wpList_store_fresh rfl 69 (.tmp 7) (.tmp 23) rfl _ (nums .u8 (shaP X)).toArray rfl rfl (info32A X) (sz32 X) (ones_nums _ _) ?_))
    obtain ⟨wx, hwx⟩ : ∃ wx, w2.alloc (.cells (nums .u8 (shaP X)).toArray 69) = wx := ⟨_, rfl⟩
    rw [hwx] at HNB HB3 HA3 HK3 ⊢
    clear hwx
    have HS := Aside0.mk (Own.rd (own_blk (base := 0) HNB.out (Nat.zero_le _) (by rw [shaP_len]; omega)))
    rw [shaP_len] at HS
    have HN1 := Aside0.mk (show L.length ≤ 90000 by rw [HN.out]; omega)
    have HN2 := Aside0.mk (show y.length ≤ 90000 by rw [HYN.out]; omega)
    refine start_ (n := 11) (S := fun w' => True) (ds := []) #[false, false, false, false, false, false, false, false, false, false, false] (by kernel_rfl) rfl rfl trivial (fun hHeld => ?_)
    refine pure_ (i := 0) (N := some 24) (v := ?_) (a' := ?_) #[true, false, false, false, false, false, false, false, false, false, false] rfl rfl (by kernel_rfl) (fun _ _ _ h => h) (Or.inl ⟨by rfl, ?_⟩) ?_ ?_
    rotate_left
    · intro w'
      go_simp
      with_reducible rfl
    rotate_left
    · simp only [Act.put, List.setIfInBounds_toArray, List.set_cons_zero, List.set_cons_succ, i64_w, i32_w]
      rfl
    refine pure_ (i := 1) (N := some 25) (v := ?_) (a' := ?_) #[true, true, false, false, false, false, false, false, false, false, false] rfl rfl (by kernel_rfl) (fun _ _ _ h => h) (Or.inl ⟨by rfl, ?_⟩) ?_ ?_
    rotate_left
    · intro w'
      go_simp
      with_reducible rfl
    rotate_left
    · simp only [Act.put, List.setIfInBounds_toArray, List.set_cons_zero, List.set_cons_succ, i64_w, i32_w]
      rfl
    refine pure_ (i := 2) (N := some 26) (v := ?_) (a' := ?_) #[true, true, true, false, false, false, false, false, false, false, false] rfl rfl (by kernel_rfl) (fun _ _ _ h => h) (Or.inl ⟨by rfl, ?_⟩) ?_ ?_
    rotate_left
    · intro w'
      go_simp
      with_reducible rfl
    rotate_left
    · simp only [Act.put, List.setIfInBounds_toArray, List.set_cons_zero, List.set_cons_succ, i64_w, i32_w]
      rfl
    refine pure_ (i := 3) (N := some 27) (v := ?_) (a' := ?_) #[true, true, true, true, false, false, false, false, false, false, false] rfl rfl (by kernel_rfl) (fun _ _ _ h => h) (Or.inl ⟨by rfl, ?_⟩) ?_ ?_
    rotate_left
    · intro w'
      go_simp
      with_reducible rfl
    rotate_left
    · simp only [Act.put, List.setIfInBounds_toArray, List.set_cons_zero, List.set_cons_succ, i64_w, i32_w]
      rfl
    refine pure_ (i := 4) (N := some 28) (v := ?_) (a' := ?_) #[true, true, true, true, true, false, false, false, false, false, false] rfl rfl (by kernel_rfl) (fun _ _ _ h => h) (Or.inl ⟨by rfl, ?_⟩) ?_ ?_
    rotate_left
    · intro w'
      go_simp
      with_reducible rfl
    rotate_left
    · simp only [Act.put, List.setIfInBounds_toArray, List.set_cons_zero, List.set_cons_succ, i64_w, i32_w]
      rfl
    refine one_ (i := 5) (N := some 29) #[true, true, true, true, true, true, false, false, false, false, false] rfl rfl (by kernel_rfl) (by decide) (fun K hK => ?_)
    refine goes_ Try.func52 (by kernel_rfl) rfl #[va, vk, .slice Ay Y cy, .slice A N c] (by rfl) rfl rfl (by (try simp only [List.map_toArray, List.map_cons, List.map_nil]); first | done | rfl) ?_
    with_reducible refine (refKeyed_calls va vk (.slice Ay Y cy) (.slice A N c) y L _ (HA3.out.below (below_drew (Below.refl _ _))) (HK3.out.below (below_drew (Below.refl _ _))) (HY.out.below (below_drew HB3.out)) HIY.out (HR.out.below (below_drew HB3.out)) HI.out HN1.out HN2.out).mono ?_
    rintro e w5 ⟨v5, rfl, ho5, hb5⟩
    refine ⟨_, rfl, ?_⟩
    refine hK.out _ _ trivial (fun hHeld => ?_)
    clear hK K
    refine norm_ (a' := ?_) ?_ ?_
    rotate_left
    · show Act.put _ (some 29) _ = _
      simp only [Act.put, List.setIfInBounds_toArray, List.set_cons_zero, List.set_cons_succ, i64_w, i32_w]
      rfl
    refine one_ (i := 6) (N := some 30) #[true, true, true, true, true, true, true, false, false, false, false] rfl rfl (by kernel_rfl) (by decide) (fun K hK => ?_)
    refine goes_ Try.func37 (by kernel_rfl) rfl #[.slice (some ⟨w2.heap.size, 0, none⟩) 32 32, v5] (by rfl) rfl rfl (by (try simp only [List.map_toArray, List.map_cons, List.map_nil]); first | done | rfl) ?_
    with_reducible refine (Same_calls (.slice (some ⟨w2.heap.size, 0, none⟩) 32 32) v5 (shaP X) (kyP y L) _ ((HS.out.below (below_drew (Below.refl _ _))).below hb5) (OwnO.rd ho5) (shaP_isB _) (by rw [HKX.out]; exact shaP_isB _)).mono ?_
    rintro e w6 ⟨rfl, hb6⟩
    refine ⟨_, rfl, ?_⟩
    rw [show decide (shaP X = kyP y L) = true from by rw [HKX.out]; simp]
    refine hK.out _ _ trivial (fun hHeld => ?_)
    clear hK K
    refine norm_ (a' := ?_) ?_ ?_
    rotate_left
    · show Act.put _ (some 30) _ = _
      simp only [Act.put, List.setIfInBounds_toArray, List.set_cons_zero, List.set_cons_succ, i64_w, i32_w]
      rfl
    refine pure_ (i := 7) (N := some 31) (v := ?_) (a' := ?_) #[true, true, true, true, true, true, true, true, false, false, false] rfl rfl (by kernel_rfl) (fun _ _ _ h => h) (Or.inl ⟨by rfl, ?_⟩) ?_ ?_
    rotate_left
    · intro w'
      go_simp
      with_reducible rfl
    rotate_left
    · simp only [Act.put, List.setIfInBounds_toArray, List.set_cons_zero, List.set_cons_succ, i64_w, i32_w]
      rfl
    refine one_ (i := 8) (N := some 32) #[true, true, true, true, true, true, true, true, true, false, false] rfl rfl (by kernel_rfl) (by decide) (fun K hK => ?_)
    refine goes_ Try.func43 (by kernel_rfl) rfl #[] (by rfl) rfl rfl (by (try simp only [List.map_toArray, List.map_cons, List.map_nil]); first | done | rfl) ?_
    with_reducible refine (dig_awake_calls _).mono ?_
    rintro e w7 ⟨rfl, hb7⟩
    refine ⟨_, rfl, ?_⟩
    refine hK.out _ _ trivial (fun hHeld => ?_)
    clear hK K
    refine norm_ (a' := ?_) ?_ ?_
    rotate_left
    · show Act.put _ (some 32) _ = _
      simp only [Act.put, List.setIfInBounds_toArray, List.set_cons_zero, List.set_cons_succ, i64_w, i32_w]
      rfl
    refine pure_ (i := 9) (N := some 33) (v := ?_) (a' := ?_) #[true, true, true, true, true, true, true, true, true, true, false] rfl rfl (by kernel_rfl) (fun _ _ _ h => h) (Or.inl ⟨by rfl, ?_⟩) ?_ ?_
    rotate_left
    · intro w'
      go_simp
      with_reducible rfl
    rotate_left
    · simp only [Act.put, List.setIfInBounds_toArray, List.set_cons_zero, List.set_cons_succ, i64_w, i32_w]
      rfl
    refine pure_ (i := 10) (N := some 4) (v := ?_) (a' := ?_) #[true, true, true, true, true, true, true, true, true, true, true] rfl rfl (by kernel_rfl) (fun _ _ _ h => h) (Or.inl ⟨by rfl, ?_⟩) ?_ ?_
    rotate_left
    · intro w'
      go_simp
      with_reducible rfl
    rotate_left
    · simp only [Act.put, List.setIfInBounds_toArray, List.set_cons_zero, List.set_cons_succ, i64_w, i32_w]
      rfl
    refine done_ (by kernel_rfl) ?_
    have HB7 := Aside0.mk (below_step (below_step (below_step (below_drew HB3.out) hb5) hb6) hb7)
    clear hb5 hb6 hb7 ho5
    go_wp2_with fail
    go_ret
    exact ⟨rfl, HB7.out⟩
theorem DigestKeys_walk (a0 : Option Addr) (len0 cap0 : Nat) (z0 : List Int) (a1 : Option Addr) (len1 cap1 : Nat) (z1 : List Int) (w : World) (w0 : (a0 = none ∧ len0 = 0 ∧ cap0 = 0 ∧ z0 = []) ∨ ∃ x, a0 = some x ∧ len0 ≤ cap0 ∧ cap0 ≤ maxLen ∧ z0.length = cap0 ∧ (∀ i, i < z0.length → w.cell? (x.add i) = some (.int .u8 (z0.getD i 0))) ∧ ∀ n ∈ z0, (Lit.int .u8 n).wf = true) (y0 : len0 * 1 ≤ 140737488351232)
    (w1 : (a1 = none ∧ len1 = 0 ∧ cap1 = 0 ∧ z1 = []) ∨ ∃ x, a1 = some x ∧ len1 ≤ cap1 ∧ cap1 ≤ maxLen ∧ z1.length = cap1 ∧ (∀ i, i < z1.length → w.cell? (x.add i) = some (.int .u8 (z1.getD i 0))) ∧ ∀ n ∈ z1, (Lit.int .u8 n).wf = true) (y1 : len1 * 1 ≤ 140737488351232) :
    Calls Try.prog 14 #[.slice a0 len0 cap0, .slice a1 len1 cap1] w fun e w' => e = .returned (.bool true) ∧ Below w.heap.size w w' := by
  obtain ⟨l0, rfl, hr0, hm0, hw0, hc0⟩ := ReadsInt.ofRowC w0
  obtain ⟨l1, rfl, hr1, hm1, hw1, hc1⟩ := ReadsInt.ofRowC w1
  exact DigestKeys_calls _ _ l0 l1 w ⟨_, _, rfl, hc0, hr0⟩ (wf_isB hw0) ⟨_, _, rfl, hc1, hr1⟩ (wf_isB hw1)
/-- A binary operation, by its run. -/
theorem wpList_bin {P : Program} {ops : Array Oper} {rest : List Oper} {op : Oper} {a : Act} {w : World} {Q : Exit → Act → World → Prop} (hgd : op.guard = none) {b : BinOp} {t r : TypeId} {x y : Operand} (ho : op.op = .binOp b t x y r) {u1 u2 v : Value} (hx : a.eval x = u1) (hy : a.eval y = u2)
    (hg : (eqGuard b t x y u1 u2).run P w = .ok () w) (hb : (binOp b t u1 u2).run P w = .ok v w) (h : wpList P ops Q rest (a.put op.dst v) w) : wpList P ops Q (op :: rest) a w :=
  wpList_plain hgd fun K hK => by
    unfold Oper.wp execOp
    simp only [ho, hx, hy, hg, hb, Sem.run_bind, Sem.run_pure, Result.andThen_ok]
    exact hK _ _ h
open Extern.Stop (cell) in
theorem nums_cells {l : List Int} (h : isB l) : nums .u8 l = (l.map fun n => UInt8.ofNat n.toNat).map cell := by
  rw [nums, List.map_map]
  refine List.map_congr_left fun x hx => ?_
  have := h x hx
  show Value.int .u8 x = .int .u8 ((UInt8.ofNat x.toNat).toNat : Nat)
  congr 1
  simp
  omega
theorem same32 {l : List Int} (h : isB l) (hl : l.length = 32) (w : World) : (binOp .neq 69 (.agg (nums .u8 l).toArray) (.agg (nums .u8 l).toArray)).run Try.prog w = .ok (.bool false) w := by
  have hsz : ∀ w, (sizeOf 5).run Try.prog w = .ok 1 w := fun w => by kernel_rfl
  have hd : Op.maxDepth = 9998 + 2 := rfl
  show (do pure (.bool (!(← Op.equal 69 (.agg (nums .u8 l).toArray) (.agg (nums .u8 l).toArray)))) : Sem Value).run Try.prog w = _
  have key := run_equalIn_bytes w 9998 69 5 32 Try.underlying69 Try.underlying5 hsz (l.map fun n => UInt8.ofNat n.toNat) (l.map fun n => UInt8.ofNat n.toNat) (by rw [List.length_map]; exact hl) (by rw [List.length_map]; exact hl)
  rw [Op.equal, hd, nums_cells h]
  simp only [Sem.run_bind, key, Result.andThen_ok, Sem.run_pure, beq_self_eq_true, Bool.not_true]
theorem guard32 (x y : Operand) (l m : Array Value) (w : World) : (eqGuard .neq 69 x y (.agg l) (.agg m)).run Try.prog w = .ok () w := by
  have h : Try.prog.eqGuardType Try.prog.depth 69 = false := by kernel_rfl
  simp [eqGuard, h]
set_option maxHeartbeats 8000000 in
set_option maxRecDepth 100000 in
theorem DigestParts_calls (A : Option Addr) (c : Nat) (rows : List (List Int)) (w : World) (hr : RdR w (.slice A rows.length c) rows) (hb : ∀ r ∈ rows, isB r) :
    Calls Try.prog 12 #[.slice A rows.length c] w fun e w' => e = .returned (.bool true) ∧ Below w.heap.size w w' := by
  have hle := hr.le
  obtain ⟨n, hn⟩ : ∃ n, rows.length = n := ⟨_, rfl⟩
  rw [hn] at hr hle ⊢
  have HR := Aside0.mk hr
  have HRB := Aside0.mk hb
  have HN := Aside0.mk hn
  clear hr hb hn
  go_enter Try.func12, Try.ntmps12
  go_wp2_with fail
  refine (dig_awake_calls _).mono ?_
  rintro e w1 ⟨rfl, hb⟩
  have HB1 := Aside0.mk hb
  clear hb
  go_wp2_with fail
  refine (dNew_calls _).mono ?_
  rintro e w2 ⟨rfl, hn, hb⟩
  have HD2 := Aside0.mk (show DigS w2 w1.heap.size w1.heap.size (.slice none 0 0) [] 0 from ⟨hn, OwnO.nil _ _ _ _⟩)
  have HB2 := Aside0.mk (below_step HB1.out hb)
  have hgs : w.heap.size ≤ w1.heap.size := HB1.out.size
  obtain ⟨g, hg⟩ : ∃ g, w1.heap.size = g := ⟨_, rfl⟩
  rw [hg] at HD2 hgs ⊢
  clear hn hb hg HB1
  go_wp2_with fail
  go_loopw [4, 5] (fun v4 v5 w' => ∃ (i N : Nat) (v : Value) (P : List Int), i ≤ n ∧ i ≤ 12 ∧ N ≤ 300 * i ∧ v5 = .int .i64 i ∧ Aside0 (P.length = N) ∧ Aside0 (isB P) ∧ Aside0 (DigS w' g g v P N) ∧ Aside0 (OwnO (Value.int .u8) w' g 5 v4 P) ∧ Aside0 (Apart v v4) ∧ Aside0 (Below w.heap.size w w')) (fun _ v5 _ => n - (intOf v5).toNat)
  case atStart => exact ⟨0, 0, _, [], by omega, by omega, by omega, rfl, ⟨rfl⟩, ⟨fun x hx => by simp at hx⟩, HD2, ⟨OwnO.nil _ _ _ _⟩, ⟨fun k hk => by cases hk⟩, HB2⟩
  case round =>
    clear HD2 HB2
    obtain ⟨i, N, v, P, hi, hi12, hN, rfl, HP, HIP, HD, HO, HAP, HB⟩ := hrel
    obtain ⟨A4, c4, e4, _, _⟩ := HO.out.sl HP.out
    subst e4
    have hg0 : g < wr.heap.size := blk_lt HD.out.1
    by_cases c1 : i < n ∧ i < 12
    · obtain ⟨c1, c2⟩ := c1
      obtain ⟨ad, eA, u, hce, hru⟩ := HR.out.at i (by rw [HN.out]; exact c1)
      cases eA
      have HIR := Aside0.mk (RdR.mem HRB.out i)
      obtain ⟨row, hrow⟩ : ∃ r, rows.getD i [] = r := ⟨_, rfl⟩
      rw [hrow] at hru HIR
      clear hrow
      obtain ⟨Au, cu, eu, hcu, hmu, _⟩ := hru.mid
      obtain ⟨m, hm⟩ : ∃ m, row.length = m := ⟨_, rfl⟩
      have HM := Aside0.mk hm
      have HRU := Aside0.mk hru
      rw [hm] at eu hcu hmu
      subst eu
      rw [← HM.out] at HRU
      have HC := Aside0.mk hce
      have hcw := pw_cell_below HB.out hce
      clear hm hru hce
      by_cases c3 : 300 < m
      · go_wp2_with fail
        refine (dig_awake_calls _).mono ?_
        rintro e w3 ⟨rfl, hb⟩
        have HB3 := Aside0.mk (below_step HB.out hb)
        clear hb
        go_wp2_with fail
        go_ret
        exact ⟨rfl, HB3.out⟩
      · go_wp2_with fail
        refine (Write_calls _ row _ g g v P N HD.out (by have := HRU.out.below HB.out; rwa [HM.out] at this) (HIP.out.app HIR.out) (Nat.le_of_lt hg0) (Nat.le_refl _) (by rw [HM.out]; omega) (by omega) (by omega)).mono ?_
        rintro e w3 ⟨rfl, v3, hd3, hk3, ha3⟩
        have HO3 := Aside0.mk (HO.out.kp hk3 (fun k hk hs => hs.elim (fun e => HO.out.ne HD.out.1 (by decide) (by rw [hk, e])) (fun e => HAP.out k e hk)))
        have HAP3 := Aside0.mk (HAP.out.grow HO.out ha3)
        have HB3 := Aside0.mk (Kp.from HB.out hk3 (ks_ge HD.out hgs hgs))
        have HPL := Aside0.mk (show (P ++ row).length = N + m by rw [List.length_append, HP.out, HM.out])
        have HD3 := Aside0.mk (show DigS w3 g g v3 (P ++ row) ((N + m : Nat) : Int) by rw [← HM.out]; exact hd3)
        have HI3 := Aside0.mk (HIP.out.app HIR.out)
        have hg3 : g < w3.heap.size := blk_lt HD3.out.1
        obtain ⟨A7, c7, w7, hr7, ho7, hk7, ha7⟩ := app8R HO3.out (by have := HRU.out.below HB3.out; rwa [HM.out] at this) HP.out HM.out (Nat.le_of_lt hg3) (by omega)
        have HD7 := Aside0.mk (HD3.out.kp hk7 (fun e => HO3.out.ne HD3.out.1 (by decide) e) (fun k hk hs => HAP3.out k hk hs))
        have HAP7 := Aside0.mk (HAP3.out.symm.grow HD3.out.2 ha7).symm
        have HB7 := Aside0.mk (Kp.from HB3.out hk7 (fun k hk => Nat.le_trans hgs (HO3.out.ge hk)))
        have HO7 := Aside0.mk ho7
        have HR7 := Aside0.mk hr7
        have hc3 := pw_cell_below HB3.out HC.out
        clear hd3 hk3 ha3 hr7 ho7 hk7 ha7
        go_wp2_with (first | ((with_reducible refine gate_builtin (b := .append) (xs := #[.tmp 35, .tmp 39]) rfl ?_); at_builtin; refine app_list rfl (.tmp 35) (.tmp 39) rfl rfl rfl HR7.out ?_))
        refine (Sum_calls _ g g v3 (P ++ row) (by rw [HPL.out]; exact HD7.out) HI3.out (by rw [HPL.out]; omega)).mono ?_
        rintro e w8 ⟨rfl, hb⟩
        replace HD7 := Aside0.mk (HD7.out.below hb)
        replace HO7 := Aside0.mk (HO7.out.below hb)
        replace HB7 := Aside0.mk (below_step HB7.out hb)
        clear hb
        go_wp2_with fail
        refine (dOf_calls _ (P ++ row) _ (OwnO.rd HO7.out) HI3.out (by rw [HPL.out]; omega)).mono ?_
        rintro e w9 ⟨rfl, hb⟩
        replace HD7 := Aside0.mk (HD7.out.below hb)
        replace HO7 := Aside0.mk (HO7.out.below hb)
        replace HB7 := Aside0.mk (below_step HB7.out hb)
        clear hb
        go_wp2_with (first | (refine wpList_bin rfl rfl rfl rfl (guard32 _ _ _ _ _) (same32 (shaP_isB _) (shaP_len _) _) ?_))
        go_roundw
        case rel => exact ⟨i + 1, N + m, _, _, by omega, by omega, by omega, by go_num, HPL, HI3, HD7, HO7, HAP7, HB7⟩
        case measure => simp [intOf] <;> omega
    · have c2 : ¬ i < n ∨ (i < n ∧ ¬ i < 12) := by omega
      clear c1
      rcases c2 with c1 | ⟨c1, c2⟩

      · skip
        go_wp2_with fail
        refine (Constants_calls _).mono ?_
        rintro e w3 ⟨va, vk, rfl, ha, hk, _, hb⟩
        have HA := Aside0.mk (OwnO.rd ha)
        have HK := Aside0.mk (OwnO.rd hk)
        replace HB := Aside0.mk (below_step HB.out hb)
        replace HD := Aside0.mk (HD.out.below hb)
        replace HO := Aside0.mk (HO.out.below hb)
        clear ha hk hb
        go_wp2_with fail
        refine (Sum_calls _ g g v P (by rw [HP.out]; exact HD.out) HIP.out (by rw [HP.out]; omega)).mono ?_
        rintro e w4 ⟨rfl, hb⟩
        replace HB := Aside0.mk (below_step HB.out hb)
        replace HA := Aside0.mk (HA.out.below hb)
        replace HK := Aside0.mk (HK.out.below hb)
        replace HO := Aside0.mk (HO.out.below hb)
        have HNB := Aside0.mk (blk_new w4 (.cells (nums .u8 (shaP P)).toArray 69))
        have HB3 := Aside0.mk (below_alloc HB.out (.cells (nums .u8 (shaP P)).toArray 69))
        have HA3 := Aside0.mk (HA.out.below (below_alloc (Below.refl _ _) (.cells (nums .u8 (shaP P)).toArray 69)))
        have HK3 := Aside0.mk (HK.out.below (below_alloc (Below.refl _ _) (.cells (nums .u8 (shaP P)).toArray 69)))
        have HO3 := Aside0.mk (HO.out.below (below_alloc (Below.refl _ _) (.cells (nums .u8 (shaP P)).toArray 69)))
        clear hb HB HA HK HD HO
        go_wp2_with (first | (refine wpList_store_fresh rfl 69 (.tmp 8) (.tmp 51) rfl _ (nums .u8 (shaP P)).toArray rfl rfl (info32A P) (sz32 P) (ones_nums _ _) ?_))
        obtain ⟨wx, hwx⟩ : ∃ wx, w4.alloc (.cells (nums .u8 (shaP P)).toArray 69) = wx := ⟨_, rfl⟩
        rw [hwx] at HNB HB3 HA3 HK3 HO3 ⊢
        clear hwx
        have HS := Aside0.mk (Own.rd (own_blk (base := 0) HNB.out (Nat.zero_le _) (by rw [shaP_len]; omega)))
        rw [shaP_len] at HS
        have HN1 := Aside0.mk (show P.length ≤ 100000 by rw [HP.out]; omega)
        refine start_ (n := 10) (S := fun w' => True) (ds := []) #[false, false, false, false, false, false, false, false, false, false] (by kernel_rfl) rfl rfl trivial (fun hHeld => ?_)
        refine pure_ (i := 0) (N := some 52) (v := ?_) (a' := ?_) #[true, false, false, false, false, false, false, false, false, false] rfl rfl (by kernel_rfl) (fun _ _ _ h => h) (Or.inl ⟨by rfl, ?_⟩) ?_ ?_
        rotate_left
        · intro w'
          go_simp
          with_reducible rfl
        rotate_left
        · simp only [Act.put, List.setIfInBounds_toArray, List.set_cons_zero, List.set_cons_succ, i64_w, i32_w]
          rfl
        refine pure_ (i := 1) (N := some 53) (v := ?_) (a' := ?_) #[true, true, false, false, false, false, false, false, false, false] rfl rfl (by kernel_rfl) (fun _ _ _ h => h) (Or.inl ⟨by rfl, ?_⟩) ?_ ?_
        rotate_left
        · intro w'
          go_simp
          with_reducible rfl
        rotate_left
        · simp only [Act.put, List.setIfInBounds_toArray, List.set_cons_zero, List.set_cons_succ, i64_w, i32_w]
          rfl
        refine pure_ (i := 2) (N := some 54) (v := ?_) (a' := ?_) #[true, true, true, false, false, false, false, false, false, false] rfl rfl (by kernel_rfl) (fun _ _ _ h => h) (Or.inl ⟨by rfl, ?_⟩) ?_ ?_
        rotate_left
        · intro w'
          go_simp
          with_reducible rfl
        rotate_left
        · simp only [Act.put, List.setIfInBounds_toArray, List.set_cons_zero, List.set_cons_succ, i64_w, i32_w]
          rfl
        refine pure_ (i := 3) (N := some 55) (v := ?_) (a' := ?_) #[true, true, true, true, false, false, false, false, false, false] rfl rfl (by kernel_rfl) (fun _ _ _ h => h) (Or.inl ⟨by rfl, ?_⟩) ?_ ?_
        rotate_left
        · intro w'
          go_simp
          with_reducible rfl
        rotate_left
        · simp only [Act.put, List.setIfInBounds_toArray, List.set_cons_zero, List.set_cons_succ, i64_w, i32_w]
          rfl
        refine one_ (i := 4) (N := some 56) #[true, true, true, true, true, false, false, false, false, false] rfl rfl (by kernel_rfl) (by decide) (fun K hK => ?_)
        refine goes_ Try.func46 (by kernel_rfl) rfl #[va, vk, .slice A4 N c4] (by rfl) rfl rfl (by (try simp only [List.map_toArray, List.map_cons, List.map_nil]); first | done | rfl) ?_
        with_reducible refine (refOf_calls va vk (.slice A4 N c4) P _ (HA3.out.below (below_drew (Below.refl _ _))) (HK3.out.below (below_drew (Below.refl _ _))) ((OwnO.rd HO3.out).below (below_drew (Below.refl _ _))) HIP.out HN1.out).mono ?_
        rintro e w5 ⟨v5, rfl, ho5, hb5⟩
        refine ⟨_, rfl, ?_⟩
        refine hK.out _ _ trivial (fun hHeld => ?_)
        clear hK K
        refine norm_ (a' := ?_) ?_ ?_
        rotate_left
        · show Act.put _ (some 56) _ = _
          simp only [Act.put, List.setIfInBounds_toArray, List.set_cons_zero, List.set_cons_succ, i64_w, i32_w]
          rfl
        refine one_ (i := 5) (N := some 57) #[true, true, true, true, true, true, false, false, false, false] rfl rfl (by kernel_rfl) (by decide) (fun K hK => ?_)
        refine goes_ Try.func37 (by kernel_rfl) rfl #[.slice (some ⟨w4.heap.size, 0, none⟩) 32 32, v5] (by rfl) rfl rfl (by (try simp only [List.map_toArray, List.map_cons, List.map_nil]); first | done | rfl) ?_
        with_reducible refine (Same_calls (.slice (some ⟨w4.heap.size, 0, none⟩) 32 32) v5 (shaP P) (shaP P) _ ((HS.out.below (below_drew (Below.refl _ _))).below hb5) (OwnO.rd ho5) (shaP_isB _) (shaP_isB _)).mono ?_
        rintro e w6 ⟨rfl, hb6⟩
        refine ⟨_, rfl, ?_⟩
        rw [show decide (shaP P = shaP P) = true from by simp]
        refine hK.out _ _ trivial (fun hHeld => ?_)
        clear hK K
        refine norm_ (a' := ?_) ?_ ?_
        rotate_left
        · show Act.put _ (some 57) _ = _
          simp only [Act.put, List.setIfInBounds_toArray, List.set_cons_zero, List.set_cons_succ, i64_w, i32_w]
          rfl
        refine pure_ (i := 6) (N := some 58) (v := ?_) (a' := ?_) #[true, true, true, true, true, true, true, false, false, false] rfl rfl (by kernel_rfl) (fun _ _ _ h => h) (Or.inl ⟨by rfl, ?_⟩) ?_ ?_
        rotate_left
        · intro w'
          go_simp
          with_reducible rfl
        rotate_left
        · simp only [Act.put, List.setIfInBounds_toArray, List.set_cons_zero, List.set_cons_succ, i64_w, i32_w]
          rfl
        refine one_ (i := 7) (N := some 59) #[true, true, true, true, true, true, true, true, false, false] rfl rfl (by kernel_rfl) (by decide) (fun K hK => ?_)
        refine goes_ Try.func43 (by kernel_rfl) rfl #[] (by rfl) rfl rfl (by (try simp only [List.map_toArray, List.map_cons, List.map_nil]); first | done | rfl) ?_
        with_reducible refine (dig_awake_calls _).mono ?_
        rintro e w7 ⟨rfl, hb7⟩
        refine ⟨_, rfl, ?_⟩
        refine hK.out _ _ trivial (fun hHeld => ?_)
        clear hK K
        refine norm_ (a' := ?_) ?_ ?_
        rotate_left
        · show Act.put _ (some 59) _ = _
          simp only [Act.put, List.setIfInBounds_toArray, List.set_cons_zero, List.set_cons_succ, i64_w, i32_w]
          rfl
        refine pure_ (i := 8) (N := some 60) (v := ?_) (a' := ?_) #[true, true, true, true, true, true, true, true, true, false] rfl rfl (by kernel_rfl) (fun _ _ _ h => h) (Or.inl ⟨by rfl, ?_⟩) ?_ ?_
        rotate_left
        · intro w'
          go_simp
          with_reducible rfl
        rotate_left
        · simp only [Act.put, List.setIfInBounds_toArray, List.set_cons_zero, List.set_cons_succ, i64_w, i32_w]
          rfl
        refine pure_ (i := 9) (N := some 2) (v := ?_) (a' := ?_) #[true, true, true, true, true, true, true, true, true, true] rfl rfl (by kernel_rfl) (fun _ _ _ h => h) (Or.inl ⟨by rfl, ?_⟩) ?_ ?_
        rotate_left
        · intro w'
          go_simp
          with_reducible rfl
        rotate_left
        · simp only [Act.put, List.setIfInBounds_toArray, List.set_cons_zero, List.set_cons_succ, i64_w, i32_w]
          rfl
        refine done_ (by kernel_rfl) ?_
        have HB7 := Aside0.mk (below_step (below_step (below_step (below_drew HB3.out) hb5) hb6) hb7)
        clear hb5 hb6 hb7 ho5
        go_wp2_with fail
        go_ret
        exact ⟨rfl, HB7.out⟩
      · skip
        go_wp2_with fail
        refine (Constants_calls _).mono ?_
        rintro e w3 ⟨va, vk, rfl, ha, hk, _, hb⟩
        have HA := Aside0.mk (OwnO.rd ha)
        have HK := Aside0.mk (OwnO.rd hk)
        replace HB := Aside0.mk (below_step HB.out hb)
        replace HD := Aside0.mk (HD.out.below hb)
        replace HO := Aside0.mk (HO.out.below hb)
        clear ha hk hb
        go_wp2_with fail
        refine (Sum_calls _ g g v P (by rw [HP.out]; exact HD.out) HIP.out (by rw [HP.out]; omega)).mono ?_
        rintro e w4 ⟨rfl, hb⟩
        replace HB := Aside0.mk (below_step HB.out hb)
        replace HA := Aside0.mk (HA.out.below hb)
        replace HK := Aside0.mk (HK.out.below hb)
        replace HO := Aside0.mk (HO.out.below hb)
        have HNB := Aside0.mk (blk_new w4 (.cells (nums .u8 (shaP P)).toArray 69))
        have HB3 := Aside0.mk (below_alloc HB.out (.cells (nums .u8 (shaP P)).toArray 69))
        have HA3 := Aside0.mk (HA.out.below (below_alloc (Below.refl _ _) (.cells (nums .u8 (shaP P)).toArray 69)))
        have HK3 := Aside0.mk (HK.out.below (below_alloc (Below.refl _ _) (.cells (nums .u8 (shaP P)).toArray 69)))
        have HO3 := Aside0.mk (HO.out.below (below_alloc (Below.refl _ _) (.cells (nums .u8 (shaP P)).toArray 69)))
        clear hb HB HA HK HD HO
        go_wp2_with (first | (refine wpList_store_fresh rfl 69 (.tmp 8) (.tmp 51) rfl _ (nums .u8 (shaP P)).toArray rfl rfl (info32A P) (sz32 P) (ones_nums _ _) ?_))
        obtain ⟨wx, hwx⟩ : ∃ wx, w4.alloc (.cells (nums .u8 (shaP P)).toArray 69) = wx := ⟨_, rfl⟩
        rw [hwx] at HNB HB3 HA3 HK3 HO3 ⊢
        clear hwx
        have HS := Aside0.mk (Own.rd (own_blk (base := 0) HNB.out (Nat.zero_le _) (by rw [shaP_len]; omega)))
        rw [shaP_len] at HS
        have HN1 := Aside0.mk (show P.length ≤ 100000 by rw [HP.out]; omega)
        refine start_ (n := 10) (S := fun w' => True) (ds := []) #[false, false, false, false, false, false, false, false, false, false] (by kernel_rfl) rfl rfl trivial (fun hHeld => ?_)
        refine pure_ (i := 0) (N := some 52) (v := ?_) (a' := ?_) #[true, false, false, false, false, false, false, false, false, false] rfl rfl (by kernel_rfl) (fun _ _ _ h => h) (Or.inl ⟨by rfl, ?_⟩) ?_ ?_
        rotate_left
        · intro w'
          go_simp
          with_reducible rfl
        rotate_left
        · simp only [Act.put, List.setIfInBounds_toArray, List.set_cons_zero, List.set_cons_succ, i64_w, i32_w]
          rfl
        refine pure_ (i := 1) (N := some 53) (v := ?_) (a' := ?_) #[true, true, false, false, false, false, false, false, false, false] rfl rfl (by kernel_rfl) (fun _ _ _ h => h) (Or.inl ⟨by rfl, ?_⟩) ?_ ?_
        rotate_left
        · intro w'
          go_simp
          with_reducible rfl
        rotate_left
        · simp only [Act.put, List.setIfInBounds_toArray, List.set_cons_zero, List.set_cons_succ, i64_w, i32_w]
          rfl
        refine pure_ (i := 2) (N := some 54) (v := ?_) (a' := ?_) #[true, true, true, false, false, false, false, false, false, false] rfl rfl (by kernel_rfl) (fun _ _ _ h => h) (Or.inl ⟨by rfl, ?_⟩) ?_ ?_
        rotate_left
        · intro w'
          go_simp
          with_reducible rfl
        rotate_left
        · simp only [Act.put, List.setIfInBounds_toArray, List.set_cons_zero, List.set_cons_succ, i64_w, i32_w]
          rfl
        refine pure_ (i := 3) (N := some 55) (v := ?_) (a' := ?_) #[true, true, true, true, false, false, false, false, false, false] rfl rfl (by kernel_rfl) (fun _ _ _ h => h) (Or.inl ⟨by rfl, ?_⟩) ?_ ?_
        rotate_left
        · intro w'
          go_simp
          with_reducible rfl
        rotate_left
        · simp only [Act.put, List.setIfInBounds_toArray, List.set_cons_zero, List.set_cons_succ, i64_w, i32_w]
          rfl
        refine one_ (i := 4) (N := some 56) #[true, true, true, true, true, false, false, false, false, false] rfl rfl (by kernel_rfl) (by decide) (fun K hK => ?_)
        refine goes_ Try.func46 (by kernel_rfl) rfl #[va, vk, .slice A4 N c4] (by rfl) rfl rfl (by (try simp only [List.map_toArray, List.map_cons, List.map_nil]); first | done | rfl) ?_
        with_reducible refine (refOf_calls va vk (.slice A4 N c4) P _ (HA3.out.below (below_drew (Below.refl _ _))) (HK3.out.below (below_drew (Below.refl _ _))) ((OwnO.rd HO3.out).below (below_drew (Below.refl _ _))) HIP.out HN1.out).mono ?_
        rintro e w5 ⟨v5, rfl, ho5, hb5⟩
        refine ⟨_, rfl, ?_⟩
        refine hK.out _ _ trivial (fun hHeld => ?_)
        clear hK K
        refine norm_ (a' := ?_) ?_ ?_
        rotate_left
        · show Act.put _ (some 56) _ = _
          simp only [Act.put, List.setIfInBounds_toArray, List.set_cons_zero, List.set_cons_succ, i64_w, i32_w]
          rfl
        refine one_ (i := 5) (N := some 57) #[true, true, true, true, true, true, false, false, false, false] rfl rfl (by kernel_rfl) (by decide) (fun K hK => ?_)
        refine goes_ Try.func37 (by kernel_rfl) rfl #[.slice (some ⟨w4.heap.size, 0, none⟩) 32 32, v5] (by rfl) rfl rfl (by (try simp only [List.map_toArray, List.map_cons, List.map_nil]); first | done | rfl) ?_
        with_reducible refine (Same_calls (.slice (some ⟨w4.heap.size, 0, none⟩) 32 32) v5 (shaP P) (shaP P) _ ((HS.out.below (below_drew (Below.refl _ _))).below hb5) (OwnO.rd ho5) (shaP_isB _) (shaP_isB _)).mono ?_
        rintro e w6 ⟨rfl, hb6⟩
        refine ⟨_, rfl, ?_⟩
        rw [show decide (shaP P = shaP P) = true from by simp]
        refine hK.out _ _ trivial (fun hHeld => ?_)
        clear hK K
        refine norm_ (a' := ?_) ?_ ?_
        rotate_left
        · show Act.put _ (some 57) _ = _
          simp only [Act.put, List.setIfInBounds_toArray, List.set_cons_zero, List.set_cons_succ, i64_w, i32_w]
          rfl
        refine pure_ (i := 6) (N := some 58) (v := ?_) (a' := ?_) #[true, true, true, true, true, true, true, false, false, false] rfl rfl (by kernel_rfl) (fun _ _ _ h => h) (Or.inl ⟨by rfl, ?_⟩) ?_ ?_
        rotate_left
        · intro w'
          go_simp
          with_reducible rfl
        rotate_left
        · simp only [Act.put, List.setIfInBounds_toArray, List.set_cons_zero, List.set_cons_succ, i64_w, i32_w]
          rfl
        refine one_ (i := 7) (N := some 59) #[true, true, true, true, true, true, true, true, false, false] rfl rfl (by kernel_rfl) (by decide) (fun K hK => ?_)
        refine goes_ Try.func43 (by kernel_rfl) rfl #[] (by rfl) rfl rfl (by (try simp only [List.map_toArray, List.map_cons, List.map_nil]); first | done | rfl) ?_
        with_reducible refine (dig_awake_calls _).mono ?_
        rintro e w7 ⟨rfl, hb7⟩
        refine ⟨_, rfl, ?_⟩
        refine hK.out _ _ trivial (fun hHeld => ?_)
        clear hK K
        refine norm_ (a' := ?_) ?_ ?_
        rotate_left
        · show Act.put _ (some 59) _ = _
          simp only [Act.put, List.setIfInBounds_toArray, List.set_cons_zero, List.set_cons_succ, i64_w, i32_w]
          rfl
        refine pure_ (i := 8) (N := some 60) (v := ?_) (a' := ?_) #[true, true, true, true, true, true, true, true, true, false] rfl rfl (by kernel_rfl) (fun _ _ _ h => h) (Or.inl ⟨by rfl, ?_⟩) ?_ ?_
        rotate_left
        · intro w'
          go_simp
          with_reducible rfl
        rotate_left
        · simp only [Act.put, List.setIfInBounds_toArray, List.set_cons_zero, List.set_cons_succ, i64_w, i32_w]
          rfl
        refine pure_ (i := 9) (N := some 2) (v := ?_) (a' := ?_) #[true, true, true, true, true, true, true, true, true, true] rfl rfl (by kernel_rfl) (fun _ _ _ h => h) (Or.inl ⟨by rfl, ?_⟩) ?_ ?_
        rotate_left
        · intro w'
          go_simp
          with_reducible rfl
        rotate_left
        · simp only [Act.put, List.setIfInBounds_toArray, List.set_cons_zero, List.set_cons_succ, i64_w, i32_w]
          rfl
        refine done_ (by kernel_rfl) ?_
        have HB7 := Aside0.mk (below_step (below_step (below_step (below_drew HB3.out) hb5) hb6) hb7)
        clear hb5 hb6 hb7 ho5
        go_wp2_with fail
        go_ret
        exact ⟨rfl, HB7.out⟩
theorem DigestParts_walk (A : Option Addr) (c : Nat) (rows : List (List Int)) (w : World) (hr : RdR w (.slice A rows.length c) rows) (hb : ∀ r ∈ rows, isB r) :
    Calls Try.prog 12 #[.slice A rows.length c] w fun e w' => e = .returned (.bool true) ∧ Below w.heap.size w w' := DigestParts_calls A c rows w hr hb
end Go.Proofs.Ytekbidjfddanhaa
