import Derived.Test.YtigdchfjcfljjaaMgImageLoads1
import Derived.Test.YtigdchfjcfljjaaEnc
import Derived.Test.YtigdchfjcfljjaaCrc
import Derived.Test.YtigdchfjcfljjaaEnc2
import Derived.Test.YtigdchfjcfljjaaLe
section
/- Images: Copy, Load, New, Object, At. -/
namespace Go.Proofs.Ytigdchfjcfljjaa
open Go.RowKit Go.Proofs.YtigdchfjcfljjaaW.PrintWords Go.Proofs.YtigdchfjcfljjaaW.PrintLast Go.Proofs.YtigdchfjcfljjaaW.PrintMore
attribute [local go_sem] max2_int min2_int max_two min_two max_three min_three max_four min_four   -- for this text's walks alone
set_option linter.unusedVariables false
set_option linter.unusedSimpArgs false

/-- How many bytes stand ahead of all objects. -/
def obN (H : Hd) : Int := 256 + 8 * H.data + 8 * H.fields
theorem Im.fresh {w w1 : World} {H : Hd} {B : List Int} {vb : Value} (lim fr : Int) (ho : OwnO (Value.int .u8) w1 w.heap.size 5 vb B) (hb : Below w.heap.size w w1) :
    Im (w1.alloc (.cells (imA H vb lim fr (.slice none 0 0)) 177)) w1.heap.size w.heap.size H B lim fr [] (fun k => w.heap.size ≤ k ∧ k < (w1.alloc (.cells (imA H vb lim fr (.slice none 0 0)) 177)).heap.size) vb (.slice none 0 0) := by
  refine ⟨blk_new _ _, ho.below (below_alloc (Below.refl _ _) _), OwnO.nil _ _ _ _, ⟨hb.size, by simp⟩, fun k hk => ⟨ho.ge hk, ?_⟩, (fun k hk => by cases hk), fun k hk => hk⟩
  have := ho.lt hk
  simp; omega
theorem hR_of {d f : Int} (h : hR d f = true) : 1 ≤ d ∧ d ≤ 256 ∧ 1 ≤ f ∧ f ≤ 256 := by simpa [hR, and_assoc] using h
set_option maxHeartbeats 8000000 in
set_option maxRecDepth 100000 in
theorem Load_head (H : Hd) (A0 : Option Addr) (l : List Int) (n c0 : Nat) (lim : Int) (w : World) (hr : hR H.data H.fields = false) : Calls Try.prog 39 #[.agg #[.int .u64 H.id, .int .u64 H.key, .int .i64 H.data, .int .i64 H.fields, .int .u64 H.made], .slice A0 n c0, .int .i64 lim] w fun e w' => e = .returned (.pointer none) ∧ Below w.heap.size w w' := by
  have HR := Aside0.mk hr
  clear hr
  go_enter Try.func39, Try.ntmps39
  go_wp2_with fail
  refine (head_Right_calls H.id H.key H.data H.fields H.made _).mono ?_
  rintro e w1 ⟨rfl, hb⟩
  have HZ := Aside0.mk (blk_below (blk_new w (.cells #[.int .u64 H.id, .int .u64 H.key, .int .i64 H.data, .int .i64 H.fields, .int .u64 H.made] 59)) hb)
  have HB := Aside0.mk (below_step (below_alloc (Below.refl w.heap.size w) (.cells #[.int .u64 H.id, .int .u64 H.key, .int .i64 H.data, .int .i64 H.fields, .int .u64 H.made] 59)) hb)
  rw [HR.out]
  clear hb
  go_wp2_with fail
  go_ret
  exact ⟨rfl, HB.out⟩
set_option maxHeartbeats 8000000 in
set_option maxRecDepth 100000 in
theorem Load_short (H : Hd) (A0 : Option Addr) (l : List Int) (n c0 : Nat) (lim : Int) (w : World) (hr : hR H.data H.fields = true) (hs : (n : Int) < obN H) : Calls Try.prog 39 #[.agg #[.int .u64 H.id, .int .u64 H.key, .int .i64 H.data, .int .i64 H.fields, .int .u64 H.made], .slice A0 n c0, .int .i64 lim] w fun e w' => e = .returned (.pointer none) ∧ Below w.heap.size w w' := by
  obtain ⟨d0, d1, f0, f1⟩ := hR_of hr
  rw [obN] at hs
  have HR := Aside0.mk hr
  clear hr
  go_enter Try.func39, Try.ntmps39
  go_wp2_with fail
  refine (head_Right_calls H.id H.key H.data H.fields H.made _).mono ?_
  rintro e w1 ⟨rfl, hb⟩
  have HZ := Aside0.mk (blk_below (blk_new w (.cells #[.int .u64 H.id, .int .u64 H.key, .int .i64 H.data, .int .i64 H.fields, .int .u64 H.made] 59)) hb)
  have HB := Aside0.mk (below_step (below_alloc (Below.refl w.heap.size w) (.cells #[.int .u64 H.id, .int .u64 H.key, .int .i64 H.data, .int .i64 H.fields, .int .u64 H.made] 59)) hb)
  rw [HR.out]
  clear hb
  have r0 : (w1).cell? ⟨w.heap.size, 0, none⟩ = some (.int .u64 H.id) := blk_cell HZ.out 0
  have r1 : (w1).cell? ⟨w.heap.size, 1, none⟩ = some (.int .u64 H.key) := blk_cell HZ.out 1
  have r2 : (w1).cell? ⟨w.heap.size, 2, none⟩ = some (.int .i64 H.data) := blk_cell HZ.out 2
  have r3 : (w1).cell? ⟨w.heap.size, 3, none⟩ = some (.int .i64 H.fields) := blk_cell HZ.out 3
  have r4 : (w1).cell? ⟨w.heap.size, 4, none⟩ = some (.int .u64 H.made) := blk_cell HZ.out 4
  go_wp2_with fail
  refine (Objects_calls H.id H.key H.data H.fields H.made _ d0 d1 f0 f1).mono ?_
  rintro e w2 ⟨rfl, hb⟩
  have HZ2 := Aside0.mk (blk_below HZ.out hb)
  have HB2 := Aside0.mk (below_step HB.out hb)
  clear hb r0 r1 r2 r3 r4
  go_wp2_with fail
  go_ret
  exact ⟨rfl, HB2.out⟩
set_option maxHeartbeats 8000000 in
set_option maxRecDepth 100000 in
theorem Load_yes (H : Hd) (A0 : Option Addr) (l : List Int) (n c0 : Nat) (lim : Int) (w : World) (hr : hR H.data H.fields = true) (hn : l.length = n) (hrd : Rd w .u8 (.slice A0 n c0) l) (hs : obN H ≤ (n : Int)) (hl : n ≤ 140737488355000) (hlim : lim ≤ 1048576) : Calls Try.prog 39 #[.agg #[.int .u64 H.id, .int .u64 H.key, .int .i64 H.data, .int .i64 H.fields, .int .u64 H.made], .slice A0 n c0, .int .i64 lim] w fun e w' => ∃ g, e = .returned (.pointer (some ⟨g, 0, none⟩)) ∧ (∃ vb, Im w' g w.heap.size H l lim n [] (fun k => w.heap.size ≤ k ∧ k < w'.heap.size) vb (.slice none 0 0)) ∧ Below w.heap.size w w' := by
  obtain ⟨d0, d1, f0, f1⟩ := hR_of hr
  rw [obN] at hs
  have HR := Aside0.mk hr
  have C := Aside0.mk (fun w1 (hb : Below w.heap.size w w1) => Clone_calls (.slice A0 n c0) l w1 (hrd.below hb) (by omega))
  have HN := Aside0.mk hn
  clear hr hn hrd
  go_enter Try.func39, Try.ntmps39
  go_wp2_with fail
  refine (head_Right_calls H.id H.key H.data H.fields H.made _).mono ?_
  rintro e w1 ⟨rfl, hb⟩
  have HZ := Aside0.mk (blk_below (blk_new w (.cells #[.int .u64 H.id, .int .u64 H.key, .int .i64 H.data, .int .i64 H.fields, .int .u64 H.made] 59)) hb)
  have HB := Aside0.mk (below_step (below_alloc (Below.refl w.heap.size w) (.cells #[.int .u64 H.id, .int .u64 H.key, .int .i64 H.data, .int .i64 H.fields, .int .u64 H.made] 59)) hb)
  rw [HR.out]
  clear hb
  have r0 : (w1).cell? ⟨w.heap.size, 0, none⟩ = some (.int .u64 H.id) := blk_cell HZ.out 0
  have r1 : (w1).cell? ⟨w.heap.size, 1, none⟩ = some (.int .u64 H.key) := blk_cell HZ.out 1
  have r2 : (w1).cell? ⟨w.heap.size, 2, none⟩ = some (.int .i64 H.data) := blk_cell HZ.out 2
  have r3 : (w1).cell? ⟨w.heap.size, 3, none⟩ = some (.int .i64 H.fields) := blk_cell HZ.out 3
  have r4 : (w1).cell? ⟨w.heap.size, 4, none⟩ = some (.int .u64 H.made) := blk_cell HZ.out 4
  go_wp2_with fail
  refine (Objects_calls H.id H.key H.data H.fields H.made _ d0 d1 f0 f1).mono ?_
  rintro e w2 ⟨rfl, hb⟩
  have HZ2 := Aside0.mk (blk_below HZ.out hb)
  have HB2 := Aside0.mk (below_step HB.out hb)
  clear hb r0 r1 r2 r3 r4
  have r0 : (w2).cell? ⟨w.heap.size, 0, none⟩ = some (.int .u64 H.id) := blk_cell HZ2.out 0
  have r1 : (w2).cell? ⟨w.heap.size, 1, none⟩ = some (.int .u64 H.key) := blk_cell HZ2.out 1
  have r2 : (w2).cell? ⟨w.heap.size, 2, none⟩ = some (.int .i64 H.data) := blk_cell HZ2.out 2
  have r3 : (w2).cell? ⟨w.heap.size, 3, none⟩ = some (.int .i64 H.fields) := blk_cell HZ2.out 3
  have r4 : (w2).cell? ⟨w.heap.size, 4, none⟩ = some (.int .u64 H.made) := blk_cell HZ2.out 4
  go_upto_region 3 with fail
  refine start_ (n := 10) (S := fun w' => w'.cell? ⟨w.heap.size, 0, none⟩ = some (.int .u64 H.id) ∧ w'.cell? ⟨w.heap.size, 1, none⟩ = some (.int .u64 H.key) ∧ w'.cell? ⟨w.heap.size, 2, none⟩ = some (.int .i64 H.data) ∧ w'.cell? ⟨w.heap.size, 3, none⟩ = some (.int .i64 H.fields) ∧ w'.cell? ⟨w.heap.size, 4, none⟩ = some (.int .u64 H.made)) (ds := []) #[false, false, false, false, false, false, false, false, false, false] (by kernel_rfl) rfl rfl ⟨r0, r1, r2, r3, r4⟩ (fun hHeld => ?_)
  refine pure_ (i := 1) (N := some 18) (v := ?_) (a' := ?_) #[false, true, false, false, false, false, false, false, false, false] rfl rfl (by kernel_rfl) (fun _ _ _ h => h) (Or.inl ⟨by rfl, ?_⟩) ?_ ?_
  rotate_left
  · intro w'
    go_simp
    with_reducible rfl
  rotate_left
  · simp only [Act.put, List.setIfInBounds_toArray, List.set_cons_zero, List.set_cons_succ, i64_w, i32_w]
    rfl
  refine pure_ (i := 3) (N := some 20) (v := ?_) (a' := ?_) #[false, true, false, true, false, false, false, false, false, false] rfl rfl (by kernel_rfl) (fun _ _ _ h => h) (Or.inl ⟨by rfl, ?_⟩) ?_ ?_
  rotate_left
  · intro w'
    go_simp
    with_reducible rfl
  rotate_left
  · simp only [Act.put, List.setIfInBounds_toArray, List.set_cons_zero, List.set_cons_succ, i64_w, i32_w]
    rfl
  refine pure_ (i := 4) (N := some 21) (v := ?_) (a' := ?_) #[false, true, false, true, true, false, false, false, false, false] rfl rfl (by kernel_rfl) (fun _ _ _ h => h) (Or.inl ⟨by rfl, ?_⟩) ?_ ?_
  rotate_left
  · intro w'
    go_simp
    with_reducible rfl
  rotate_left
  · simp only [Act.put, List.setIfInBounds_toArray, List.set_cons_zero, List.set_cons_succ, i64_w, i32_w]
    rfl
  refine pure_ (i := 5) (N := some 22) (v := ?_) (a' := ?_) #[false, true, false, true, true, true, false, false, false, false] rfl rfl (by kernel_rfl) (fun _ _ _ h => h) (Or.inl ⟨by rfl, ?_⟩) ?_ ?_
  rotate_left
  · intro w'
    go_simp
    with_reducible rfl
  rotate_left
  · simp only [Act.put, List.setIfInBounds_toArray, List.set_cons_zero, List.set_cons_succ, i64_w, i32_w]
    rfl
  refine pure_ (i := 6) (N := some 23) (v := ?_) (a' := ?_) #[false, true, false, true, true, true, true, false, false, false] rfl rfl (by kernel_rfl) (fun _ _ _ h => h) (Or.inl ⟨by rfl, ?_⟩) ?_ ?_
  rotate_left
  · intro w'
    go_simp
    with_reducible rfl
  rotate_left
  · simp only [Act.put, List.setIfInBounds_toArray, List.set_cons_zero, List.set_cons_succ, i64_w, i32_w]
    rfl
  refine take_ (i := 0) (N := some 17) (v := ?_) (a' := ?_) #[true, true, false, true, true, true, true, false, false, false] rfl rfl (by kernel_rfl) (fun _ _ _ h => h) (Or.inl ⟨by rfl, ?_⟩) hHeld ?_ ?_
  rotate_left
  · rintro w' ⟨s0, s1, s2, s3, s4⟩
    go_simp
    with_reducible rfl
  rotate_left
  · simp only [Act.put, List.setIfInBounds_toArray, List.set_cons_zero, List.set_cons_succ, i64_w, i32_w]
    rfl
  refine one_ (i := 2) (N := some 19) #[true, true, true, true, true, true, true, false, false, false] rfl rfl (by kernel_rfl) (by decide) (fun K hK => ?_)
  refine goes_ Try.func117 (by kernel_rfl) rfl #[.slice A0 n c0] (by rfl) rfl rfl (by (try simp only [List.map_toArray, List.map_cons, List.map_nil]); first | done | rfl) ?_
  with_reducible refine (C.out _ (below_drew HB2.out)).mono ?_
  rintro e w3 ⟨v1, rfl, ho1, hb1⟩
  refine ⟨_, rfl, ?_⟩
  obtain ⟨A1, c1, rfl, _, _⟩ := ho1.sl HN.out
  refine hK.out _ _ ⟨(pw_cell_below hb1 hHeld.1), (pw_cell_below hb1 hHeld.2.1), (pw_cell_below hb1 hHeld.2.2.1), (pw_cell_below hb1 hHeld.2.2.2.1), (pw_cell_below hb1 hHeld.2.2.2.2)⟩ (fun hHeld => ?_)
  clear hK K
  refine norm_ (a' := ?_) ?_ ?_
  rotate_left
  · show Act.put _ (some 19) _ = _
    simp only [Act.put, List.setIfInBounds_toArray, List.set_cons_zero, List.set_cons_succ, i64_w, i32_w]
    rfl
  refine pure_ (i := 7) (N := some 24) (v := ?_) (a' := ?_) #[true, true, true, true, true, true, true, true, false, false] rfl rfl (by kernel_rfl) (fun _ _ _ h => h) (Or.inl ⟨by rfl, ?_⟩) ?_ ?_
  rotate_left
  · intro w'
    go_simp
    with_reducible rfl
  rotate_left
  · simp only [Act.put, List.setIfInBounds_toArray, List.set_cons_zero, List.set_cons_succ, i64_w, i32_w]
    rfl
  refine one_ (i := 8) (N := some 25) #[true, true, true, true, true, true, true, true, true, false] rfl rfl (by kernel_rfl) (by decide) (fun K hK => ?_)
  refine value_ (w1 := ?_) (v := ?_) (by rfl) rfl ?_ ?_
  rotate_left 2
  · go_simp
    constructor
    · rfl
    · rfl
  refine hK.out _ _ ⟨(pw_cell_below (below_alloc (Below.refl _ _) _) hHeld.1), (pw_cell_below (below_alloc (Below.refl _ _) _) hHeld.2.1), (pw_cell_below (below_alloc (Below.refl _ _) _) hHeld.2.2.1), (pw_cell_below (below_alloc (Below.refl _ _) _) hHeld.2.2.2.1), (pw_cell_below (below_alloc (Below.refl _ _) _) hHeld.2.2.2.2)⟩ (fun hHeld => ?_)
  clear hK K
  refine norm_ (a' := ?_) ?_ ?_
  rotate_left
  · show Act.put _ (some 25) _ = _
    simp only [Act.put, List.setIfInBounds_toArray, List.set_cons_zero, List.set_cons_succ, i64_w, i32_w]
    rfl
  refine pure_ (i := 9) (N := some 6) (v := ?_) (a' := ?_) #[true, true, true, true, true, true, true, true, true, true] rfl rfl (by kernel_rfl) (fun _ _ _ h => h) (Or.inl ⟨by rfl, ?_⟩) ?_ ?_
  rotate_left
  · intro w'
    go_simp
    with_reducible rfl
  rotate_left
  · simp only [Act.put, List.setIfInBounds_toArray, List.set_cons_zero, List.set_cons_succ, i64_w, i32_w]
    rfl
  refine done_ (by kernel_rfl) ?_
  have HB3 := Aside0.mk (below_step (below_drew HB2.out) hb1)
  have HO3 := Aside0.mk (ho1.weaken HB2.out.size)
  clear hb1 ho1 r0 r1 r2 r3 r4
  go_wp2_with fail
  go_ret
  exact ⟨_, rfl, ⟨_, Im.fresh lim n HO3.out HB3.out⟩, below_alloc HB3.out _⟩


set_option maxHeartbeats 8000000 in
set_option maxRecDepth 100000 in
theorem New_yes (H : Hd) (T : Nat) (lim : Int) (w : World) (hT : CrcT w T) (hr : hR H.data H.fields = true) (i0 : 0 ≤ H.id) (i1 : H.id ≤ 18446744073709551615) (k0 : 0 ≤ H.key) (k1 : H.key ≤ 18446744073709551615) (m0 : 0 ≤ H.made) (m1 : H.made ≤ 18446744073709551615) (hlim : lim ≤ 1048576) : Calls Try.prog 47 #[.pointer (some ⟨T, 0, none⟩), .agg #[.int .u64 H.id, .int .u64 H.key, .int .i64 H.data, .int .i64 H.fields, .int .u64 H.made], .int .i64 lim] w fun e w' => ∃ g, e = .returned (.pointer (some ⟨g, 0, none⟩)) ∧ (∃ vb, Im w' g w.heap.size H (encZ magicL [H.id, H.key, H.data, H.fields, H.made] ++ List.replicate (obN H - 64).toNat 0) lim (obN H) [] (fun k => w.heap.size ≤ k ∧ k < w'.heap.size) vb (.slice none 0 0)) ∧ Below w.heap.size w w' := by
  obtain ⟨d0, d1, f0, f1⟩ := hR_of hr
  have HR := Aside0.mk hr
  have HT := Aside0.mk hT
  obtain ⟨q, hq⟩ : ∃ q : Nat, obN H = 64 + (q : Int) := ⟨(obN H - 64).toNat, by rw [obN]; omega⟩
  rw [show (obN H - 64).toNat = q by omega, hq]
  have hsub : IntKind.i64.wrap (256 + 8 * H.data + 8 * H.fields - 64) = (q : Int) := by rw [obN] at hq; rw [IntKind.wrap_i64]; omega
  have q0 : 0 < q := by rw [obN] at hq; omega
  have q1 : q ≤ 5000 := by rw [obN] at hq; omega
  have HEL := Aside0.mk (show (encZ magicL [H.id, H.key, H.data, H.fields, H.made]).length = 64 by rw [encZ, List.length_append, encC_len, List.length_replicate]; rfl)
  clear hr hT hq
  go_enter Try.func47, Try.ntmps47
  go_wp2_with fail
  refine (head_Right_calls H.id H.key H.data H.fields H.made _).mono ?_
  rintro e w1 ⟨rfl, hb⟩
  have HZ := Aside0.mk (blk_below (blk_new w (.cells #[.int .u64 H.id, .int .u64 H.key, .int .i64 H.data, .int .i64 H.fields, .int .u64 H.made] 59)) hb)
  have HB := Aside0.mk (below_step (below_alloc (Below.refl w.heap.size w) (.cells #[.int .u64 H.id, .int .u64 H.key, .int .i64 H.data, .int .i64 H.fields, .int .u64 H.made] 59)) hb)
  rw [HR.out]
  clear hb
  have r0 : (w1).cell? ⟨w.heap.size, 0, none⟩ = some (.int .u64 H.id) := blk_cell HZ.out 0
  have r1 : (w1).cell? ⟨w.heap.size, 1, none⟩ = some (.int .u64 H.key) := blk_cell HZ.out 1
  have r2 : (w1).cell? ⟨w.heap.size, 2, none⟩ = some (.int .i64 H.data) := blk_cell HZ.out 2
  have r3 : (w1).cell? ⟨w.heap.size, 3, none⟩ = some (.int .i64 H.fields) := blk_cell HZ.out 3
  have r4 : (w1).cell? ⟨w.heap.size, 4, none⟩ = some (.int .u64 H.made) := blk_cell HZ.out 4
  go_upto_region 3 with fail
  refine start_ (n := 8) (S := fun w' => w'.cell? ⟨w.heap.size, 0, none⟩ = some (.int .u64 H.id) ∧ w'.cell? ⟨w.heap.size, 1, none⟩ = some (.int .u64 H.key) ∧ w'.cell? ⟨w.heap.size, 2, none⟩ = some (.int .i64 H.data) ∧ w'.cell? ⟨w.heap.size, 3, none⟩ = some (.int .i64 H.fields) ∧ w'.cell? ⟨w.heap.size, 4, none⟩ = some (.int .u64 H.made)) (ds := [6]) #[false, false, false, false, false, false, false, false] (by kernel_rfl) rfl rfl ⟨r0, r1, r2, r3, r4⟩ (fun hHeld => ?_)
  refine pure_ (i := 1) (N := some 12) (v := ?_) (a' := ?_) #[false, true, false, false, false, false, false, false] rfl rfl (by kernel_rfl) (fun _ _ _ h => h) (Or.inl ⟨by rfl, ?_⟩) ?_ ?_
  rotate_left
  · intro w'
    go_simp
    with_reducible rfl
  rotate_left
  · simp only [Act.put, List.setIfInBounds_toArray, List.set_cons_zero, List.set_cons_succ, i64_w, i32_w]
    rfl
  refine take_ (i := 0) (N := some 11) (v := ?_) (a' := ?_) #[true, true, false, false, false, false, false, false] rfl rfl (by kernel_rfl) (fun _ _ _ h => h) (Or.inl ⟨by rfl, ?_⟩) hHeld ?_ ?_
  rotate_left
  · rintro w' ⟨s0, s1, s2, s3, s4⟩
    go_simp
    with_reducible rfl
  rotate_left
  · simp only [Act.put, List.setIfInBounds_toArray, List.set_cons_zero, List.set_cons_succ, i64_w, i32_w]
    rfl
  refine take_ (i := 3) (N := some 14) (v := ?_) (a' := ?_) #[true, true, false, true, false, false, false, false] rfl rfl (by kernel_rfl) (fun _ _ _ h => h) (Or.inl ⟨by rfl, ?_⟩) hHeld ?_ ?_
  rotate_left
  · rintro w' ⟨s0, s1, s2, s3, s4⟩
    go_simp
    with_reducible rfl
  rotate_left
  · simp only [Act.put, List.setIfInBounds_toArray, List.set_cons_zero, List.set_cons_succ, i64_w, i32_w]
    rfl
  refine one_ (i := 2) (N := some 13) #[true, true, true, true, false, false, false, false] rfl rfl (by kernel_rfl) (by decide) (fun K hK => ?_)
  refine goes_ Try.func119 (by kernel_rfl) rfl #[.agg #[.int .u64 H.id, .int .u64 H.key, .int .i64 H.data, .int .i64 H.fields, .int .u64 H.made], .pointer (some ⟨T, 0, none⟩)] (by rfl) rfl rfl (by (try simp only [List.map_toArray, List.map_cons, List.map_nil]); first | done | rfl) ?_
  with_reducible refine (head_Encode_yes H.id H.key H.data H.fields H.made _ T (HT.out.below (below_drew HB.out)) HR.out i0 i1 k0 k1 (by omega) d1 (by omega) f1 m0 m1).mono ?_
  rintro e w2 ⟨v2, rfl, ho2, hb2⟩
  refine ⟨_, rfl, ?_⟩
  refine hK.out _ _ ⟨(pw_cell_below hb2 hHeld.1), (pw_cell_below hb2 hHeld.2.1), (pw_cell_below hb2 hHeld.2.2.1), (pw_cell_below hb2 hHeld.2.2.2.1), (pw_cell_below hb2 hHeld.2.2.2.2)⟩ (fun hHeld => ?_)
  clear hK K
  refine norm_ (a' := ?_) ?_ ?_
  rotate_left
  · show Act.put _ (some 13) _ = _
    simp only [Act.put, List.setIfInBounds_toArray, List.set_cons_zero, List.set_cons_succ, i64_w, i32_w]
    rfl
  refine one_ (i := 4) (N := some 15) #[true, true, true, true, true, false, false, false] rfl rfl (by kernel_rfl) (by decide) (fun K hK => ?_)
  refine goes_ Try.func116 (by kernel_rfl) rfl #[.agg #[.int .u64 H.id, .int .u64 H.key, .int .i64 H.data, .int .i64 H.fields, .int .u64 H.made]] (by rfl) rfl rfl (by (try simp only [List.map_toArray, List.map_cons, List.map_nil]); first | done | rfl) ?_
  with_reducible refine (Objects_calls H.id H.key H.data H.fields H.made _ d0 d1 f0 f1).mono ?_
  rintro e w3 ⟨rfl, hb3⟩
  refine ⟨_, rfl, ?_⟩
  refine hK.out _ _ ⟨(pw_cell_below hb3 hHeld.1), (pw_cell_below hb3 hHeld.2.1), (pw_cell_below hb3 hHeld.2.2.1), (pw_cell_below hb3 hHeld.2.2.2.1), (pw_cell_below hb3 hHeld.2.2.2.2)⟩ (fun hHeld => ?_)
  clear hK K
  refine norm_ (a' := ?_) ?_ ?_
  rotate_left
  · show Act.put _ (some 15) _ = _
    simp only [Act.put, List.setIfInBounds_toArray, List.set_cons_zero, List.set_cons_succ, i64_w, i32_w]
    rfl
  refine pure_ (i := 5) (N := some 16) (v := ?_) (a' := ?_) #[true, true, true, true, true, true, false, false] rfl rfl (by kernel_rfl) (fun _ _ _ h => h) (Or.inl ⟨by rfl, ?_⟩) ?_ ?_
  rotate_left
  · intro w'
    go_simp
    with_reducible rfl
  rotate_left
  · simp only [Act.put, List.setIfInBounds_toArray, List.set_cons_zero, List.set_cons_succ, i64_w, i32_w]
    rfl
  refine last_ (i := 6) (N := some 17) #[true, true, true, true, true, true, true, false] rfl rfl (by kernel_rfl) (by decide) (fun K hK => ?_)
  have hbw := below_step (below_step (below_drew HB.out) hb2) hb3
  obtain ⟨A4, c4, w4, hr4, ho4, hk4, _⟩ := app_zeros q (((OwnO.of_own ho2).weaken (show w.heap.size ≤ _ from (below_drew HB.out).size)).below hb3) HEL.out hbw.size q0 (by omega)
  refine app_step (by rfl) (.tmp 13) (.tmp 16) rfl rfl rfl hr4 ?_
  refine hK.out _ _ ?_
  clear hK K
  refine norm_ (a' := ?_) ?_ ?_
  rotate_left
  · show Act.put _ (some 17) _ = _
    simp only [Act.put, List.setIfInBounds_toArray, List.set_cons_zero, List.set_cons_succ, i64_w, i32_w]
    rfl
  refine pure_ (i := 7) (N := some 7) (v := ?_) (a' := ?_) #[true, true, true, true, true, true, true, true] rfl rfl (by kernel_rfl) (fun _ _ _ h => h) (Or.inl ⟨by rfl, ?_⟩) ?_ ?_
  rotate_left
  · intro w'
    go_simp
    with_reducible rfl
  rotate_left
  · simp only [Act.put, List.setIfInBounds_toArray, List.set_cons_zero, List.set_cons_succ, i64_w, i32_w]
    rfl
  refine done_ (by kernel_rfl) ?_
  have HB4 := Aside0.mk (Kp.from hbw hk4 (fun b hb => by have := Own.ge ho2 hb; have := (below_drew HB.out).size; omega))
  have hz3 := blk_below (blk_below (blk_drew HZ.out) hb2) hb3
  have HZ4 := Aside0.mk (hk4.blk hz3 (fun h => Own.ne (ho2.below hb3) hz3 (by decide) h))
  have HO4 := Aside0.mk ho4
  clear hbw hb2 hb3 ho2 ho4 hr4 hk4 hz3 r0 r1 r2 r3 r4
  have r0 : (w4).cell? ⟨w.heap.size, 0, none⟩ = some (.int .u64 H.id) := blk_cell HZ4.out 0
  have r1 : (w4).cell? ⟨w.heap.size, 1, none⟩ = some (.int .u64 H.key) := blk_cell HZ4.out 1
  have r2 : (w4).cell? ⟨w.heap.size, 2, none⟩ = some (.int .i64 H.data) := blk_cell HZ4.out 2
  have r3 : (w4).cell? ⟨w.heap.size, 3, none⟩ = some (.int .i64 H.fields) := blk_cell HZ4.out 3
  have r4 : (w4).cell? ⟨w.heap.size, 4, none⟩ = some (.int .u64 H.made) := blk_cell HZ4.out 4
  go_wp2_with fail
  go_ret
  exact ⟨_, rfl, ⟨_, Im.fresh lim _ HO4.out HB4.out⟩, below_alloc HB4.out _⟩

end Go.Proofs.Ytigdchfjcfljjaa
end
section
/- Images: Object, At. -/
namespace Go.Proofs.Ytigdchfjcfljjaa
open Go.RowKit Go.Proofs.YtigdchfjcfljjaaW.PrintWords Go.Proofs.YtigdchfjcfljjaaW.PrintLast Go.Proofs.YtigdchfjcfljjaaW.PrintMore
attribute [local go_sem] max2_int min2_int max_two min_two max_three min_three max_four min_four   -- for this text's walks alone
set_option linter.unusedVariables false
set_option linter.unusedSimpArgs false

theorem cell_lt {W : World} {ad : Addr} {i : Nat} {v : Value} (h : W.cell? (ad.add i) = some v) : ad.block < W.heap.size := by
  rw [World.cell?] at h
  cases e : W.heap[ad.block]? with
  | none =>
    have : (ad.add i).block = ad.block := by unfold Addr.add; split <;> rfl
    rw [this, e] at h
    cases h
  | some o => exact (Array.getElem?_eq_some_iff.1 e).1
/-- What reads as numbers of words or bytes is no block of an object. -/
theorem cell_type {W : World} {g T : Nat} {ad : Addr} {k : IntKind} {z : Int} {x : Int} {a1 a2 a3 : Option Addr} {n1 n2 n3 c1 c2 c3 : Nat} (hb : W.heap[g]? = some (.cells #[.int .i64 x, .slice a1 n1 c1, .slice a2 n2 c2, .slice a3 n3 c3] T (0, 0))) (h : W.cell? (ad.add 0) = some (.int k z)) (he : ad.block = g) (hk : k = .u64 ∨ k = .u8) : False := by
  subst he
  have hz : ad.add 0 = ad := by simp [Addr.add]
  rw [hz, World.cell?, hb] at h
  dsimp only at h
  split at h
  · cases h
  · rcases hk with rfl | rfl <;>
    · obtain ⟨b, o, p⟩ := ad
      dsimp only at h
      match o, h with
      | 0, h => simp at h
      | 1, h => simp at h
      | 2, h => simp at h
      | 3, h => simp at h
      | o + 4, h => simp at h
/-- Is there an object at a place of an image. -/
def obB (H : Hd) (B : List Int) (a : Int) : Bool := decide (obN H ≤ a) && dG B a
def obV (H : Hd) (B : List Int) (a : Int) (u1 u2 u3 : Value) : Value := bif obB H B a then .tuple #[.agg #[.int .i64 (getN B a 8), u1, u2, u3], .bool true] else .tuple #[.agg #[.int .i64 0, .slice none 0 0, .slice none 0 0, .slice none 0 0], .bool false]
theorem obB_low {H : Hd} {B : List Int} {a : Int} (h : a < obN H) : obB H B a = false := by rw [obB, decide_eq_false (by omega)]; rfl
theorem obB_high {H : Hd} {B : List Int} {a : Int} (h : ¬ a < obN H) : obB H B a = dG B a := by rw [obB, decide_eq_true (by omega)]; rfl
end Go.Proofs.Ytigdchfjcfljjaa
end
section
/- Images: At, Back. -/
namespace Go.Proofs.Ytigdchfjcfljjaa
open Go.RowKit Go.Proofs.YtigdchfjcfljjaaW.PrintWords Go.Proofs.YtigdchfjcfljjaaW.PrintLast Go.Proofs.YtigdchfjcfljjaaW.PrintMore
attribute [local go_sem] max2_int min2_int max_two min_two max_three min_three max_four min_four   -- for this text's walks alone
set_option linter.unusedVariables false
set_option linter.unusedSimpArgs false

def atB (H : Hd) (B : List Int) (p kd : Int) : Bool := decide (p < B.length) && (obB H B p && (getN B p 8 == kd))
def atV (H : Hd) (B : List Int) (p kd : Int) (u1 u2 u3 : Value) : Value := bif atB H B p kd then .tuple #[.agg #[.int .i64 kd, u1, u2, u3], .bool true] else .tuple #[.agg #[.int .i64 0, .slice none 0 0, .slice none 0 0, .slice none 0 0], .bool false]
theorem rd_keep4 {w2 wf : World} {g T : Nat} {x : Int} {a1 a2 a3 : Option Addr} {m1 m2 m3 e1 e2 e3 : Nat} (hb : w2.heap[g]? = some (.cells #[.int .i64 x, .slice a1 m1 e1, .slice a2 m2 e2, .slice a3 m3 e3] T (0, 0))) (hkp : Kp (fun k => k = g) w2 wf) {k : IntKind} {v : Value} {xs : List Int} (hk : k = .u64 ∨ k = .u8) (h : Rd w2 k v xs) : Rd wf k v xs := by
  refine rdE_int.1 ((rdE_int.2 h).move fun A ⟨n, c, hv, h0⟩ => hkp.block A.block ?_ ?_)
  · obtain ⟨A', c', e, hc', hm, hl', hcell⟩ := h
    rw [hv] at e
    injection e with e
    subst e
    obtain ⟨ad, e, hcc⟩ := hcell h0
    injection e with e
    subst e
    exact cell_lt (hcc 0 (by omega))
  · intro hA
    obtain ⟨A', c', e, hc', hm, hl', hcell⟩ := h
    rw [hv] at e
    injection e with e
    subst e
    obtain ⟨ad, e, hcc⟩ := hcell h0
    injection e with e
    subst e
    exact cell_type hb (hcc 0 (by omega)) hA hk
/-- Words taken back. -/
def zeroW (B : List Int) (ws : List Int) : List Int := ws.foldl (fun b a => splice b a.toNat (List.replicate 8 0)) B
theorem zeroW_snoc (B ws : List Int) (k : Nat) (h : k < ws.length) : zeroW B (ws.take (k + 1)) = splice (zeroW B (ws.take k)) (ws.getD k 0).toNat (List.replicate 8 0) := by
  rw [zeroW, List.take_add_one, List.getElem?_eq_getElem h, List.foldl_append, List.getD_eq_getElem?_getD, List.getElem?_eq_getElem h]
  rfl
theorem zeroW_len (B : List Int) : ∀ (ws : List Int), (∀ x ∈ ws, 0 ≤ x ∧ x + 8 ≤ B.length) → (zeroW B ws).length = B.length := by
  intro ws
  induction ws generalizing B with
  | nil => intro _; rfl
  | cons x ws ih =>
    intro h
    have hx := h x (by simp)
    have hs : (splice B x.toNat (List.replicate 8 0)).length = B.length := length_splice _ _ _ (by simp; omega)
    rw [zeroW, List.foldl_cons, ← zeroW, ih _ (fun y hy => by rw [hs]; exact h y (by simp [hy])), hs]
theorem OwnO.pre {α : Type} {enc : α → Value} {W : World} {base e b o n c : Nat} {xs : List α} (h : OwnO enc W base e (.slice (some ⟨b, o, none⟩) n c) xs) (k : Nat) (hk : k ≤ n) : OwnO enc W base e (.slice (some ⟨b, o, none⟩) k c) (xs.take k) := by
  rcases h with ⟨hv, _⟩ | ⟨g, o', cap, cur, hv, hb, hg, hn, hm, hs, ht⟩
  · cases hv
  · simp only [Value.slice.injEq, Option.some.injEq, Addr.mk.injEq] at hv
    obtain ⟨⟨rfl, rfl, _⟩, rfl, rfl⟩ := hv
    have hl : (xs.take k).length = k := by rw [List.length_take]; omega
    refine .inr ⟨b, o, c, cur, by rw [hl], hb, hg, by omega, hm, hs, ?_⟩
    rw [hl, encs, List.map_take, ← encs, ← ht, List.take_take, Nat.min_eq_left hk]
theorem slice_upto (b o n c q : Nat) (hq : q ≤ c) (W : World) : (Instr.slice 22 (.slice (some ⟨b, o, none⟩) n c) none (some (.int .i64 (q : Int))) none).run Try.prog W = .ok (.slice (some ⟨b, o, none⟩) q c) W := by
  have hinfo := infoU8
  obtain ⟨i, hi, hzz⟩ := Option.map_eq_some_iff.1 hinfo
  simp only [Prod.mk.injEq] at hzz
  have hel : Try.prog.elem 22 = 5 := by simp [Program.elem, Try.underlying22]
  have hu : Try.prog.underlying 22 = some (.slice (Try.prog.elem 22)) := by rw [hel]; exact Try.underlying22
  rw [run_slice_h W 22 (some ⟨b, o, none⟩) n c hu .i64 (q : Int) (Int.natCast_nonneg _) (by omega), hel]
  simp [sizeOf, typeInfo, hi, hzz.2.1, sliced, Result.andThen, Addr.add]
set_option maxHeartbeats 8000000 in
set_option maxRecDepth 100000 in
theorem Back_calls (g base : Nat) (H : Hd) (B : List Int) (lim fr : Int) (ws : List Int) (F : Nat → Prop) (vb vw : Value) (w : World) (hI : Im w g base H B lim fr ws F vb vw) (n : Nat) (hn : B.length = n) (hl : n ≤ 100000) (q : Nat) (hq : fr = (q : Int)) (hqn : q ≤ n) (hws : ∀ x ∈ ws, 192 ≤ x ∧ x + 8 ≤ (n : Int)) (hwl : ws.length ≤ 1000000) (hn0 : 0 < n) : Calls Try.prog 54 #[.pointer (some ⟨g, 0, none⟩)] w fun e w' => e = .returned (.tuple #[]) ∧ ImS w w' g base H ((zeroW B ws).take q) lim fr [] F := by
  subst hq
  obtain ⟨b, o, c, ev, hnc, hbb⟩ := hI.b.form (by omega)
  rw [hn] at ev hnc
  subst ev
  have HI := Aside0.mk hI
  obtain ⟨wl, hwn⟩ : ∃ k, ws.length = k := ⟨_, rfl⟩
  obtain ⟨A1, c1, ev, _, _⟩ := hI.w.sl hwn
  have HWF := Aside0.mk (show vw = .slice A1 wl c1 from ev)
  have HEV := Aside0.mk ev
  subst ev
  have HWS := Aside0.mk hws
  have HWN := Aside0.mk hwn
  have HN := Aside0.mk hn
  have HWR := Aside0.mk (show ∀ w1 : World, OwnO (Value.int .i64) w1 base 3 (.slice A1 wl c1) ws → RdE (Value.int .i64) (0 : Int) w1 (.slice A1 wl c1) ws from fun w1 h => h.rdE 0)
  rw [hwn] at hwl
  clear hI hn hws hwn
  have r0 : (w).cell? ⟨g, 0, none⟩ = some (.int .u64 H.id) := blk_cell HI.out.blk 0
  have r1 : (w).cell? ⟨g, 1, none⟩ = some (.int .u64 H.key) := blk_cell HI.out.blk 1
  have r2 : (w).cell? ⟨g, 2, none⟩ = some (.int .i64 H.data) := blk_cell HI.out.blk 2
  have r3 : (w).cell? ⟨g, 3, none⟩ = some (.int .i64 H.fields) := blk_cell HI.out.blk 3
  have r4 : (w).cell? ⟨g, 4, none⟩ = some (.int .u64 H.made) := blk_cell HI.out.blk 4
  have r5 : (w).cell? ⟨g, 5, none⟩ = some ((.slice (some ⟨b, o, none⟩) n c)) := blk_cell HI.out.blk 5
  have r6 : (w).cell? ⟨g, 6, none⟩ = some (.int .i64 lim) := blk_cell HI.out.blk 6
  have r7 : (w).cell? ⟨g, 7, none⟩ = some (.int .i64 (q : Int)) := blk_cell HI.out.blk 7
  have r8 : (w).cell? ⟨g, 8, none⟩ = some ((.slice A1 wl c1)) := blk_cell HI.out.blk 8

  go_enter Try.func54, Try.ntmps54

  go_upto_block 0 with (fail)
  go_cut [] (fun wx => Aside0 (Im wx g base H (zeroW B ws) lim (q : Int) ws F (.slice (some ⟨b, o, none⟩) n c) (.slice A1 wl c1)) ∧ Aside0 (Kp F w wx))
  case first =>
    go_wp2_with fail
    go_loopw [11] (fun v11 w' => ∃ k : Nat, k ≤ wl ∧ v11 = .int .i64 k ∧ Aside0 (Im w' g base H (zeroW B (ws.take k)) lim (q : Int) ws F (.slice (some ⟨b, o, none⟩) n c) (.slice A1 wl c1)) ∧ Aside0 (Kp F w w')) (fun v11 _ => wl - (intOf v11).toNat)
    case atStart => exact ⟨0, by omega, rfl, by rw [List.take_zero]; exact HI, ⟨Kp.refl _ _⟩⟩
    case round =>
      obtain ⟨k, hk, rfl, HIK, HKK⟩ := hrel
      by_cases c2 : k < wl
      · obtain ⟨ad, eA, hce⟩ := rdE_at (HWR.out _ HIK.out.w) k (by rw [HWN.out]; exact c2)
        have hx := HWS.out (ws.getD k 0) (by rw [List.getD_eq_getElem?_getD, List.getElem?_eq_getElem (by rw [HWN.out]; exact c2)]; exact List.getElem_mem _)
        have hsn := zeroW_snoc B ws k (by rw [HWN.out]; exact c2)
        cases eA
        obtain ⟨j, hj⟩ : ∃ j : Nat, ws.getD k 0 = (j : Int) := Int.eq_ofNat_of_zero_le (by omega)
        rw [hj] at hce hx hsn
        rw [Int.toNat_natCast] at hsn
        have HSN := Aside0.mk hsn
        obtain ⟨hx1, hx2⟩ := hx
        have hsl := slice_from b o n c j (by omega) (by omega)
        have hmk : ∀ W : World, (Instr.makeSlice 22 (.int .i64 8) (.int .i64 8)).run Try.prog W = .ok (.slice (some ⟨W.heap.size, 0, none⟩) 8 8) (W.alloc (.cells (nums .u8 (List.replicate 8 0)).toArray 5)) := fun _ => by kernel_rfl
        obtain ⟨zs, hzs⟩ : ∃ zs, (nums .u8 (List.replicate 8 0)).toArray = zs := ⟨_, rfl⟩
        have HRZ := Aside0.mk (fun (W : World) => Rd.lit W .u8 5 (List.replicate 8 0) (by simp))
        rw [hzs] at hmk HRZ
        clear hj hsn hzs
        have r0 : (wr).cell? ⟨g, 0, none⟩ = some (.int .u64 H.id) := blk_cell HIK.out.blk 0
        have r1 : (wr).cell? ⟨g, 1, none⟩ = some (.int .u64 H.key) := blk_cell HIK.out.blk 1
        have r2 : (wr).cell? ⟨g, 2, none⟩ = some (.int .i64 H.data) := blk_cell HIK.out.blk 2
        have r3 : (wr).cell? ⟨g, 3, none⟩ = some (.int .i64 H.fields) := blk_cell HIK.out.blk 3
        have r4 : (wr).cell? ⟨g, 4, none⟩ = some (.int .u64 H.made) := blk_cell HIK.out.blk 4
        have r5 : (wr).cell? ⟨g, 5, none⟩ = some ((.slice (some ⟨b, o, none⟩) n c)) := blk_cell HIK.out.blk 5
        have r6 : (wr).cell? ⟨g, 6, none⟩ = some (.int .i64 lim) := blk_cell HIK.out.blk 6
        have r7 : (wr).cell? ⟨g, 7, none⟩ = some (.int .i64 (q : Int)) := blk_cell HIK.out.blk 7
        have r8 : (wr).cell? ⟨g, 8, none⟩ = some ((.slice (some ad) wl c1)) := blk_cell HIK.out.blk 8

        go_upto_region 4 with fail
        refine start_ (n := 8) (S := fun w' => w'.cell? ⟨g, 5, none⟩ = some (.slice (some ⟨b, o, none⟩) n c)) (ds := [7]) #[false, false, false, false, false, false, false, false] (by kernel_rfl) rfl rfl (r5) (fun hHeld => ?_)
        refine pure_ (i := 0) (N := some 15) (v := ?_) (a' := ?_) #[true, false, false, false, false, false, false, false] rfl rfl (by kernel_rfl) (fun _ _ _ h => h) (Or.inl ⟨by rfl, ?_⟩) ?_ ?_
        rotate_left
        · intro w'
          go_simp
          with_reducible rfl
        rotate_left
        · simp only [Act.put, List.setIfInBounds_toArray, List.set_cons_zero, List.set_cons_succ, i64_w, i32_w]
          rfl
        refine pure_ (i := 1) (N := some 16) (v := ?_) (a' := ?_) #[true, true, false, false, false, false, false, false] rfl rfl (by kernel_rfl) (fun _ _ _ h => h) (Or.inl ⟨by rfl, ?_⟩) ?_ ?_
        rotate_left
        · intro w'
          go_simp
          with_reducible rfl
        rotate_left
        · simp only [Act.put, List.setIfInBounds_toArray, List.set_cons_zero, List.set_cons_succ, i64_w, i32_w]
          rfl
        refine pure_ (i := 2) (N := some 17) (v := ?_) (a' := ?_) #[true, true, true, false, false, false, false, false] rfl rfl (by kernel_rfl) (fun _ _ _ h => h) (Or.inl ⟨by rfl, ?_⟩) ?_ ?_
        rotate_left
        · intro w'
          go_simp
          with_reducible rfl
        rotate_left
        · simp only [Act.put, List.setIfInBounds_toArray, List.set_cons_zero, List.set_cons_succ, i64_w, i32_w]
          rfl
        refine pure_ (i := 4) (N := some 19) (v := ?_) (a' := ?_) #[true, true, true, false, true, false, false, false] rfl rfl (by kernel_rfl) (fun _ _ _ h => h) (Or.inl ⟨by rfl, ?_⟩) ?_ ?_
        rotate_left
        · intro w'
          go_simp
          with_reducible rfl
        rotate_left
        · simp only [Act.put, List.setIfInBounds_toArray, List.set_cons_zero, List.set_cons_succ, i64_w, i32_w]
          rfl
        refine take_ (i := 3) (N := some 18) (v := ?_) (a' := ?_) #[true, true, true, true, true, false, false, false] rfl rfl (by kernel_rfl) (fun _ _ _ h => h) (Or.inl ⟨by rfl, ?_⟩) hHeld ?_ ?_
        rotate_left
        · intro w' s0
          go_simp
          with_reducible rfl
        rotate_left
        · simp only [Act.put, List.setIfInBounds_toArray, List.set_cons_zero, List.set_cons_succ, i64_w, i32_w]
          rfl
        refine pure_ (i := 5) (N := some 20) (v := ?_) (a' := ?_) #[true, true, true, true, true, true, false, false] rfl rfl (by kernel_rfl) (fun _ _ _ h => h) (Or.inl ⟨by rfl, ?_⟩) ?_ ?_
        rotate_left
        · intro w'
          go_simp
          with_reducible rfl
        rotate_left
        · simp only [Act.put, List.setIfInBounds_toArray, List.set_cons_zero, List.set_cons_succ, i64_w, i32_w]
          rfl
        refine one_ (i := 6) (N := some 21) #[true, true, true, true, true, true, true, false] rfl rfl (by kernel_rfl) (by decide) (fun K hK => ?_)
        refine value_ (w1 := ?_) (v := ?_) (by rfl) rfl ?_ ?_
        rotate_left 2
        · go_simp
          constructor
          · rfl
          · rfl
        refine hK.out _ _ ((pw_cell_below (below_alloc (Below.refl _ _) _) hHeld)) (fun hHeld => ?_)
        clear hK K
        refine norm_ (a' := ?_) ?_ ?_
        rotate_left
        · show Act.put _ (some 21) _ = _
          simp only [Act.put, List.setIfInBounds_toArray, List.set_cons_zero, List.set_cons_succ, i64_w, i32_w]
          rfl
        refine last_ (i := 7) (N := some 22) #[true, true, true, true, true, true, true, true] rfl rfl (by kernel_rfl) (by decide) (fun K hK => ?_)
        have hbw : Below wr.heap.size wr ((wr.alloc (.cells zs 5)).drew) := below_drew (below_alloc (Below.refl _ _) _)
        have hi2 := HIK.out.below hbw
        obtain ⟨ad2, c2', e2, hc2⟩ := rd_slice ((HRZ.out wr).below (below_drew (Below.refl _ _))) List.length_replicate (by omega)
        cases e2
        refine copyO_step (by rfl) (.tmp 20) (.tmp 21) (by rfl) Try.underlying22 (by kernel_rfl) hi2.b rfl rfl (List.replicate 8 0) List.length_replicate (show 8 = Nat.min 8 (n - j) from (Nat.min_eq_left (by omega)).symm) hc2 (by omega) ?_
        intro w3 ho3 hk3
        refine hK.out _ _ ?_
        clear hK K
        refine norm_ (a' := ?_) ?_ ?_
        rotate_left
        · show Act.put _ (some 22) _ = _
          simp only [Act.put, List.setIfInBounds_toArray, List.set_cons_zero, List.set_cons_succ, i64_w, i32_w]
          rfl
        refine done_ (by kernel_rfl) ?_
        have hgb : g ≠ b := fun e => hi2.b_ne (by rw [e]; rfl)
        have hIN : Im w3 g base H (zeroW B (ws.take (k + 1))) lim (q : Int) ws F (.slice (some ⟨b, o, none⟩) n c) (.slice (some ad) wl c1) := by
          rw [HSN.out]
          refine ⟨hk3.blk hi2.blk hgb, ho3, hi2.w.kp hk3 (fun k hk e => ?_), hi2.2.2.2.1, hi2.2.2.2.2.1, hi2.2.2.2.2.2.1, fun k hk => ⟨hi2.ge hk, Nat.lt_of_lt_of_le (hi2.lt hk) hk3.size⟩⟩
          subst e
          exact hi2.w.apart hi2.b (by decide) k hk rfl
        have HIN := Aside0.mk hIN
        have HKN := Aside0.mk ((HKK.out.below hbw).trans hk3 (fun k hk => .inl (by rw [hk]; exact HI.out.2.2.2.2.1 b rfl)))
        clear hIN hgb hk3 ho3 hi2 hbw hc2 r0 r1 r2 r3 r4 r5 r6 r7 r8 hsl hmk
        go_wp2_with fail
        go_roundw
        case rel => exact ⟨k + 1, by omega, by go_num, HIN, HKN⟩
        case measure => simp [intOf] <;> omega
      · obtain rfl : k = wl := by omega
        go_wp2_with fail
        go_meet
        have h := HIK.out
        rw [List.take_of_length_le (by rw [HWN.out]; exact Nat.le_refl _)] at h
        exact ⟨⟨h⟩, HKK⟩
  case rest =>
  obtain ⟨HIK, HKK⟩ := hcut
  have hsl2 := slice_upto b o n c q (by omega)
  clear r0 r1 r2 r3 r4 r5 r6 r7 r8
  have r0 : (wc).cell? ⟨g, 0, none⟩ = some (.int .u64 H.id) := blk_cell HIK.out.blk 0
  have r1 : (wc).cell? ⟨g, 1, none⟩ = some (.int .u64 H.key) := blk_cell HIK.out.blk 1
  have r2 : (wc).cell? ⟨g, 2, none⟩ = some (.int .i64 H.data) := blk_cell HIK.out.blk 2
  have r3 : (wc).cell? ⟨g, 3, none⟩ = some (.int .i64 H.fields) := blk_cell HIK.out.blk 3
  have r4 : (wc).cell? ⟨g, 4, none⟩ = some (.int .u64 H.made) := blk_cell HIK.out.blk 4
  have r5 : (wc).cell? ⟨g, 5, none⟩ = some ((.slice (some ⟨b, o, none⟩) n c)) := blk_cell HIK.out.blk 5
  have r6 : (wc).cell? ⟨g, 6, none⟩ = some (.int .i64 lim) := blk_cell HIK.out.blk 6
  have r7 : (wc).cell? ⟨g, 7, none⟩ = some (.int .i64 (q : Int)) := blk_cell HIK.out.blk 7
  have r8 : (wc).cell? ⟨g, 8, none⟩ = some ((.slice A1 wl c1)) := blk_cell HIK.out.blk 8
  have f0 := blk_frozen HIK.out.blk 0
  have f1 := blk_frozen HIK.out.blk 1
  have f2 := blk_frozen HIK.out.blk 2
  have f3 := blk_frozen HIK.out.blk 3
  have f4 := blk_frozen HIK.out.blk 4
  have f5 := blk_frozen HIK.out.blk 5
  have f6 := blk_frozen HIK.out.blk 6
  have f7 := blk_frozen HIK.out.blk 7
  have f8 := blk_frozen HIK.out.blk 8

  go_upto_region 6 with fail
  refine start_ (n := 17) (S := fun w' => w'.cell? ⟨g, 5, none⟩ = some (.slice (some ⟨b, o, none⟩) n c) ∧ w'.cell? ⟨g, 7, none⟩ = some (.int .i64 (q : Int)) ∧ w'.cell? ⟨g, 8, none⟩ = some (.slice A1 wl c1)) (ds := [13, 16]) #[false, false, false, false, false, false, false, false, false, false, false, false, false, false, false, false, false] (by kernel_rfl) rfl rfl ⟨r5, r7, r8⟩ (fun hHeld => ?_)
  refine pure_ (i := 0) (N := some 24) (v := ?_) (a' := ?_) #[true, false, false, false, false, false, false, false, false, false, false, false, false, false, false, false, false] rfl rfl (by kernel_rfl) (fun _ _ _ h => h) (Or.inl ⟨by rfl, ?_⟩) ?_ ?_
  rotate_left
  · intro w'
    go_simp
    with_reducible rfl
  rotate_left
  · simp only [Act.put, List.setIfInBounds_toArray, List.set_cons_zero, List.set_cons_succ, i64_w, i32_w]
    rfl
  refine pure_ (i := 1) (N := some 25) (v := ?_) (a' := ?_) #[true, true, false, false, false, false, false, false, false, false, false, false, false, false, false, false, false] rfl rfl (by kernel_rfl) (fun _ _ _ h => h) (Or.inl ⟨by rfl, ?_⟩) ?_ ?_
  rotate_left
  · intro w'
    go_simp
    with_reducible rfl
  rotate_left
  · simp only [Act.put, List.setIfInBounds_toArray, List.set_cons_zero, List.set_cons_succ, i64_w, i32_w]
    rfl
  refine pure_ (i := 2) (N := some 26) (v := ?_) (a' := ?_) #[true, true, true, false, false, false, false, false, false, false, false, false, false, false, false, false, false] rfl rfl (by kernel_rfl) (fun _ _ _ h => h) (Or.inl ⟨by rfl, ?_⟩) ?_ ?_
  rotate_left
  · intro w'
    go_simp
    with_reducible rfl
  rotate_left
  · simp only [Act.put, List.setIfInBounds_toArray, List.set_cons_zero, List.set_cons_succ, i64_w, i32_w]
    rfl
  refine pure_ (i := 3) (N := some 27) (v := ?_) (a' := ?_) #[true, true, true, true, false, false, false, false, false, false, false, false, false, false, false, false, false] rfl rfl (by kernel_rfl) (fun _ _ _ h => h) (Or.inl ⟨by rfl, ?_⟩) ?_ ?_
  rotate_left
  · intro w'
    go_simp
    with_reducible rfl
  rotate_left
  · simp only [Act.put, List.setIfInBounds_toArray, List.set_cons_zero, List.set_cons_succ, i64_w, i32_w]
    rfl
  refine pure_ (i := 4) (N := some 28) (v := ?_) (a' := ?_) #[true, true, true, true, true, false, false, false, false, false, false, false, false, false, false, false, false] rfl rfl (by kernel_rfl) (fun _ _ _ h => h) (Or.inl ⟨by rfl, ?_⟩) ?_ ?_
  rotate_left
  · intro w'
    go_simp
    with_reducible rfl
  rotate_left
  · simp only [Act.put, List.setIfInBounds_toArray, List.set_cons_zero, List.set_cons_succ, i64_w, i32_w]
    rfl
  refine pure_ (i := 6) (N := some 30) (v := ?_) (a' := ?_) #[true, true, true, true, true, false, true, false, false, false, false, false, false, false, false, false, false] rfl rfl (by kernel_rfl) (fun _ _ _ h => h) (Or.inl ⟨by rfl, ?_⟩) ?_ ?_
  rotate_left
  · intro w'
    go_simp
    with_reducible rfl
  rotate_left
  · simp only [Act.put, List.setIfInBounds_toArray, List.set_cons_zero, List.set_cons_succ, i64_w, i32_w]
    rfl
  refine pure_ (i := 7) (N := some 31) (v := ?_) (a' := ?_) #[true, true, true, true, true, false, true, true, false, false, false, false, false, false, false, false, false] rfl rfl (by kernel_rfl) (fun _ _ _ h => h) (Or.inl ⟨by rfl, ?_⟩) ?_ ?_
  rotate_left
  · intro w'
    go_simp
    with_reducible rfl
  rotate_left
  · simp only [Act.put, List.setIfInBounds_toArray, List.set_cons_zero, List.set_cons_succ, i64_w, i32_w]
    rfl
  refine pure_ (i := 8) (N := some 32) (v := ?_) (a' := ?_) #[true, true, true, true, true, false, true, true, true, false, false, false, false, false, false, false, false] rfl rfl (by kernel_rfl) (fun _ _ _ h => h) (Or.inl ⟨by rfl, ?_⟩) ?_ ?_
  rotate_left
  · intro w'
    go_simp
    with_reducible rfl
  rotate_left
  · simp only [Act.put, List.setIfInBounds_toArray, List.set_cons_zero, List.set_cons_succ, i64_w, i32_w]
    rfl
  refine take_ (i := 5) (N := some 29) (v := ?_) (a' := ?_) #[true, true, true, true, true, true, true, true, true, false, false, false, false, false, false, false, false] rfl rfl (by kernel_rfl) (fun _ _ _ h => h) (Or.inl ⟨by rfl, ?_⟩) hHeld ?_ ?_
  rotate_left
  · rintro w' ⟨s0, s1, s2⟩
    go_simp
    with_reducible rfl
  rotate_left
  · simp only [Act.put, List.setIfInBounds_toArray, List.set_cons_zero, List.set_cons_succ, i64_w, i32_w]
    rfl
  refine take_ (i := 9) (N := some 33) (v := ?_) (a' := ?_) #[true, true, true, true, true, true, true, true, true, true, false, false, false, false, false, false, false] rfl rfl (by kernel_rfl) (fun _ _ _ h => h) (Or.inl ⟨by rfl, ?_⟩) hHeld ?_ ?_
  rotate_left
  · rintro w' ⟨s0, s1, s2⟩
    go_simp
    with_reducible rfl
  rotate_left
  · simp only [Act.put, List.setIfInBounds_toArray, List.set_cons_zero, List.set_cons_succ, i64_w, i32_w]
    rfl
  refine pure_ (i := 10) (N := some 34) (v := ?_) (a' := ?_) #[true, true, true, true, true, true, true, true, true, true, true, false, false, false, false, false, false] rfl rfl (by kernel_rfl) (fun _ _ _ h => h) (Or.inl ⟨by rfl, ?_⟩) ?_ ?_
  rotate_left
  · intro w'
    go_simp
    with_reducible rfl
  rotate_left
  · simp only [Act.put, List.setIfInBounds_toArray, List.set_cons_zero, List.set_cons_succ, i64_w, i32_w]
    rfl
  refine pure_ (i := 11) (N := some 35) (v := ?_) (a' := ?_) #[true, true, true, true, true, true, true, true, true, true, true, true, false, false, false, false, false] rfl rfl (by kernel_rfl) (fun _ _ _ h => h) (Or.inl ⟨by rfl, ?_⟩) ?_ ?_
  rotate_left
  · intro w'
    go_simp
    with_reducible rfl
  rotate_left
  · simp only [Act.put, List.setIfInBounds_toArray, List.set_cons_zero, List.set_cons_succ, i64_w, i32_w]
    rfl
  refine pure_ (i := 12) (N := some 36) (v := ?_) (a' := ?_) #[true, true, true, true, true, true, true, true, true, true, true, true, true, false, false, false, false] rfl rfl (by kernel_rfl) (fun _ _ _ h => h) (Or.inl ⟨by rfl, ?_⟩) ?_ ?_
  rotate_left
  · intro w'
    go_simp
    with_reducible rfl
  rotate_left
  · simp only [Act.put, List.setIfInBounds_toArray, List.set_cons_zero, List.set_cons_succ, i64_w, i32_w]
    rfl
  refine last_ (i := 13) (N := none) #[true, true, true, true, true, true, true, true, true, true, true, true, true, true, false, false, false] rfl rfl (by kernel_rfl) (by decide) (fun K hK => ?_)
  refine skip_ (w1 := ?_) (by rfl) rfl ?_ ?_
  rotate_left
  · go_simp
    rfl
  refine hK.out _ _ ?_
  clear hK K
  refine pure_ (i := 14) (N := some 37) (v := ?_) (a' := ?_) #[true, true, true, true, true, true, true, true, true, true, true, true, true, true, true, false, false] rfl rfl (by kernel_rfl) (fun _ _ _ h => h) (Or.inl ⟨by rfl, ?_⟩) ?_ ?_
  rotate_left
  · intro w'
    go_simp
    with_reducible rfl
  rotate_left
  · simp only [Act.put, List.setIfInBounds_toArray, List.set_cons_zero, List.set_cons_succ, i64_w, i32_w]
    rfl
  refine pure_ (i := 15) (N := some 38) (v := ?_) (a' := ?_) #[true, true, true, true, true, true, true, true, true, true, true, true, true, true, true, true, false] rfl rfl (by kernel_rfl) (fun _ _ _ h => h) (Or.inl ⟨by rfl, ?_⟩) ?_ ?_
  rotate_left
  · intro w'
    go_simp
    with_reducible rfl
  rotate_left
  · simp only [Act.put, List.setIfInBounds_toArray, List.set_cons_zero, List.set_cons_succ, i64_w, i32_w]
    rfl
  refine last_ (i := 16) (N := none) #[true, true, true, true, true, true, true, true, true, true, true, true, true, true, true, true, true] rfl rfl (by kernel_rfl) (by decide) (fun K hK => ?_)
  refine skip_ (w1 := ?_) (by rfl) rfl ?_ ?_
  rotate_left
  · go_simp
    rfl
  refine hK.out _ _ ?_
  clear hK K
  refine done_ (by kernel_rfl) ?_
  go_wp2_with fail
  go_end0
  have hk : Kp F w (((wc.setCell ⟨g, 5, none⟩ (.slice (some ⟨b, o, none⟩) q c)).setCell ⟨g, 8, none⟩ (.slice none 0 0)).drew) := Kp.drew ((HKK.out.trans (Kp.set wc ⟨g, 5, none⟩ _) (fun k hk => .inl (by rw [hk]; exact HI.out.2.2.2.1))).trans (Kp.set _ ⟨g, 8, none⟩ _) (fun k hk => .inl (by rw [hk]; exact HI.out.2.2.2.1)))
  refine ⟨rfl, ImS.of (vb' := .slice (some ⟨b, o, none⟩) q c) (vw' := .slice none 0 0) HI.out hk ?_ ?_ (OwnO.nil _ _ _ _) (fun k hk => .inl (HI.out.2.2.2.2.1 k hk)) (fun k hk => by cases hk)⟩
  · refine blk_drew ?_
    simpa [imA] using blk_set (blk_set HIK.out.blk 5 (.slice (some ⟨b, o, none⟩) q c)) 8 (.slice none 0 0)
  · refine (HIK.out.b.pre q hqn).move (fun k hk => ?_)
    exact (Below.heap_setCell _ ⟨g, 8, none⟩ _ k (fun e => HIK.out.b_ne (by rw [show (Value.slice (some (⟨b, o, none⟩ : Addr)) n c).ownBlock = some b from rfl]; rw [show (Value.slice (some (⟨b, o, none⟩ : Addr)) q c).ownBlock = some b from rfl] at hk; rw [hk, e]))).trans (Below.heap_setCell _ ⟨g, 5, none⟩ _ k (fun e => HIK.out.b_ne (by rw [show (Value.slice (some (⟨b, o, none⟩ : Addr)) n c).ownBlock = some b from rfl]; rw [show (Value.slice (some (⟨b, o, none⟩ : Addr)) q c).ownBlock = some b from rfl] at hk; rw [hk, e])))
end Go.Proofs.Ytigdchfjcfljjaa
end
section
/- What was encoded, read again: plain facts. -/
namespace Go.Proofs.Ytigdchfjcfljjaa
open Go.RowKit
set_option linter.unusedVariables false

theorem getN_front (x y : List Int) (a : Nat) (h : a + 8 ≤ x.length) : getN (x ++ y) a 8 = getN x a 8 := by
  have h1 : fitsB (x ++ y).length a 8 = true := fits_ok ⟨by omega, by omega, by rw [List.length_append]; omega, by rw [List.length_append]; omega⟩
  have h2 : fitsB x.length a 8 = true := fits_ok ⟨by omega, by omega, by omega, by omega⟩
  rw [getN, getN, if_pos h1, if_pos h2, List.drop_append, show (8 : Int).toNat = 8 from rfl, List.take_append_of_le_length (by rw [List.length_drop]; omega)]
theorem getN_enc (pre ws r : List Int) (hw : isW ws) (i : Nat) (hi : i < ws.length) (a x : Int) (ha : a = (pre.length : Int) + 8 * (i : Int)) (hx : ws.getD i 0 = x) : getN (encZ pre ws ++ r) a 8 = x := by
  have ha2 : a = ((pre.length + 8 * i : Nat) : Int) := by omega
  have h3 := getN_words pre ws hw i hi
  rw [← ha, hx] at h3
  rw [ha2] at h3 ⊢
  rw [getN_front _ _ _ (by rw [encZ, List.length_append, encC_len]; omega), encZ, getN_front _ _ _ (by rw [encC_len]; omega), encC, getN_front _ _ _ (by rw [encB_len]; omega)]
  exact h3
theorem getN_drop (l : List Int) (a k : Nat) : getN (l.drop a) k 8 = getN l ((a : Int) + (k : Int)) 8 := by
  by_cases h : a + k + 8 ≤ l.length
  · have h1 : fitsB (l.drop a).length k 8 = true := fits_ok ⟨by omega, by omega, by rw [List.length_drop]; omega, by rw [List.length_drop]; omega⟩
    have h2 : fitsB l.length ((a : Int) + (k : Int)) 8 = true := fits_ok ⟨by omega, by omega, by omega, by omega⟩
    rw [getN, getN, if_pos h1, if_pos h2, List.drop_drop, show ((a : Int) + (k : Int)).toNat = a + k by omega, Int.toNat_natCast]
  · have h1 : fitsB (l.drop a).length k 8 = false := fits_no (fun hh => by rw [List.length_drop] at hh; omega)
    have h2 : fitsB l.length ((a : Int) + (k : Int)) 8 = false := fits_no (fun hh => by omega)
    rw [getN, getN, h1, h2]
    rfl
end Go.Proofs.Ytigdchfjcfljjaa
end
section
/- ImageLoads: the example, the headers, the law. -/
namespace Go.Proofs.Ytigdchfjcfljjaa
open Go.RowKit Go.Proofs.YtigdchfjcfljjaaW.PrintWords Go.Proofs.YtigdchfjcfljjaaW.PrintLast Go.Proofs.YtigdchfjcfljjaaW.PrintMore
attribute [local go_sem] max2_int min2_int max_two min_two max_three min_three max_four min_four   -- for this text's walks alone
set_option linter.unusedVariables false
set_option linter.unusedSimpArgs false

theorem list_lt2 {α : Type} {l : List α} {n : Nat} (h : l.length = n) : l.take n = l := List.take_of_length_le (by omega)
theorem objZ_len8 (k : Int) (ws raw it : List Int) (N : Nat) (h : 16 + 8 * ws.length + raw.length + 8 * it.length = N) (h8 : N % 8 = 0) : (objZ k ws raw it).length = N := by
  rw [objZ, List.length_append, List.length_replicate, objB_len, h]
  have : padN (N : Int) 8 = 0 := by unfold padN; rw [if_pos (by omega)]; omega
  rw [this]; rfl
set_option maxHeartbeats 8000000 in
set_option maxRecDepth 100000 in
theorem img_awake_calls (w : World) : Calls Try.prog 35 #[] w fun e w' => e = .returned (.bool true) ∧ Below w.heap.size w w' := by
  go_enter Try.func35, Try.ntmps35
  go_wp2_with fail
  refine (crc_Make_calls _).mono ?_
  rintro e w1 ⟨rfl, hT, hb⟩
  have CN := New_yes ⟨0, 0, 4, 2, 0⟩ w.heap.size 1000 w1 hT (by decide) (by decide) (by decide) (by decide) (by decide) (by decide) (by decide) (by decide)
  dsimp only at CN
  have HC := Aside0.mk CN
  have HB := Aside0.mk hb
  clear hT hb CN
  go_wp2_with fail
  refine (HC.out).mono ?_
  rintro e w2 ⟨g, rfl, ⟨vb, hI⟩, hb⟩
  have HI := Aside0.mk hI
  have HB1 := HB
  replace HB := Aside0.mk (below_step HB.out hb)
  clear hI hb HC
  obtain ⟨BB, hBB⟩ : ∃ BB, (encZ magicL [0, 0, 4, 2, 0] ++ List.replicate (obN { id := 0, key := 0, data := 4, fields := 2, made := 0 } - 64).toNat 0) = BB := ⟨_, rfl⟩
  have hBL : BB.length = 304 := by rw [← hBB, List.length_append, List.length_replicate, encZ, List.length_append, encC_len, List.length_replicate]; rfl
  rw [hBB, show obN { id := 0, key := 0, data := 4, fields := 2, made := 0 } = 304 from rfl] at HI
  clear hBB
  have R1 := Aside0.mk (show Rd ((w2.alloc (.cells #[.int .u64 0] 32)).alloc (.cells #[.int .u64 5, .int .u64 6] 32)) .u64 (.slice (some ⟨w2.heap.size, 0, none⟩) 1 1) [0] from (Rd.lit w2 .u64 32 [0] (by decide)).below (below_alloc (Below.refl _ _) _))
  have R3 := Aside0.mk (show Rd ((w2.alloc (.cells #[.int .u64 0] 32)).alloc (.cells #[.int .u64 5, .int .u64 6] 32)) .u64 (.slice (some ⟨w2.heap.size + 1, 0, none⟩) 2 2) [5, 6] by have := Rd.lit (w2.alloc (.cells #[.int .u64 0] 32)) .u64 32 [5, 6] (by decide); simpa [nums] using this)
  have HB2 := Aside0.mk (below_alloc (below_alloc (Below.refl w2.heap.size w2) (.cells #[.int .u64 0] 32)) (.cells #[.int .u64 5, .int .u64 6] 32))
  have HN := Aside0.mk hBL
  clear hBL
  go_wp2_with fail
  refine (Put_yes g w1.heap.size ⟨0, 0, 4, 2, 0⟩ BB 1000 304 [] _ vb (.slice none 0 0) _ (HI.out.below HB2.out) 4 [0] [] [5, 6] (some ⟨w2.heap.size, 0, none⟩) none (some ⟨w2.heap.size + 1, 0, none⟩) 1 0 2 R1.out (Rd.nil _ _) R3.out (by intro x hx; simp at hx; omega) oB_nil (by intro x hx; simp at hx; omega) (by decide) 304 40 HN.out (objZ_len8 4 [0] [] [5, 6] 40 rfl rfl) (by decide) (by decide) (by decide)).mono ?_
  rintro e w3 ⟨rfl, ⟨vb3, vw3, hI3⟩, hk3⟩
  have HI3 := Aside0.mk hI3
  have HB3 := Aside0.mk (Kp.from (below_step HB.out HB2.out) hk3 (fun k hk => Nat.le_trans (by have := HB1.out.size; omega) hk.1))
  clear hI3 hk3
  go_wp2_with fail
  refine (Tail_calls g w1.heap.size _ _ _ _ _ _ vb3 vw3 _ HI3.out 344 (by rw [List.length_append, HN.out, objZ_len8 4 [0] [] [5, 6] 40 rfl rfl])).mono ?_
  rintro e w4 ⟨rfl, rfl⟩
  go_wp2_with fail
  go_ret
  exact ⟨rfl, HB3.out⟩
set_option maxHeartbeats 8000000 in
set_option maxRecDepth 100000 in
theorem heads_calls (a b d q : Int) (w : World) (a0 : 0 ≤ a) (a1 : a ≤ 255) (b0 : 0 ≤ b) (b1 : b ≤ 255) (hd : 1 + a % 8 = d) (hq : 1 + b % 8 = q) : Calls Try.prog 36 #[.int .u8 a, .int .u8 b] w fun e w' => e = .returned (.tuple #[.agg #[.int .u64 5, .int .u64 6, .int .i64 d, .int .i64 q, .int .u64 0], .agg #[.int .u64 5, .int .u64 6, .int .i64 d, .int .i64 q, .int .u64 0]]) ∧ Below w.heap.size w w' := by
  obtain ⟨x, hx⟩ : ∃ x, a % 8 = x := ⟨_, rfl⟩
  obtain ⟨y, hy⟩ : ∃ x, b % 8 = x := ⟨_, rfl⟩
  have x0 : 0 ≤ x := by omega
  have x1 : x ≤ 7 := by omega
  have y0 : 0 ≤ y := by omega
  have y1 : y ≤ 7 := by omega
  have t1 : a.tmod 8 = x := by rw [Int.tmod_eq_emod_of_nonneg a0, hx]
  have t2 : b.tmod 8 = y := by rw [Int.tmod_eq_emod_of_nonneg b0, hy]
  have c1 : IntKind.i64.wrap x = x := by rw [IntKind.wrap_i64]; omega
  have c2 : IntKind.i64.wrap y = y := by rw [IntKind.wrap_i64]; omega
  have s1 : IntKind.i64.wrap (1 + x) = d := by rw [IntKind.wrap_i64]; omega
  have s2 : IntKind.i64.wrap (1 + y) = q := by rw [IntKind.wrap_i64]; omega
  have s3 : wrap64 (1 + x) = d := by simp only [wrap64]; omega
  have s4 : wrap64 (1 + y) = q := by simp only [wrap64]; omega
  have s5 : 1 + x = d := by omega
  have s6 : 1 + y = q := by omega
  clear hd hq
  have HY := Aside0.mk (show ((w.alloc (.cells #[.int .u64 0, .int .u64 0, .int .i64 0, .int .i64 0, .int .u64 0] 59)).alloc (.cells #[.int .u64 0, .int .u64 0, .int .i64 0, .int .i64 0, .int .u64 0] 60)).heap[w.heap.size + 1]? = some (.cells #[.int .u64 0, .int .u64 0, .int .i64 0, .int .i64 0, .int .u64 0] 60 (0, 0)) by have := blk_new (w.alloc (.cells #[.int .u64 0, .int .u64 0, .int .i64 0, .int .i64 0, .int .u64 0] 59)) (.cells #[.int .u64 0, .int .u64 0, .int .i64 0, .int .i64 0, .int .u64 0] 60); simpa using this)
  have HX := Aside0.mk (blk_alloc (blk_new w (.cells #[.int .u64 0, .int .u64 0, .int .i64 0, .int .i64 0, .int .u64 0] 59)) (.cells #[.int .u64 0, .int .u64 0, .int .i64 0, .int .i64 0, .int .u64 0] 60))
  go_enter Try.func36, Try.ntmps36

  go_upto_region 1 with fail
  obtain ⟨w0, hw0⟩ : ∃ w0, (w.alloc (.cells #[.int .u64 0, .int .u64 0, .int .i64 0, .int .i64 0, .int .u64 0] 59)).alloc (.cells #[.int .u64 0, .int .u64 0, .int .i64 0, .int .i64 0, .int .u64 0] 60) = w0 := ⟨_, rfl⟩
  have HB := Aside0.mk (show Below w.heap.size w w0 by rw [← hw0]; exact below_alloc (below_alloc (Below.refl _ _) _) _)
  rw [hw0] at HX HY ⊢
  clear hw0
  have z0 := blk_cell HX.out 0
  have f0 := blk_frozen HX.out 0
  have y0 := blk_cell HY.out 0
  have h0 := blk_frozen HY.out 0
  have z1 := blk_cell HX.out 1
  have f1 := blk_frozen HX.out 1
  have y1 := blk_cell HY.out 1
  have h1 := blk_frozen HY.out 1
  have z2 := blk_cell HX.out 2
  have f2 := blk_frozen HX.out 2
  have y2 := blk_cell HY.out 2
  have h2 := blk_frozen HY.out 2
  have z3 := blk_cell HX.out 3
  have f3 := blk_frozen HX.out 3
  have y3 := blk_cell HY.out 3
  have h3 := blk_frozen HY.out 3
  have z4 := blk_cell HX.out 4
  have f4 := blk_frozen HX.out 4
  have y4 := blk_cell HY.out 4
  have h4 := blk_frozen HY.out 4

  go_wp2_with fail
  refine bodyPost_ret (v := .tuple #[.agg #[.int .u64 5, .int .u64 6, .int .i64 d, .int .i64 q, .int .u64 0], .agg #[.int .u64 5, .int .u64 6, .int .i64 d, .int .i64 q, .int .u64 0]]) (by simp [results, Try.results36, go_sem, z0, z1, z2, z3, z4, y0, y1, y2, y3, y4]) rfl ⟨rfl, ?_⟩
  exact below_iset5 (below_iset5 HB.out _ (Nat.le_refl _) _ _ _ _ _) _ (Nat.le_succ _) _ _ _ _ _
theorem wrapN {k : Nat} (h : k ≤ 1000000) : IntKind.i64.wrap (k : Int) = (k : Int) := by rw [IntKind.wrap_i64]; omega
theorem wrapN64 {k : Nat} (h : k ≤ 1000000) : wrap64 (k : Int) = (k : Int) := by simp only [wrap64]; omega
theorem getN_splice (B : List Int) (j : Nat) (x : Int) (h : j + 8 ≤ B.length) (x0 : 0 ≤ x) (x1 : x < 18446744073709551616) : getN (splice B j (leB x 8)) j 8 = x := by
  have hl : (splice B j (leB x 8)).length = B.length := length_splice _ _ _ (by rw [leB_len]; exact h)
  have hf : fitsB (splice B j (leB x 8)).length j 8 = true := fits_ok ⟨by omega, by omega, by omega, by omega⟩
  rw [getN, if_pos hf, Int.toNat_natCast, splice]
  have l1 : (B.take j).length = j := by rw [List.length_take]; omega
  rw [List.drop_left' l1, show (8 : Int).toNat = 8 from rfl, List.take_left' (leB_len x 8)]
  exact leN_leB 8 x x0 |>.trans (Int.emod_eq_of_lt x0 (by omega))
theorem getN_mid (E mr : List Int) (z K : Nat) (hE : E.length = 64) (hz : 136 ≤ z) (hK : 200 ≤ K) : getN ((E ++ (List.replicate z 0 ++ mr)).take K) 192 8 = 0 := by
  have hf : fitsB ((E ++ (List.replicate z (0 : Int) ++ mr)).take K).length 192 8 = true := fits_ok ⟨by omega, by omega, by rw [List.length_take, List.length_append, List.length_append, List.length_replicate]; omega, by rw [List.length_take, List.length_append, List.length_append, List.length_replicate]; omega⟩
  rw [getN, if_pos hf, show (192 : Int).toNat = 192 from rfl, show (8 : Int).toNat = 8 from rfl, List.drop_take, List.take_take, Nat.min_eq_left (by omega), show 192 = 64 + 128 from rfl, ← List.drop_drop, List.drop_left' hE, List.drop_append_of_le_length (by simp; omega), List.drop_replicate, List.take_append_of_le_length (by simp; omega), List.take_replicate, Nat.min_eq_left (by omega)]
  decide

end Go.Proofs.Ytigdchfjcfljjaa
end
