import Derived.Test.YtigdchfjcfljjaaMgImagePlays4
import Derived.Test.YtigdchfjcfljjaaMgImagePlays2
import Derived.Test.YtigdchfjcfljjaaMgImagePlays1
set_option linter.unusedVariables false
set_option linter.unusedSimpArgs false
section
/- Images: Copy, Load, New, Object, At. -/
namespace Go.Proofs.Ytigdchfjcfljjaa
open Go.RowKit Go.Proofs.YtigdchfjcfljjaaW.PrintWords Go.Proofs.YtigdchfjcfljjaaW.PrintLast Go.Proofs.YtigdchfjcfljjaaW.PrintMore
attribute [local go_sem] max2_int min2_int max_two min_two max_three min_three max_four min_four
/-- How many bytes stand ahead of all objects. -/
def obN (H : Hd) : Int := 256 + 8 * H.data + 8 * H.fields
theorem Im.fresh {w w1 : World} {H : Hd} {B : List Int} {vb : Value} (lim fr : Int) (ho : OwnO (Value.int .u8) w1 w.heap.size 5 vb B) (hb : Below w.heap.size w w1) :
    Im (w1.alloc (.cells (imA H vb lim fr (.slice none 0 0)) 177)) w1.heap.size w.heap.size H B lim fr [] (fun k => w.heap.size ≤ k ∧ k < (w1.alloc (.cells (imA H vb lim fr (.slice none 0 0)) 177)).heap.size) vb (.slice none 0 0) := by
  refine ⟨blk_new _ _, ho.below (below_alloc (Below.refl _ _) _), OwnO.nil _ _ _ _, ⟨hb.size, by simp⟩, fun k hk => ⟨ho.ge hk, ?_⟩, (fun k hk => by cases hk), fun k hk => hk⟩
  have := ho.lt hk
  simp; omega
theorem hR_of {d f : Int} (h : hR d f = true) : 1 ≤ d ∧ d ≤ 256 ∧ 1 ≤ f ∧ f ≤ 256 := by simpa [hR, and_assoc] using h
set_option maxHeartbeats 8000000 in
set_option maxRecDepth 100000 in
theorem New_yes (H : Hd) (T : Nat) (lim : Int) (w : World) (hT : CrcT w T) (hr : hR H.data H.fields = true) (i0 : 0 ≤ H.id) (i1 : H.id ≤ 18446744073709551615) (k0 : 0 ≤ H.key) (k1 : H.key ≤ 18446744073709551615) (m0 : 0 ≤ H.made) (m1 : H.made ≤ 18446744073709551615) (hlim : lim ≤ 1048576) : Calls Try.prog 47 #[.pointer (some ⟨T, 0, none⟩), .agg #[.int .u64 H.id, .int .u64 H.key, .int .i64 H.data, .int .i64 H.fields, .int .u64 H.made], .int .i64 lim] w fun e w' => ∃ g, e = .returned (.pointer (some ⟨g, 0, none⟩)) ∧ (∃ vb, Im w' g w.heap.size H (encZ magicL [H.id, H.key, H.data, H.fields, H.made] ++ List.replicate (obN H - 64).toNat 0) lim (obN H) [] (fun k => w.heap.size ≤ k ∧ k < w'.heap.size) vb (.slice none 0 0)) ∧ Below w.heap.size w w' := by
  obtain ⟨d0, d1, f0, f1⟩ := hR_of hr
  have HR := Aside0.mk hr
  have HT := Aside0.mk hT
  obtain ⟨q, hq⟩ : ∃ q : Nat, obN H = 64 + (q : Int) := ⟨(obN H - 64).toNat, by rw [obN]; omega⟩
  rw [show (obN H - 64).toNat = q by omega, hq]
  have hsub : IntKind.i64.wrap (256 + 8 * H.data + 8 * H.fields - 64) = (q : Int) := by rw [obN] at hq; rw [IntKind.wrap_i64]; omega
  have q0 : 0 < q := by rw [obN] at hq; omega
  have q1 : q ≤ 5000 := by rw [obN] at hq; omega
  have HEL := Aside0.mk (show (encZ magicL [H.id, H.key, H.data, H.fields, H.made]).length = 64 by rw [encZ, List.length_append, encC_len, List.length_replicate]; rfl)
  clear hr hT hq
  go_enter Try.func47, Try.ntmps47
  go_wp2_with fail
  refine (head_Right_calls H.id H.key H.data H.fields H.made _).mono ?_
  rintro e w1 ⟨rfl, hb⟩
  have HZ := Aside0.mk (blk_below (blk_new w (.cells #[.int .u64 H.id, .int .u64 H.key, .int .i64 H.data, .int .i64 H.fields, .int .u64 H.made] 59)) hb)
  have HB := Aside0.mk (below_step (below_alloc (Below.refl w.heap.size w) (.cells #[.int .u64 H.id, .int .u64 H.key, .int .i64 H.data, .int .i64 H.fields, .int .u64 H.made] 59)) hb)
  rw [HR.out]
  clear hb
  have r0 : (w1).cell? ⟨w.heap.size, 0, none⟩ = some (.int .u64 H.id) := blk_cell HZ.out 0
  have r1 : (w1).cell? ⟨w.heap.size, 1, none⟩ = some (.int .u64 H.key) := blk_cell HZ.out 1
  have r2 : (w1).cell? ⟨w.heap.size, 2, none⟩ = some (.int .i64 H.data) := blk_cell HZ.out 2
  have r3 : (w1).cell? ⟨w.heap.size, 3, none⟩ = some (.int .i64 H.fields) := blk_cell HZ.out 3
  have r4 : (w1).cell? ⟨w.heap.size, 4, none⟩ = some (.int .u64 H.made) := blk_cell HZ.out 4
  go_upto_region 3 with fail
  refine start_ (n := 8) (S := fun w' => w'.cell? ⟨w.heap.size, 0, none⟩ = some (.int .u64 H.id) ∧ w'.cell? ⟨w.heap.size, 1, none⟩ = some (.int .u64 H.key) ∧ w'.cell? ⟨w.heap.size, 2, none⟩ = some (.int .i64 H.data) ∧ w'.cell? ⟨w.heap.size, 3, none⟩ = some (.int .i64 H.fields) ∧ w'.cell? ⟨w.heap.size, 4, none⟩ = some (.int .u64 H.made)) (ds := [6]) #[false,false,false,false,false,false,false,false] (by kernel_rfl) rfl rfl ⟨r0, r1, r2, r3, r4⟩ (fun hHeld => ?_)
  refine pure_ (i := 1) (N := some 12) (v := ?_) (a' := ?_) #[false,true,false,false,false,false,false,false] rfl rfl (by kernel_rfl) (fun _ _ _ h => h) (Or.inl ⟨by rfl, ?_⟩) ?_ ?_
  rotate_left
  · intro w'
    go_simp
    with_reducible rfl
  rotate_left
  · simp only [Act.put, List.setIfInBounds_toArray, List.set_cons_zero, List.set_cons_succ, i64_w, i32_w]
    rfl
  refine take_ (i := 0) (N := some 11) (v := ?_) (a' := ?_) #[true,true,false,false,false,false,false,false] rfl rfl (by kernel_rfl) (fun _ _ _ h => h) (Or.inl ⟨by rfl, ?_⟩) hHeld ?_ ?_
  rotate_left
  · rintro w' ⟨s0, s1, s2, s3, s4⟩
    go_simp
    with_reducible rfl
  rotate_left
  · simp only [Act.put, List.setIfInBounds_toArray, List.set_cons_zero, List.set_cons_succ, i64_w, i32_w]
    rfl
  refine take_ (i := 3) (N := some 14) (v := ?_) (a' := ?_) #[true,true,false,true,false,false,false,false] rfl rfl (by kernel_rfl) (fun _ _ _ h => h) (Or.inl ⟨by rfl, ?_⟩) hHeld ?_ ?_
  rotate_left
  · rintro w' ⟨s0, s1, s2, s3, s4⟩
    go_simp
    with_reducible rfl
  rotate_left
  · simp only [Act.put, List.setIfInBounds_toArray, List.set_cons_zero, List.set_cons_succ, i64_w, i32_w]
    rfl
  refine one_ (i := 2) (N := some 13) #[true,true,true,true,false,false,false,false] rfl rfl (by kernel_rfl) (by decide) (fun K hK => ?_)
  refine goes_ Try.func119 (by kernel_rfl) rfl #[.agg #[.int .u64 H.id, .int .u64 H.key, .int .i64 H.data, .int .i64 H.fields, .int .u64 H.made], .pointer (some ⟨T, 0, none⟩)] (by rfl) rfl rfl (by (try simp only [List.map_toArray, List.map_cons, List.map_nil]); first | done | rfl) ?_
  with_reducible refine (head_Encode_yes H.id H.key H.data H.fields H.made _ T (HT.out.below (below_drew HB.out)) HR.out i0 i1 k0 k1 (by omega) d1 (by omega) f1 m0 m1).mono ?_
  rintro e w2 ⟨v2, rfl, ho2, hb2⟩
  refine ⟨_, rfl, ?_⟩
  refine hK.out _ _ ⟨(pw_cell_below hb2 hHeld.1), (pw_cell_below hb2 hHeld.2.1), (pw_cell_below hb2 hHeld.2.2.1), (pw_cell_below hb2 hHeld.2.2.2.1), (pw_cell_below hb2 hHeld.2.2.2.2)⟩ (fun hHeld => ?_)
  clear hK K
  refine norm_ (a' := ?_) ?_ ?_
  rotate_left
  · show Act.put _ (some 13) _ = _
    simp only [Act.put, List.setIfInBounds_toArray, List.set_cons_zero, List.set_cons_succ, i64_w, i32_w]
    rfl
  refine one_ (i := 4) (N := some 15) #[true,true,true,true,true,false,false,false] rfl rfl (by kernel_rfl) (by decide) (fun K hK => ?_)
  refine goes_ Try.func116 (by kernel_rfl) rfl #[.agg #[.int .u64 H.id, .int .u64 H.key, .int .i64 H.data, .int .i64 H.fields, .int .u64 H.made]] (by rfl) rfl rfl (by (try simp only [List.map_toArray, List.map_cons, List.map_nil]); first | done | rfl) ?_
  with_reducible refine (Objects_calls H.id H.key H.data H.fields H.made _ d0 d1 f0 f1).mono ?_
  rintro e w3 ⟨rfl, hb3⟩
  refine ⟨_, rfl, ?_⟩
  refine hK.out _ _ ⟨(pw_cell_below hb3 hHeld.1), (pw_cell_below hb3 hHeld.2.1), (pw_cell_below hb3 hHeld.2.2.1), (pw_cell_below hb3 hHeld.2.2.2.1), (pw_cell_below hb3 hHeld.2.2.2.2)⟩ (fun hHeld => ?_)
  clear hK K
  refine norm_ (a' := ?_) ?_ ?_
  rotate_left
  · show Act.put _ (some 15) _ = _
    simp only [Act.put, List.setIfInBounds_toArray, List.set_cons_zero, List.set_cons_succ, i64_w, i32_w]
    rfl
  refine pure_ (i := 5) (N := some 16) (v := ?_) (a' := ?_) #[true,true,true,true,true,true,false,false] rfl rfl (by kernel_rfl) (fun _ _ _ h => h) (Or.inl ⟨by rfl, ?_⟩) ?_ ?_
  rotate_left
  · intro w'
    go_simp
    with_reducible rfl
  rotate_left
  · simp only [Act.put, List.setIfInBounds_toArray, List.set_cons_zero, List.set_cons_succ, i64_w, i32_w]
    rfl
  refine last_ (i := 6) (N := some 17) #[true,true,true,true,true,true,true,false] rfl rfl (by kernel_rfl) (by decide) (fun K hK => ?_)
  have hbw := below_step (below_step (below_drew HB.out) hb2) hb3
  obtain ⟨A4, c4, w4, hr4, ho4, hk4, _⟩ := app_zeros q (((OwnO.of_own ho2).weaken (show w.heap.size ≤ _ from (below_drew HB.out).size)).below hb3) HEL.out hbw.size q0 (by omega)
  refine app_step (by rfl) (.tmp 13) (.tmp 16) rfl rfl rfl hr4 ?_
  refine hK.out _ _ ?_
  clear hK K
  refine norm_ (a' := ?_) ?_ ?_
  rotate_left
  · show Act.put _ (some 17) _ = _
    simp only [Act.put, List.setIfInBounds_toArray, List.set_cons_zero, List.set_cons_succ, i64_w, i32_w]
    rfl
  refine pure_ (i := 7) (N := some 7) (v := ?_) (a' := ?_) #[true,true,true,true,true,true,true,true] rfl rfl (by kernel_rfl) (fun _ _ _ h => h) (Or.inl ⟨by rfl, ?_⟩) ?_ ?_
  rotate_left
  · intro w'
    go_simp
    with_reducible rfl
  rotate_left
  · simp only [Act.put, List.setIfInBounds_toArray, List.set_cons_zero, List.set_cons_succ, i64_w, i32_w]
    rfl
  refine done_ (by kernel_rfl) ?_
  have HB4 := Aside0.mk (Kp.from hbw hk4 (fun b hb => by have := Own.ge ho2 hb; have := (below_drew HB.out).size; omega))
  have hz3 := blk_below (blk_below (blk_drew HZ.out) hb2) hb3
  have HZ4 := Aside0.mk (hk4.blk hz3 (fun h => Own.ne (ho2.below hb3) hz3 (by decide) h))
  have HO4 := Aside0.mk ho4
  clear hbw hb2 hb3 ho2 ho4 hr4 hk4 hz3 r0 r1 r2 r3 r4
  have r0 : (w4).cell? ⟨w.heap.size, 0, none⟩ = some (.int .u64 H.id) := blk_cell HZ4.out 0
  have r1 : (w4).cell? ⟨w.heap.size, 1, none⟩ = some (.int .u64 H.key) := blk_cell HZ4.out 1
  have r2 : (w4).cell? ⟨w.heap.size, 2, none⟩ = some (.int .i64 H.data) := blk_cell HZ4.out 2
  have r3 : (w4).cell? ⟨w.heap.size, 3, none⟩ = some (.int .i64 H.fields) := blk_cell HZ4.out 3
  have r4 : (w4).cell? ⟨w.heap.size, 4, none⟩ = some (.int .u64 H.made) := blk_cell HZ4.out 4
  go_wp2_with fail
  go_ret
  exact ⟨_, rfl, ⟨_, Im.fresh lim _ HO4.out HB4.out⟩, below_alloc HB4.out _⟩
end Go.Proofs.Ytigdchfjcfljjaa
end
section
/- Images: Object, At. -/
namespace Go.Proofs.Ytigdchfjcfljjaa
open Go.RowKit Go.Proofs.YtigdchfjcfljjaaW.PrintWords Go.Proofs.YtigdchfjcfljjaaW.PrintLast Go.Proofs.YtigdchfjcfljjaaW.PrintMore
attribute [local go_sem] max2_int min2_int max_two min_two max_three min_three max_four min_four
theorem cell_lt {W : World} {ad : Addr} {i : Nat} {v : Value} (h : W.cell? (ad.add i) = some v) : ad.block < W.heap.size := by
  rw [World.cell?] at h
  cases e : W.heap[ad.block]? with
  | none =>
    have : (ad.add i).block = ad.block := by unfold Addr.add; split <;> rfl
    rw [this, e] at h
    cases h
  | some o => exact (Array.getElem?_eq_some_iff.1 e).1
/-- What reads as numbers of words or bytes is no block of an object. -/
theorem cell_type {W : World} {g T : Nat} {ad : Addr} {k : IntKind} {z : Int} {x : Int} {a1 a2 a3 : Option Addr} {n1 n2 n3 c1 c2 c3 : Nat} (hb : W.heap[g]? = some (.cells #[.int .i64 x, .slice a1 n1 c1, .slice a2 n2 c2, .slice a3 n3 c3] T (0, 0))) (h : W.cell? (ad.add 0) = some (.int k z)) (he : ad.block = g) (hk : k = .u64 ∨ k = .u8) : False := by
  subst he
  have hz : ad.add 0 = ad := by simp [Addr.add]
  rw [hz, World.cell?, hb] at h
  dsimp only at h
  split at h
  · cases h
  · rcases hk with rfl | rfl <;>
    · obtain ⟨b, o, p⟩ := ad
      dsimp only at h
      match o, h with
      | 0, h => simp at h
      | 1, h => simp at h
      | 2, h => simp at h
      | 3, h => simp at h
      | o + 4, h => simp at h
/-- Is there an object at a place of an image. -/
def obB (H : Hd) (B : List Int) (a : Int) : Bool := decide (obN H ≤ a) && dG B a
def obV (H : Hd) (B : List Int) (a : Int) (u1 u2 u3 : Value) : Value := bif obB H B a then .tuple #[.agg #[.int .i64 (getN B a 8), u1, u2, u3], .bool true] else .tuple #[.agg #[.int .i64 0, .slice none 0 0, .slice none 0 0, .slice none 0 0], .bool false]
theorem obB_low {H : Hd} {B : List Int} {a : Int} (h : a < obN H) : obB H B a = false := by rw [obB, decide_eq_false (by omega)]; rfl
theorem obB_high {H : Hd} {B : List Int} {a : Int} (h : ¬ a < obN H) : obB H B a = dG B a := by rw [obB, decide_eq_true (by omega)]; rfl
set_option maxHeartbeats 8000000 in
set_option maxRecDepth 100000 in
theorem Object_calls (g base : Nat) (H : Hd) (B : List Int) (lim fr : Int) (ws : List Int) (F : Nat → Prop) (vb vw : Value) (w : World) (hI : Im w g base H B lim fr ws F vb vw) (hr : hR H.data H.fields = true) (a : Int) (hb : isB B) (hl : B.length ≤ 100000) (ha0 : -9223372036854775808 ≤ a) : Calls Try.prog 125 #[.pointer (some ⟨g, 0, none⟩), .int .i64 a] w fun e w' => (∃ u1 u2 u3, e = .returned (obV H B a u1 u2 u3) ∧ (obB H B a = true → Rd w' .u64 u1 (odW B a (getN B a 8)) ∧ Rd w' .u8 u2 (odR B a (getN B a 8) (getN B (a + 8) 8)) ∧ Rd w' .u64 u3 (odI B a (getN B a 8) (getN B (a + 8) 8)))) ∧ Below w.heap.size w w' := by
  obtain ⟨d0, d1, f0, f1⟩ := hR_of hr
  have hI0 := hI.below (below_alloc (Below.refl _ _) (.cells #[.int .i64 0, .slice none 0 0, .slice none 0 0, .slice none 0 0] 51))
  have HZ := Aside0.mk (blk_new w (.cells #[.int .i64 0, .slice none 0 0, .slice none 0 0, .slice none 0 0] 51))
  have HB := Aside0.mk (below_alloc (Below.refl w.heap.size w) (.cells #[.int .i64 0, .slice none 0 0, .slice none 0 0, .slice none 0 0] 51))
  have HI0 := Aside0.mk hI0
  have CO := Aside0.mk (fun w => Objects_calls H.id H.key H.data H.fields H.made w d0 d1 f0 f1)
  have CD := Aside0.mk (fun w1 (h : Rd w1 .u8 vb B) => obj_Decode_any vb B a w1 h hb hl ha0)
  have HLO := Aside0.mk (@obB_low H B a)
  have HHI := Aside0.mk (@obB_high H B a)
  have HOV := Aside0.mk (fun (u1 u2 u3 : Value) => (show obV H B a u1 u2 u3 = bif obB H B a then .tuple #[.agg #[.int .i64 (getN B a 8), u1, u2, u3], .bool true] else .tuple #[.agg #[.int .i64 0, .slice none 0 0, .slice none 0 0, .slice none 0 0], .bool false] from rfl))
  rw [obN] at HLO HHI
  clear hI hI0 hb hl ha0 hr
  go_enter Try.func125, Try.ntmps125
  go_upto_region 1 with fail
  obtain ⟨w0, hw0⟩ : ∃ w0, w.alloc (.cells #[.int .i64 0, .slice none 0 0, .slice none 0 0, .slice none 0 0] 51) = w0 := ⟨_, rfl⟩
  rw [hw0] at HZ HB HI0 ⊢
  clear hw0
  have r0 : (w0).cell? ⟨g, 0, none⟩ = some (.int .u64 H.id) := blk_cell HI0.out.blk 0
  have r1 : (w0).cell? ⟨g, 1, none⟩ = some (.int .u64 H.key) := blk_cell HI0.out.blk 1
  have r2 : (w0).cell? ⟨g, 2, none⟩ = some (.int .i64 H.data) := blk_cell HI0.out.blk 2
  have r3 : (w0).cell? ⟨g, 3, none⟩ = some (.int .i64 H.fields) := blk_cell HI0.out.blk 3
  have r4 : (w0).cell? ⟨g, 4, none⟩ = some (.int .u64 H.made) := blk_cell HI0.out.blk 4
  have r5 : (w0).cell? ⟨g, 5, none⟩ = some (vb) := blk_cell HI0.out.blk 5
  have r6 : (w0).cell? ⟨g, 6, none⟩ = some (.int .i64 lim) := blk_cell HI0.out.blk 6
  have r7 : (w0).cell? ⟨g, 7, none⟩ = some (.int .i64 fr) := blk_cell HI0.out.blk 7
  have r8 : (w0).cell? ⟨g, 8, none⟩ = some (vw) := blk_cell HI0.out.blk 8
  go_wp2_with fail
  refine (CO.out _).mono ?_
  rintro e w1 ⟨rfl, hb⟩
  replace HZ := Aside0.mk (blk_below HZ.out hb)
  replace HB := Aside0.mk (below_step HB.out hb)
  have HI1 := Aside0.mk (HI0.out.below hb)
  clear hb r0 r1 r2 r3 r4 r5 r6 r7 r8
  by_cases c1 : a < 256 + 8 * H.data + 8 * H.fields
  · have hlo := HLO.out (by omega)
    have z0 : (w1).cell? ⟨w.heap.size, 0, none⟩ = some (.int .i64 0) := blk_cell HZ.out 0
    have z1 : (w1).cell? ⟨w.heap.size, 1, none⟩ = some (.slice none 0 0) := blk_cell HZ.out 1
    have z2 : (w1).cell? ⟨w.heap.size, 2, none⟩ = some (.slice none 0 0) := blk_cell HZ.out 2
    have z3 : (w1).cell? ⟨w.heap.size, 3, none⟩ = some (.slice none 0 0) := blk_cell HZ.out 3
    have f0 := blk_frozen HZ.out 0
    have f1 := blk_frozen HZ.out 1
    have f2 := blk_frozen HZ.out 2
    have f3 := blk_frozen HZ.out 3
    go_wp2_with fail
    refine bodyPost_ret (v := .tuple #[.agg #[.int .i64 0, .slice none 0 0, .slice none 0 0, .slice none 0 0], .bool false]) (by simp [results, Try.results125, go_sem, z0, z1, z2, z3]) rfl ?_
    exact ⟨⟨.slice none 0 0, .slice none 0 0, .slice none 0 0, by rw [HOV.out, hlo]; rfl, fun h => by rw [hlo] at h; cases h⟩, by first | exact HB.out | exact below_set4 HB.out (Nat.le_refl _) _ _ _ _⟩
  · have hhi := HHI.out (by omega)
    have r0 : (w1).cell? ⟨g, 0, none⟩ = some (.int .u64 H.id) := blk_cell HI1.out.blk 0
    have r1 : (w1).cell? ⟨g, 1, none⟩ = some (.int .u64 H.key) := blk_cell HI1.out.blk 1
    have r2 : (w1).cell? ⟨g, 2, none⟩ = some (.int .i64 H.data) := blk_cell HI1.out.blk 2
    have r3 : (w1).cell? ⟨g, 3, none⟩ = some (.int .i64 H.fields) := blk_cell HI1.out.blk 3
    have r4 : (w1).cell? ⟨g, 4, none⟩ = some (.int .u64 H.made) := blk_cell HI1.out.blk 4
    have r5 : (w1).cell? ⟨g, 5, none⟩ = some (vb) := blk_cell HI1.out.blk 5
    have r6 : (w1).cell? ⟨g, 6, none⟩ = some (.int .i64 lim) := blk_cell HI1.out.blk 6
    have r7 : (w1).cell? ⟨g, 7, none⟩ = some (.int .i64 fr) := blk_cell HI1.out.blk 7
    have r8 : (w1).cell? ⟨g, 8, none⟩ = some (vw) := blk_cell HI1.out.blk 8
    go_wp2_with fail
    refine (CD.out _ HI1.out.b.rd).mono ?_
    rintro e w2 ⟨⟨u1, u2, u3, rfl, hu⟩, hb⟩
    replace HZ := Aside0.mk (blk_below HZ.out hb)
    replace HB := Aside0.mk (below_step HB.out hb)
    rw [dV]
    clear hb r0 r1 r2 r3 r4 r5 r6 r7 r8
    cases hg : dG B a with
    | true =>
      obtain ⟨hr1, hr2, hr3⟩ := hu hg
      have R1 := Aside0.mk hr1
      have R2 := Aside0.mk hr2
      have R3 := Aside0.mk hr3
      obtain ⟨B1, d1, e1, _, _⟩ := hr1
      obtain ⟨B2, d2, e2, _, _⟩ := hr2
      obtain ⟨B3, d3, e3, _, _⟩ := hr3
      have HG := Aside0.mk (hhi.trans hg)
      obtain ⟨n1, en1⟩ : ∃ n, (odW B a (getN B a 8)).length = n := ⟨_, rfl⟩
      obtain ⟨n2, en2⟩ : ∃ n, (odR B a (getN B a 8) (getN B (a + 8) 8)).length = n := ⟨_, rfl⟩
      obtain ⟨n3, en3⟩ : ∃ n, (odI B a (getN B a 8) (getN B (a + 8) 8)).length = n := ⟨_, rfl⟩
      rw [en1] at e1
      rw [en2] at e2
      rw [en3] at e3
      obtain ⟨K, hK⟩ : ∃ K, getN B a 8 = K := ⟨_, rfl⟩
      subst e1; subst e2; subst e3
      have HOV2 := Aside0.mk (HOV.out (.slice B1 n1 d1) (.slice B2 n2 d2) (.slice B3 n3 d3))
      rw [HG.out, hK] at HOV2
      rw [cond_true, hK]
      have HZ2 := Aside0.mk (blk_alloc HZ.out (.cells #[.int .i64 K, .slice B1 n1 d1, .slice B2 n2 d2, .slice B3 n3 d3] 51))
      have HX2 := Aside0.mk (blk_new w2 (.cells #[.int .i64 K, .slice B1 n1 d1, .slice B2 n2 d2, .slice B3 n3 d3] 51))
      have HB2 := Aside0.mk (below_alloc HB.out (.cells #[.int .i64 K, .slice B1 n1 d1, .slice B2 n2 d2, .slice B3 n3 d3] 51))
      have HKP := Aside0.mk (below_alloc (Below.refl w2.heap.size w2) (.cells #[.int .i64 K, .slice B1 n1 d1, .slice B2 n2 d2, .slice B3 n3 d3] 51))
      have HLT := Aside0.mk (blk_lt HZ.out)
      have HKK := Aside0.mk hK
      clear hu hg hhi hK en1 en2 en3
      go_upto_region 4 with fail
      obtain ⟨g2, hg2⟩ : ∃ g2, w2.heap.size = g2 := ⟨_, rfl⟩
      rw [hg2] at HX2
      first | rw [hg2] | skip
      obtain ⟨w3, hw3⟩ : ∃ w3, w2.alloc (.cells #[.int .i64 K, .slice B1 n1 d1, .slice B2 n2 d2, .slice B3 n3 d3] 51) = w3 := ⟨_, rfl⟩
      rw [hw3] at HZ2 HX2 HB2 HKP ⊢
      clear hg2 hw3
      have x0 : (w3).cell? ⟨g2, 0, none⟩ = some (.int .i64 K) := blk_cell HX2.out 0
      have x1 : (w3).cell? ⟨g2, 1, none⟩ = some (.slice B1 n1 d1) := blk_cell HX2.out 1
      have x2 : (w3).cell? ⟨g2, 2, none⟩ = some (.slice B2 n2 d2) := blk_cell HX2.out 2
      have x3 : (w3).cell? ⟨g2, 3, none⟩ = some (.slice B3 n3 d3) := blk_cell HX2.out 3
      have z0 : (w3).cell? ⟨w.heap.size, 0, none⟩ = some (.int .i64 0) := blk_cell HZ2.out 0
      have z1 : (w3).cell? ⟨w.heap.size, 1, none⟩ = some (.slice none 0 0) := blk_cell HZ2.out 1
      have z2 : (w3).cell? ⟨w.heap.size, 2, none⟩ = some (.slice none 0 0) := blk_cell HZ2.out 2
      have z3 : (w3).cell? ⟨w.heap.size, 3, none⟩ = some (.slice none 0 0) := blk_cell HZ2.out 3
      have f0 := blk_frozen HZ2.out 0
      have f1 := blk_frozen HZ2.out 1
      have f2 := blk_frozen HZ2.out 2
      have f3 := blk_frozen HZ2.out 3
      go_wp2_with fail
      refine bodyPost_ret (v := .tuple #[.agg #[.int .i64 K, .slice B1 n1 d1, .slice B2 n2 d2, .slice B3 n3 d3], .bool true]) (by simp [results, Try.results125, go_sem, z0, z1, z2, z3]) rfl ?_
      refine ⟨⟨_, _, _, by rw [HOV2.out]; rfl, fun _ => ?_⟩, below_set4 HB2.out (Nat.le_refl _) _ _ _ _⟩
      have hkp : Kp (fun k => k = w.heap.size) w2 ((((w3.setCell ⟨w.heap.size, 0, none⟩ (.int .i64 K)).setCell ⟨w.heap.size, 1, none⟩ (.slice B1 n1 d1)).setCell ⟨w.heap.size, 2, none⟩ (.slice B2 n2 d2)).setCell ⟨w.heap.size, 3, none⟩ (.slice B3 n3 d3)) := kp_set4 (S := fun k => k = w.heap.size) (Kp.of_below HKP.out _) rfl _ _ _ _
      have hne : ∀ {k : IntKind} {v : Value} {xs : List Int}, k = .u64 ∨ k = .u8 → Rd w2 k v xs → Rd ((((w3.setCell ⟨w.heap.size, 0, none⟩ (.int .i64 K)).setCell ⟨w.heap.size, 1, none⟩ (.slice B1 n1 d1)).setCell ⟨w.heap.size, 2, none⟩ (.slice B2 n2 d2)).setCell ⟨w.heap.size, 3, none⟩ (.slice B3 n3 d3)) k v xs := by
        intro k v xs hk h
        refine rdE_int.1 ((rdE_int.2 h).move fun A ⟨n, c, hv, h0⟩ => hkp.block A.block ?_ ?_)
        · obtain ⟨A', c', e, hc', hm, hl', hcell⟩ := h
          rw [hv] at e
          injection e with e
          subst e
          obtain ⟨ad, e, hcc⟩ := hcell h0
          injection e with e
          subst e
          exact cell_lt (hcc 0 (by omega))
        · intro hA
          obtain ⟨A', c', e, hc', hm, hl', hcell⟩ := h
          rw [hv] at e
          injection e with e
          subst e
          obtain ⟨ad, e, hcc⟩ := hcell h0
          injection e with e
          subst e
          exact cell_type HZ.out (hcc 0 (by omega)) hA hk
      rw [HKK.out]
      have r1 := R1.out
      have r2 := R2.out
      have r3 := R3.out
      rw [HKK.out] at r1 r2 r3
      exact ⟨hne (.inl rfl) r1, hne (.inr rfl) r2, hne (.inl rfl) r3⟩
    | false =>
      have HG := Aside0.mk (hhi.trans hg)
      rw [cond_false]
      have HZ2 := Aside0.mk (blk_alloc HZ.out (.cells #[.int .i64 0, .slice none 0 0, .slice none 0 0, .slice none 0 0] 51))
      have HX2 := Aside0.mk (blk_new w2 (.cells #[.int .i64 0, .slice none 0 0, .slice none 0 0, .slice none 0 0] 51))
      have HB2 := Aside0.mk (below_alloc HB.out (.cells #[.int .i64 0, .slice none 0 0, .slice none 0 0, .slice none 0 0] 51))
      clear hu hg hhi
      go_upto_region 4 with fail
      obtain ⟨g2, hg2⟩ : ∃ g2, w2.heap.size = g2 := ⟨_, rfl⟩
      rw [hg2] at HX2
      first | rw [hg2] | skip
      obtain ⟨w3, hw3⟩ : ∃ w3, w2.alloc (.cells #[.int .i64 0, .slice none 0 0, .slice none 0 0, .slice none 0 0] 51) = w3 := ⟨_, rfl⟩
      rw [hw3] at HZ2 HX2 HB2 ⊢
      clear hg2 hw3
      have x0 : (w3).cell? ⟨g2, 0, none⟩ = some (.int .i64 0) := blk_cell HX2.out 0
      have x1 : (w3).cell? ⟨g2, 1, none⟩ = some (.slice none 0 0) := blk_cell HX2.out 1
      have x2 : (w3).cell? ⟨g2, 2, none⟩ = some (.slice none 0 0) := blk_cell HX2.out 2
      have x3 : (w3).cell? ⟨g2, 3, none⟩ = some (.slice none 0 0) := blk_cell HX2.out 3
      have z0 : (w3).cell? ⟨w.heap.size, 0, none⟩ = some (.int .i64 0) := blk_cell HZ2.out 0
      have z1 : (w3).cell? ⟨w.heap.size, 1, none⟩ = some (.slice none 0 0) := blk_cell HZ2.out 1
      have z2 : (w3).cell? ⟨w.heap.size, 2, none⟩ = some (.slice none 0 0) := blk_cell HZ2.out 2
      have z3 : (w3).cell? ⟨w.heap.size, 3, none⟩ = some (.slice none 0 0) := blk_cell HZ2.out 3
      have f0 := blk_frozen HZ2.out 0
      have f1 := blk_frozen HZ2.out 1
      have f2 := blk_frozen HZ2.out 2
      have f3 := blk_frozen HZ2.out 3
      go_wp2_with fail
      refine bodyPost_ret (v := .tuple #[.agg #[.int .i64 0, .slice none 0 0, .slice none 0 0, .slice none 0 0], .bool false]) (by simp [results, Try.results125, go_sem, z0, z1, z2, z3]) rfl ?_
      exact ⟨⟨.slice none 0 0, .slice none 0 0, .slice none 0 0, by rw [HOV.out, HG.out]; rfl, fun h => by rw [HG.out] at h; cases h⟩, below_set4 HB2.out (Nat.le_refl _) _ _ _ _⟩
end Go.Proofs.Ytigdchfjcfljjaa
end
section
/- Images: At, Back. -/
namespace Go.Proofs.Ytigdchfjcfljjaa
open Go.RowKit Go.Proofs.YtigdchfjcfljjaaW.PrintWords Go.Proofs.YtigdchfjcfljjaaW.PrintLast Go.Proofs.YtigdchfjcfljjaaW.PrintMore
attribute [local go_sem] max2_int min2_int max_two min_two max_three min_three max_four min_four
def atB (H : Hd) (B : List Int) (p kd : Int) : Bool := decide (p < B.length) && (obB H B p && (getN B p 8 == kd))
def atV (H : Hd) (B : List Int) (p kd : Int) (u1 u2 u3 : Value) : Value := bif atB H B p kd then .tuple #[.agg #[.int .i64 kd, u1, u2, u3], .bool true] else .tuple #[.agg #[.int .i64 0, .slice none 0 0, .slice none 0 0, .slice none 0 0], .bool false]
theorem rd_keep4 {w2 wf : World} {g T : Nat} {x : Int} {a1 a2 a3 : Option Addr} {m1 m2 m3 e1 e2 e3 : Nat} (hb : w2.heap[g]? = some (.cells #[.int .i64 x, .slice a1 m1 e1, .slice a2 m2 e2, .slice a3 m3 e3] T (0, 0))) (hkp : Kp (fun k => k = g) w2 wf) {k : IntKind} {v : Value} {xs : List Int} (hk : k = .u64 ∨ k = .u8) (h : Rd w2 k v xs) : Rd wf k v xs := by
  refine rdE_int.1 ((rdE_int.2 h).move fun A ⟨n, c, hv, h0⟩ => hkp.block A.block ?_ ?_)
  · obtain ⟨A', c', e, hc', hm, hl', hcell⟩ := h
    rw [hv] at e
    injection e with e
    subst e
    obtain ⟨ad, e, hcc⟩ := hcell h0
    injection e with e
    subst e
    exact cell_lt (hcc 0 (by omega))
  · intro hA
    obtain ⟨A', c', e, hc', hm, hl', hcell⟩ := h
    rw [hv] at e
    injection e with e
    subst e
    obtain ⟨ad, e, hcc⟩ := hcell h0
    injection e with e
    subst e
    exact cell_type hb (hcc 0 (by omega)) hA hk
set_option maxHeartbeats 8000000 in
set_option maxRecDepth 100000 in
theorem At_calls (g base : Nat) (H : Hd) (B : List Int) (lim fr : Int) (ws : List Int) (F : Nat → Prop) (vb vw : Value) (w : World) (hI : Im w g base H B lim fr ws F vb vw) (hr : hR H.data H.fields = true) (n : Nat) (hn : B.length = n) (p kd : Int) (hb : isB B) (hl : n ≤ 100000) (p0 : 0 ≤ p) (p1 : p ≤ 18446744073709551615) : Calls Try.prog 78 #[.pointer (some ⟨g, 0, none⟩), .int .u64 p, .int .i64 kd] w fun e w' => (∃ u1 u2 u3, e = .returned (atV H B p kd u1 u2 u3) ∧ (atB H B p kd = true → Rd w' .u64 u1 (odW B p (getN B p 8)) ∧ Rd w' .u8 u2 (odR B p (getN B p 8) (getN B (p + 8) 8)) ∧ Rd w' .u64 u3 (odI B p (getN B p 8) (getN B (p + 8) 8)))) ∧ Below w.heap.size w w' := by
  have HI0 := Aside0.mk (hI.below (below_alloc (Below.refl _ _) (.cells #[.int .i64 0, .slice none 0 0, .slice none 0 0, .slice none 0 0] 51)))
  have HZ := Aside0.mk (blk_new w (.cells #[.int .i64 0, .slice none 0 0, .slice none 0 0, .slice none 0 0] 51))
  have HB := Aside0.mk (below_alloc (Below.refl w.heap.size w) (.cells #[.int .i64 0, .slice none 0 0, .slice none 0 0, .slice none 0 0] 51))
  have HAV := Aside0.mk (fun (u1 u2 u3 : Value) => (show atV H B p kd u1 u2 u3 = bif atB H B p kd then .tuple #[.agg #[.int .i64 kd, u1, u2, u3], .bool true] else .tuple #[.agg #[.int .i64 0, .slice none 0 0, .slice none 0 0, .slice none 0 0], .bool false] from rfl))
  have HAB := Aside0.mk (show atB H B p kd = (decide (p < n) && (obB H B p && (getN B p 8 == kd))) by rw [atB, hn])
  have CO := Aside0.mk (fun (w1 : World) (h : Im w1 g base H B lim fr ws F vb vw) (hp : p < n) => Object_calls g base H B lim fr ws F vb vw w1 h hr p hb (by omega) (by omega))
  obtain ⟨A0, c0, ev, _, _⟩ := hI.b.sl hn
  subst ev
  have hcv : IntKind.u64.wrap (n : Int) = (n : Int) := by rw [IntKind.wrap_u64]; omega
  have hcp : p < n → IntKind.i64.wrap p = p := fun h => by rw [IntKind.wrap_i64]; omega
  clear hI hr hb hn p1
  go_enter Try.func78, Try.ntmps78
  go_upto_region 1 with fail
  obtain ⟨w0, hw0⟩ : ∃ w0, w.alloc (.cells #[.int .i64 0, .slice none 0 0, .slice none 0 0, .slice none 0 0] 51) = w0 := ⟨_, rfl⟩
  rw [hw0] at HZ HB HI0 ⊢
  clear hw0
  have r0 : (w0).cell? ⟨g, 0, none⟩ = some (.int .u64 H.id) := blk_cell HI0.out.blk 0
  have r1 : (w0).cell? ⟨g, 1, none⟩ = some (.int .u64 H.key) := blk_cell HI0.out.blk 1
  have r2 : (w0).cell? ⟨g, 2, none⟩ = some (.int .i64 H.data) := blk_cell HI0.out.blk 2
  have r3 : (w0).cell? ⟨g, 3, none⟩ = some (.int .i64 H.fields) := blk_cell HI0.out.blk 3
  have r4 : (w0).cell? ⟨g, 4, none⟩ = some (.int .u64 H.made) := blk_cell HI0.out.blk 4
  have r5 : (w0).cell? ⟨g, 5, none⟩ = some ((.slice A0 n c0)) := blk_cell HI0.out.blk 5
  have r6 : (w0).cell? ⟨g, 6, none⟩ = some (.int .i64 lim) := blk_cell HI0.out.blk 6
  have r7 : (w0).cell? ⟨g, 7, none⟩ = some (.int .i64 fr) := blk_cell HI0.out.blk 7
  have r8 : (w0).cell? ⟨g, 8, none⟩ = some (vw) := blk_cell HI0.out.blk 8
  by_cases c1 : p < n
  · have hcp2 := hcp c1
    have HP := Aside0.mk c1
    clear hcp
    go_wp2_with fail
    refine (CO.out _ HI0.out HP.out).mono ?_
    rintro e w2 ⟨⟨u1, u2, u3, rfl, hu⟩, hb⟩
    replace HZ := Aside0.mk (blk_below HZ.out hb)
    replace HB := Aside0.mk (below_step HB.out hb)
    rw [obV]
    clear hb r0 r1 r2 r3 r4 r5 r6 r7 r8 hcv hcp2 c1
    cases hg : obB H B p with
    | true =>
      obtain ⟨hr1, hr2, hr3⟩ := hu hg
      have R1 := Aside0.mk hr1
      have R2 := Aside0.mk hr2
      have R3 := Aside0.mk hr3
      obtain ⟨B1, d1, e1, _, _⟩ := hr1
      obtain ⟨B2, d2, e2, _, _⟩ := hr2
      obtain ⟨B3, d3, e3, _, _⟩ := hr3
      obtain ⟨n1, en1⟩ : ∃ n, (odW B p (getN B p 8)).length = n := ⟨_, rfl⟩
      obtain ⟨n2, en2⟩ : ∃ n, (odR B p (getN B p 8) (getN B (p + 8) 8)).length = n := ⟨_, rfl⟩
      obtain ⟨n3, en3⟩ : ∃ n, (odI B p (getN B p 8) (getN B (p + 8) 8)).length = n := ⟨_, rfl⟩
      rw [en1] at e1
      rw [en2] at e2
      rw [en3] at e3
      obtain ⟨K, hK⟩ : ∃ K, getN B p 8 = K := ⟨_, rfl⟩
      subst e1; subst e2; subst e3
      rw [hg, hK, decide_eq_true HP.out] at HAB
      rw [cond_true, hK]
      have HKK := Aside0.mk hK
      clear hu hg hK en1 en2 en3
      have HZ2 := Aside0.mk (blk_alloc HZ.out (.cells #[.int .i64 K, .slice B1 n1 d1, .slice B2 n2 d2, .slice B3 n3 d3] 51))
      have HX2 := Aside0.mk (blk_new w2 (.cells #[.int .i64 K, .slice B1 n1 d1, .slice B2 n2 d2, .slice B3 n3 d3] 51))
      have HB2 := Aside0.mk (below_alloc HB.out (.cells #[.int .i64 K, .slice B1 n1 d1, .slice B2 n2 d2, .slice B3 n3 d3] 51))
      have HKP := Aside0.mk (below_alloc (Below.refl w2.heap.size w2) (.cells #[.int .i64 K, .slice B1 n1 d1, .slice B2 n2 d2, .slice B3 n3 d3] 51))
      go_upto_region 4 with fail
      obtain ⟨g2, hg2⟩ : ∃ g2, w2.heap.size = g2 := ⟨_, rfl⟩
      rw [hg2] at HX2
      first | rw [hg2] | skip
      obtain ⟨w3, hw3⟩ : ∃ w3, w2.alloc (.cells #[.int .i64 K, .slice B1 n1 d1, .slice B2 n2 d2, .slice B3 n3 d3] 51) = w3 := ⟨_, rfl⟩
      rw [hw3] at HZ2 HX2 HB2 HKP ⊢
      clear hg2 hw3
      have x0 : (w3).cell? ⟨g2, 0, none⟩ = some (.int .i64 K) := blk_cell HX2.out 0
      have x1 : (w3).cell? ⟨g2, 1, none⟩ = some (.slice B1 n1 d1) := blk_cell HX2.out 1
      have x2 : (w3).cell? ⟨g2, 2, none⟩ = some (.slice B2 n2 d2) := blk_cell HX2.out 2
      have x3 : (w3).cell? ⟨g2, 3, none⟩ = some (.slice B3 n3 d3) := blk_cell HX2.out 3
      have z0 : (w3).cell? ⟨w.heap.size, 0, none⟩ = some (.int .i64 0) := blk_cell HZ2.out 0
      have z1 : (w3).cell? ⟨w.heap.size, 1, none⟩ = some (.slice none 0 0) := blk_cell HZ2.out 1
      have z2 : (w3).cell? ⟨w.heap.size, 2, none⟩ = some (.slice none 0 0) := blk_cell HZ2.out 2
      have z3 : (w3).cell? ⟨w.heap.size, 3, none⟩ = some (.slice none 0 0) := blk_cell HZ2.out 3
      have f0 := blk_frozen HZ2.out 0
      have f1 := blk_frozen HZ2.out 1
      have f2 := blk_frozen HZ2.out 2
      have f3 := blk_frozen HZ2.out 3
      by_cases c2 : K = kd
      · have b1 : (K != kd) = false := by simpa using c2
        have HT := Aside0.mk (show atB H B p kd = true by rw [HAB.out]; simp [c2])
        have HAV2 := Aside0.mk (show atV H B p kd (.slice B1 n1 d1) (.slice B2 n2 d2) (.slice B3 n3 d3) = .tuple #[.agg #[.int .i64 K, .slice B1 n1 d1, .slice B2 n2 d2, .slice B3 n3 d3], .bool true] by rw [HAV.out, HT.out, c2]; rfl)
        clear c2
        go_wp2_with fail
        refine bodyPost_ret (v := .tuple #[.agg #[.int .i64 K, .slice B1 n1 d1, .slice B2 n2 d2, .slice B3 n3 d3], .bool true]) (by simp [results, Try.results78, go_sem, z0, z1, z2, z3]) rfl ?_
        refine ⟨⟨_, _, _, by rw [HAV2.out], fun _ => ?_⟩, below_set4 HB2.out (Nat.le_refl _) _ _ _ _⟩
        have hkp : Kp (fun k => k = w.heap.size) w2 ((((w3.setCell ⟨w.heap.size, 0, none⟩ (.int .i64 K)).setCell ⟨w.heap.size, 1, none⟩ (.slice B1 n1 d1)).setCell ⟨w.heap.size, 2, none⟩ (.slice B2 n2 d2)).setCell ⟨w.heap.size, 3, none⟩ (.slice B3 n3 d3)) := kp_set4 (S := fun k => k = w.heap.size) (Kp.of_below HKP.out _) rfl _ _ _ _
        exact ⟨rd_keep4 HZ.out hkp (.inl rfl) R1.out, rd_keep4 HZ.out hkp (.inr rfl) R2.out, rd_keep4 HZ.out hkp (.inl rfl) R3.out⟩
      · have b1 : (K != kd) = true := by simpa using c2
        have HT := Aside0.mk (show atB H B p kd = false by rw [HAB.out]; simp [c2])
        clear c2
        go_wp2_with fail
        refine bodyPost_ret (v := .tuple #[.agg #[.int .i64 0, .slice none 0 0, .slice none 0 0, .slice none 0 0], .bool false]) (by simp [results, Try.results78, go_sem, z0, z1, z2, z3]) rfl ?_
        exact ⟨⟨.slice none 0 0, .slice none 0 0, .slice none 0 0, by rw [HAV.out, HT.out]; rfl, fun h => by rw [HT.out] at h; cases h⟩, by first | exact HB2.out | exact below_set4 HB2.out (Nat.le_refl _) _ _ _ _⟩
    | false =>
      have HT := Aside0.mk (show atB H B p kd = false by rw [HAB.out, hg]; simp)
      rw [cond_false]
      clear hu hg
      have HZ2 := Aside0.mk (blk_alloc HZ.out (.cells #[.int .i64 0, .slice none 0 0, .slice none 0 0, .slice none 0 0] 51))
      have HX2 := Aside0.mk (blk_new w2 (.cells #[.int .i64 0, .slice none 0 0, .slice none 0 0, .slice none 0 0] 51))
      have HB2 := Aside0.mk (below_alloc HB.out (.cells #[.int .i64 0, .slice none 0 0, .slice none 0 0, .slice none 0 0] 51))
      have HKP := Aside0.mk (below_alloc (Below.refl w2.heap.size w2) (.cells #[.int .i64 0, .slice none 0 0, .slice none 0 0, .slice none 0 0] 51))
      go_upto_region 4 with fail
      obtain ⟨g2, hg2⟩ : ∃ g2, w2.heap.size = g2 := ⟨_, rfl⟩
      rw [hg2] at HX2
      first | rw [hg2] | skip
      obtain ⟨w3, hw3⟩ : ∃ w3, w2.alloc (.cells #[.int .i64 0, .slice none 0 0, .slice none 0 0, .slice none 0 0] 51) = w3 := ⟨_, rfl⟩
      rw [hw3] at HZ2 HX2 HB2 HKP ⊢
      clear hg2 hw3
      have x0 : (w3).cell? ⟨g2, 0, none⟩ = some (.int .i64 0) := blk_cell HX2.out 0
      have x1 : (w3).cell? ⟨g2, 1, none⟩ = some (.slice none 0 0) := blk_cell HX2.out 1
      have x2 : (w3).cell? ⟨g2, 2, none⟩ = some (.slice none 0 0) := blk_cell HX2.out 2
      have x3 : (w3).cell? ⟨g2, 3, none⟩ = some (.slice none 0 0) := blk_cell HX2.out 3
      have z0 : (w3).cell? ⟨w.heap.size, 0, none⟩ = some (.int .i64 0) := blk_cell HZ2.out 0
      have z1 : (w3).cell? ⟨w.heap.size, 1, none⟩ = some (.slice none 0 0) := blk_cell HZ2.out 1
      have z2 : (w3).cell? ⟨w.heap.size, 2, none⟩ = some (.slice none 0 0) := blk_cell HZ2.out 2
      have z3 : (w3).cell? ⟨w.heap.size, 3, none⟩ = some (.slice none 0 0) := blk_cell HZ2.out 3
      have f0 := blk_frozen HZ2.out 0
      have f1 := blk_frozen HZ2.out 1
      have f2 := blk_frozen HZ2.out 2
      have f3 := blk_frozen HZ2.out 3
      by_cases c2 : 0 = kd
      · have b1 : ((0 : Int) != kd) = false := by simpa using c2
        clear c2
        go_wp2_with fail
        refine bodyPost_ret (v := .tuple #[.agg #[.int .i64 0, .slice none 0 0, .slice none 0 0, .slice none 0 0], .bool false]) (by simp [results, Try.results78, go_sem, z0, z1, z2, z3]) rfl ?_
        exact ⟨⟨.slice none 0 0, .slice none 0 0, .slice none 0 0, by rw [HAV.out, HT.out]; rfl, fun h => by rw [HT.out] at h; cases h⟩, by first | exact HB2.out | exact below_set4 HB2.out (Nat.le_refl _) _ _ _ _⟩
      · have b1 : ((0 : Int) != kd) = true := by simpa using c2
        clear c2
        go_wp2_with fail
        refine bodyPost_ret (v := .tuple #[.agg #[.int .i64 0, .slice none 0 0, .slice none 0 0, .slice none 0 0], .bool false]) (by simp [results, Try.results78, go_sem, z0, z1, z2, z3]) rfl ?_
        exact ⟨⟨.slice none 0 0, .slice none 0 0, .slice none 0 0, by rw [HAV.out, HT.out]; rfl, fun h => by rw [HT.out] at h; cases h⟩, by first | exact HB2.out | exact below_set4 HB2.out (Nat.le_refl _) _ _ _ _⟩
  · have HT := Aside0.mk (show atB H B p kd = false by rw [HAB.out, decide_eq_false c1]; rfl)
    have z0 : (w0).cell? ⟨w.heap.size, 0, none⟩ = some (.int .i64 0) := blk_cell HZ.out 0
    have z1 : (w0).cell? ⟨w.heap.size, 1, none⟩ = some (.slice none 0 0) := blk_cell HZ.out 1
    have z2 : (w0).cell? ⟨w.heap.size, 2, none⟩ = some (.slice none 0 0) := blk_cell HZ.out 2
    have z3 : (w0).cell? ⟨w.heap.size, 3, none⟩ = some (.slice none 0 0) := blk_cell HZ.out 3
    have f0 := blk_frozen HZ.out 0
    have f1 := blk_frozen HZ.out 1
    have f2 := blk_frozen HZ.out 2
    have f3 := blk_frozen HZ.out 3
    clear hcp
    go_wp2_with fail
    refine bodyPost_ret (v := .tuple #[.agg #[.int .i64 0, .slice none 0 0, .slice none 0 0, .slice none 0 0], .bool false]) (by simp [results, Try.results78, go_sem, z0, z1, z2, z3]) rfl ?_
    exact ⟨⟨.slice none 0 0, .slice none 0 0, .slice none 0 0, by rw [HAV.out, HT.out]; rfl, fun h => by rw [HT.out] at h; cases h⟩, by first | exact HB.out | exact below_set4 HB.out (Nat.le_refl _) _ _ _ _⟩
/-- Words taken back. -/
def zeroW (B : List Int) (ws : List Int) : List Int := ws.foldl (fun b a => splice b a.toNat (List.replicate 8 0)) B
theorem zeroW_snoc (B ws : List Int) (k : Nat) (h : k < ws.length) : zeroW B (ws.take (k + 1)) = splice (zeroW B (ws.take k)) (ws.getD k 0).toNat (List.replicate 8 0) := by
  rw [zeroW, List.take_add_one, List.getElem?_eq_getElem h, List.foldl_append, List.getD_eq_getElem?_getD, List.getElem?_eq_getElem h]
  rfl
theorem zeroW_len (B : List Int) : ∀ (ws : List Int), (∀ x ∈ ws, 0 ≤ x ∧ x + 8 ≤ B.length) → (zeroW B ws).length = B.length := by
  intro ws
  induction ws generalizing B with
  | nil => intro _; rfl
  | cons x ws ih =>
    intro h
    have hx := h x (by simp)
    have hs : (splice B x.toNat (List.replicate 8 0)).length = B.length := length_splice _ _ _ (by simp; omega)
    rw [zeroW, List.foldl_cons, ← zeroW, ih _ (fun y hy => by rw [hs]; exact h y (by simp [hy])), hs]
theorem OwnO.pre {α : Type} {enc : α → Value} {W : World} {base e b o n c : Nat} {xs : List α} (h : OwnO enc W base e (.slice (some ⟨b, o, none⟩) n c) xs) (k : Nat) (hk : k ≤ n) : OwnO enc W base e (.slice (some ⟨b, o, none⟩) k c) (xs.take k) := by
  rcases h with ⟨hv, _⟩ | ⟨g, o', cap, cur, hv, hb, hg, hn, hm, hs, ht⟩
  · cases hv
  · simp only [Value.slice.injEq, Option.some.injEq, Addr.mk.injEq] at hv
    obtain ⟨⟨rfl, rfl, _⟩, rfl, rfl⟩ := hv
    have hl : (xs.take k).length = k := by rw [List.length_take]; omega
    refine .inr ⟨b, o, c, cur, by rw [hl], hb, hg, by omega, hm, hs, ?_⟩
    rw [hl, encs, List.map_take, ← encs, ← ht, List.take_take, Nat.min_eq_left hk]
theorem slice_upto (b o n c q : Nat) (hq : q ≤ c) (W : World) : (Instr.slice 22 (.slice (some ⟨b, o, none⟩) n c) none (some (.int .i64 (q : Int))) none).run Try.prog W = .ok (.slice (some ⟨b, o, none⟩) q c) W := by
  have hinfo := infoU8
  obtain ⟨i, hi, hzz⟩ := Option.map_eq_some_iff.1 hinfo
  simp only [Prod.mk.injEq] at hzz
  have hel : Try.prog.elem 22 = 5 := by simp [Program.elem, Try.underlying22]
  have hu : Try.prog.underlying 22 = some (.slice (Try.prog.elem 22)) := by rw [hel]; exact Try.underlying22
  rw [run_slice_h W 22 (some ⟨b, o, none⟩) n c hu .i64 (q : Int) (Int.natCast_nonneg _) (by omega), hel]
  simp [sizeOf, typeInfo, hi, hzz.2.1, sliced, Result.andThen, Addr.add]
set_option maxHeartbeats 8000000 in
set_option maxRecDepth 100000 in
theorem Back_calls (g base : Nat) (H : Hd) (B : List Int) (lim fr : Int) (ws : List Int) (F : Nat → Prop) (vb vw : Value) (w : World) (hI : Im w g base H B lim fr ws F vb vw) (n : Nat) (hn : B.length = n) (hl : n ≤ 100000) (q : Nat) (hq : fr = (q : Int)) (hqn : q ≤ n) (hws : ∀ x ∈ ws, 192 ≤ x ∧ x + 8 ≤ (n : Int)) (hwl : ws.length ≤ 1000000) (hn0 : 0 < n) : Calls Try.prog 54 #[.pointer (some ⟨g, 0, none⟩)] w fun e w' => e = .returned (.tuple #[]) ∧ ImS w w' g base H ((zeroW B ws).take q) lim fr [] F := by
  subst hq
  obtain ⟨b, o, c, ev, hnc, hbb⟩ := hI.b.form (by omega)
  rw [hn] at ev hnc
  subst ev
  have HI := Aside0.mk hI
  obtain ⟨wl, hwn⟩ : ∃ k, ws.length = k := ⟨_, rfl⟩
  obtain ⟨A1, c1, ev, _, _⟩ := hI.w.sl hwn
  have HWF := Aside0.mk (show vw = .slice A1 wl c1 from ev)
  have HEV := Aside0.mk ev
  subst ev
  have HWS := Aside0.mk hws
  have HWN := Aside0.mk hwn
  have HN := Aside0.mk hn
  have HWR := Aside0.mk (show ∀ w1 : World, OwnO (Value.int .i64) w1 base 3 (.slice A1 wl c1) ws → RdE (Value.int .i64) (0 : Int) w1 (.slice A1 wl c1) ws from fun w1 h => h.rdE 0)
  rw [hwn] at hwl
  clear hI hn hws hwn
  have r0 : (w).cell? ⟨g, 0, none⟩ = some (.int .u64 H.id) := blk_cell HI.out.blk 0
  have r1 : (w).cell? ⟨g, 1, none⟩ = some (.int .u64 H.key) := blk_cell HI.out.blk 1
  have r2 : (w).cell? ⟨g, 2, none⟩ = some (.int .i64 H.data) := blk_cell HI.out.blk 2
  have r3 : (w).cell? ⟨g, 3, none⟩ = some (.int .i64 H.fields) := blk_cell HI.out.blk 3
  have r4 : (w).cell? ⟨g, 4, none⟩ = some (.int .u64 H.made) := blk_cell HI.out.blk 4
  have r5 : (w).cell? ⟨g, 5, none⟩ = some ((.slice (some ⟨b, o, none⟩) n c)) := blk_cell HI.out.blk 5
  have r6 : (w).cell? ⟨g, 6, none⟩ = some (.int .i64 lim) := blk_cell HI.out.blk 6
  have r7 : (w).cell? ⟨g, 7, none⟩ = some (.int .i64 (q : Int)) := blk_cell HI.out.blk 7
  have r8 : (w).cell? ⟨g, 8, none⟩ = some ((.slice A1 wl c1)) := blk_cell HI.out.blk 8
  go_enter Try.func54, Try.ntmps54
  go_upto_block 0 with (fail)
  go_cut [] (fun wx => Aside0 (Im wx g base H (zeroW B ws) lim (q : Int) ws F (.slice (some ⟨b, o, none⟩) n c) (.slice A1 wl c1)) ∧ Aside0 (Kp F w wx))
  case first =>
    go_wp2_with fail
    go_loopw [11] (fun v11 w' => ∃ k : Nat, k ≤ wl ∧ v11 = .int .i64 k ∧ Aside0 (Im w' g base H (zeroW B (ws.take k)) lim (q : Int) ws F (.slice (some ⟨b, o, none⟩) n c) (.slice A1 wl c1)) ∧ Aside0 (Kp F w w')) (fun v11 _ => wl - (intOf v11).toNat)
    case atStart => exact ⟨0, by omega, rfl, by rw [List.take_zero]; exact HI, ⟨Kp.refl _ _⟩⟩
    case round =>
      obtain ⟨k, hk, rfl, HIK, HKK⟩ := hrel
      by_cases c2 : k < wl
      · obtain ⟨ad, eA, hce⟩ := rdE_at (HWR.out _ HIK.out.w) k (by rw [HWN.out]; exact c2)
        have hx := HWS.out (ws.getD k 0) (by rw [List.getD_eq_getElem?_getD, List.getElem?_eq_getElem (by rw [HWN.out]; exact c2)]; exact List.getElem_mem _)
        have hsn := zeroW_snoc B ws k (by rw [HWN.out]; exact c2)
        cases eA
        obtain ⟨j, hj⟩ : ∃ j : Nat, ws.getD k 0 = (j : Int) := Int.eq_ofNat_of_zero_le (by omega)
        rw [hj] at hce hx hsn
        rw [Int.toNat_natCast] at hsn
        have HSN := Aside0.mk hsn
        obtain ⟨hx1, hx2⟩ := hx
        have hsl := slice_from b o n c j (by omega) (by omega)
        have hmk : ∀ W : World, (Instr.makeSlice 22 (.int .i64 8) (.int .i64 8)).run Try.prog W = .ok (.slice (some ⟨W.heap.size, 0, none⟩) 8 8) (W.alloc (.cells (nums .u8 (List.replicate 8 0)).toArray 5)) := fun _ => by kernel_rfl
        obtain ⟨zs, hzs⟩ : ∃ zs, (nums .u8 (List.replicate 8 0)).toArray = zs := ⟨_, rfl⟩
        have HRZ := Aside0.mk (fun (W : World) => Rd.lit W .u8 5 (List.replicate 8 0) (by simp))
        rw [hzs] at hmk HRZ
        clear hj hsn hzs
        have r0 : (wr).cell? ⟨g, 0, none⟩ = some (.int .u64 H.id) := blk_cell HIK.out.blk 0
        have r1 : (wr).cell? ⟨g, 1, none⟩ = some (.int .u64 H.key) := blk_cell HIK.out.blk 1
        have r2 : (wr).cell? ⟨g, 2, none⟩ = some (.int .i64 H.data) := blk_cell HIK.out.blk 2
        have r3 : (wr).cell? ⟨g, 3, none⟩ = some (.int .i64 H.fields) := blk_cell HIK.out.blk 3
        have r4 : (wr).cell? ⟨g, 4, none⟩ = some (.int .u64 H.made) := blk_cell HIK.out.blk 4
        have r5 : (wr).cell? ⟨g, 5, none⟩ = some ((.slice (some ⟨b, o, none⟩) n c)) := blk_cell HIK.out.blk 5
        have r6 : (wr).cell? ⟨g, 6, none⟩ = some (.int .i64 lim) := blk_cell HIK.out.blk 6
        have r7 : (wr).cell? ⟨g, 7, none⟩ = some (.int .i64 (q : Int)) := blk_cell HIK.out.blk 7
        have r8 : (wr).cell? ⟨g, 8, none⟩ = some ((.slice (some ad) wl c1)) := blk_cell HIK.out.blk 8
        go_upto_region 4 with fail
        refine start_ (n := 8) (S := fun w' => w'.cell? ⟨g, 5, none⟩ = some (.slice (some ⟨b, o, none⟩) n c)) (ds := [7]) #[false,false,false,false,false,false,false,false] (by kernel_rfl) rfl rfl (r5) (fun hHeld => ?_)
        refine pure_ (i := 0) (N := some 15) (v := ?_) (a' := ?_) #[true,false,false,false,false,false,false,false] rfl rfl (by kernel_rfl) (fun _ _ _ h => h) (Or.inl ⟨by rfl, ?_⟩) ?_ ?_
        rotate_left
        · intro w'
          go_simp
          with_reducible rfl
        rotate_left
        · simp only [Act.put, List.setIfInBounds_toArray, List.set_cons_zero, List.set_cons_succ, i64_w, i32_w]
          rfl
        refine pure_ (i := 1) (N := some 16) (v := ?_) (a' := ?_) #[true,true,false,false,false,false,false,false] rfl rfl (by kernel_rfl) (fun _ _ _ h => h) (Or.inl ⟨by rfl, ?_⟩) ?_ ?_
        rotate_left
        · intro w'
          go_simp
          with_reducible rfl
        rotate_left
        · simp only [Act.put, List.setIfInBounds_toArray, List.set_cons_zero, List.set_cons_succ, i64_w, i32_w]
          rfl
        refine pure_ (i := 2) (N := some 17) (v := ?_) (a' := ?_) #[true,true,true,false,false,false,false,false] rfl rfl (by kernel_rfl) (fun _ _ _ h => h) (Or.inl ⟨by rfl, ?_⟩) ?_ ?_
        rotate_left
        · intro w'
          go_simp
          with_reducible rfl
        rotate_left
        · simp only [Act.put, List.setIfInBounds_toArray, List.set_cons_zero, List.set_cons_succ, i64_w, i32_w]
          rfl
        refine pure_ (i := 4) (N := some 19) (v := ?_) (a' := ?_) #[true,true,true,false,true,false,false,false] rfl rfl (by kernel_rfl) (fun _ _ _ h => h) (Or.inl ⟨by rfl, ?_⟩) ?_ ?_
        rotate_left
        · intro w'
          go_simp
          with_reducible rfl
        rotate_left
        · simp only [Act.put, List.setIfInBounds_toArray, List.set_cons_zero, List.set_cons_succ, i64_w, i32_w]
          rfl
        refine take_ (i := 3) (N := some 18) (v := ?_) (a' := ?_) #[true,true,true,true,true,false,false,false] rfl rfl (by kernel_rfl) (fun _ _ _ h => h) (Or.inl ⟨by rfl, ?_⟩) hHeld ?_ ?_
        rotate_left
        · intro w' s0
          go_simp
          with_reducible rfl
        rotate_left
        · simp only [Act.put, List.setIfInBounds_toArray, List.set_cons_zero, List.set_cons_succ, i64_w, i32_w]
          rfl
        refine pure_ (i := 5) (N := some 20) (v := ?_) (a' := ?_) #[true,true,true,true,true,true,false,false] rfl rfl (by kernel_rfl) (fun _ _ _ h => h) (Or.inl ⟨by rfl, ?_⟩) ?_ ?_
        rotate_left
        · intro w'
          go_simp
          with_reducible rfl
        rotate_left
        · simp only [Act.put, List.setIfInBounds_toArray, List.set_cons_zero, List.set_cons_succ, i64_w, i32_w]
          rfl
        refine one_ (i := 6) (N := some 21) #[true,true,true,true,true,true,true,false] rfl rfl (by kernel_rfl) (by decide) (fun K hK => ?_)
        refine value_ (w1 := ?_) (v := ?_) (by rfl) rfl ?_ ?_
        rotate_left 2
        · go_simp
          constructor
          · rfl
          · rfl
        refine hK.out _ _ ((pw_cell_below (below_alloc (Below.refl _ _) _) hHeld)) (fun hHeld => ?_)
        clear hK K
        refine norm_ (a' := ?_) ?_ ?_
        rotate_left
        · show Act.put _ (some 21) _ = _
          simp only [Act.put, List.setIfInBounds_toArray, List.set_cons_zero, List.set_cons_succ, i64_w, i32_w]
          rfl
        refine last_ (i := 7) (N := some 22) #[true,true,true,true,true,true,true,true] rfl rfl (by kernel_rfl) (by decide) (fun K hK => ?_)
        have hbw : Below wr.heap.size wr ((wr.alloc (.cells zs 5)).drew) := below_drew (below_alloc (Below.refl _ _) _)
        have hi2 := HIK.out.below hbw
        obtain ⟨ad2, c2', e2, hc2⟩ := rd_slice ((HRZ.out wr).below (below_drew (Below.refl _ _))) List.length_replicate (by omega)
        cases e2
        refine copyO_step (by rfl) (.tmp 20) (.tmp 21) (by rfl) Try.underlying22 (by kernel_rfl) hi2.b rfl rfl (List.replicate 8 0) List.length_replicate (show 8 = Nat.min 8 (n - j) from (Nat.min_eq_left (by omega)).symm) hc2 (by omega) ?_
        intro w3 ho3 hk3
        refine hK.out _ _ ?_
        clear hK K
        refine norm_ (a' := ?_) ?_ ?_
        rotate_left
        · show Act.put _ (some 22) _ = _
          simp only [Act.put, List.setIfInBounds_toArray, List.set_cons_zero, List.set_cons_succ, i64_w, i32_w]
          rfl
        refine done_ (by kernel_rfl) ?_
        have hgb : g ≠ b := fun e => hi2.b_ne (by rw [e]; rfl)
        have hIN : Im w3 g base H (zeroW B (ws.take (k + 1))) lim (q : Int) ws F (.slice (some ⟨b, o, none⟩) n c) (.slice (some ad) wl c1) := by
          rw [HSN.out]
          refine ⟨hk3.blk hi2.blk hgb, ho3, hi2.w.kp hk3 (fun k hk e => ?_), hi2.2.2.2.1, hi2.2.2.2.2.1, hi2.2.2.2.2.2.1, fun k hk => ⟨hi2.ge hk, Nat.lt_of_lt_of_le (hi2.lt hk) hk3.size⟩⟩
          subst e
          exact hi2.w.apart hi2.b (by decide) k hk rfl
        have HIN := Aside0.mk hIN
        have HKN := Aside0.mk ((HKK.out.below hbw).trans hk3 (fun k hk => .inl (by rw [hk]; exact HI.out.2.2.2.2.1 b rfl)))
        clear hIN hgb hk3 ho3 hi2 hbw hc2 r0 r1 r2 r3 r4 r5 r6 r7 r8 hsl hmk
        go_wp2_with fail
        go_roundw
        case rel => exact ⟨k + 1, by omega, by go_num, HIN, HKN⟩
        case measure => simp [intOf] <;> omega
      · obtain rfl : k = wl := by omega
        go_wp2_with fail
        go_meet
        have h := HIK.out
        rw [List.take_of_length_le (by rw [HWN.out]; exact Nat.le_refl _)] at h
        exact ⟨⟨h⟩, HKK⟩
  case rest =>
  obtain ⟨HIK, HKK⟩ := hcut
  have hsl2 := slice_upto b o n c q (by omega)
  clear r0 r1 r2 r3 r4 r5 r6 r7 r8
  have r0 : (wc).cell? ⟨g, 0, none⟩ = some (.int .u64 H.id) := blk_cell HIK.out.blk 0
  have r1 : (wc).cell? ⟨g, 1, none⟩ = some (.int .u64 H.key) := blk_cell HIK.out.blk 1
  have r2 : (wc).cell? ⟨g, 2, none⟩ = some (.int .i64 H.data) := blk_cell HIK.out.blk 2
  have r3 : (wc).cell? ⟨g, 3, none⟩ = some (.int .i64 H.fields) := blk_cell HIK.out.blk 3
  have r4 : (wc).cell? ⟨g, 4, none⟩ = some (.int .u64 H.made) := blk_cell HIK.out.blk 4
  have r5 : (wc).cell? ⟨g, 5, none⟩ = some ((.slice (some ⟨b, o, none⟩) n c)) := blk_cell HIK.out.blk 5
  have r6 : (wc).cell? ⟨g, 6, none⟩ = some (.int .i64 lim) := blk_cell HIK.out.blk 6
  have r7 : (wc).cell? ⟨g, 7, none⟩ = some (.int .i64 (q : Int)) := blk_cell HIK.out.blk 7
  have r8 : (wc).cell? ⟨g, 8, none⟩ = some ((.slice A1 wl c1)) := blk_cell HIK.out.blk 8
  have f0 := blk_frozen HIK.out.blk 0
  have f1 := blk_frozen HIK.out.blk 1
  have f2 := blk_frozen HIK.out.blk 2
  have f3 := blk_frozen HIK.out.blk 3
  have f4 := blk_frozen HIK.out.blk 4
  have f5 := blk_frozen HIK.out.blk 5
  have f6 := blk_frozen HIK.out.blk 6
  have f7 := blk_frozen HIK.out.blk 7
  have f8 := blk_frozen HIK.out.blk 8
  go_upto_region 6 with fail
  refine start_ (n := 17) (S := fun w' => w'.cell? ⟨g, 5, none⟩ = some (.slice (some ⟨b, o, none⟩) n c) ∧ w'.cell? ⟨g, 7, none⟩ = some (.int .i64 (q : Int)) ∧ w'.cell? ⟨g, 8, none⟩ = some (.slice A1 wl c1)) (ds := [13, 16]) #[false,false,false,false,false,false,false,false,false,false,false,false,false,false,false,false,false] (by kernel_rfl) rfl rfl ⟨r5, r7, r8⟩ (fun hHeld => ?_)
  refine pure_ (i := 0) (N := some 24) (v := ?_) (a' := ?_) #[true,false,false,false,false,false,false,false,false,false,false,false,false,false,false,false,false] rfl rfl (by kernel_rfl) (fun _ _ _ h => h) (Or.inl ⟨by rfl, ?_⟩) ?_ ?_
  rotate_left
  · intro w'
    go_simp
    with_reducible rfl
  rotate_left
  · simp only [Act.put, List.setIfInBounds_toArray, List.set_cons_zero, List.set_cons_succ, i64_w, i32_w]
    rfl
  refine pure_ (i := 1) (N := some 25) (v := ?_) (a' := ?_) #[true,true,false,false,false,false,false,false,false,false,false,false,false,false,false,false,false] rfl rfl (by kernel_rfl) (fun _ _ _ h => h) (Or.inl ⟨by rfl, ?_⟩) ?_ ?_
  rotate_left
  · intro w'
    go_simp
    with_reducible rfl
  rotate_left
  · simp only [Act.put, List.setIfInBounds_toArray, List.set_cons_zero, List.set_cons_succ, i64_w, i32_w]
    rfl
  refine pure_ (i := 2) (N := some 26) (v := ?_) (a' := ?_) #[true,true,true,false,false,false,false,false,false,false,false,false,false,false,false,false,false] rfl rfl (by kernel_rfl) (fun _ _ _ h => h) (Or.inl ⟨by rfl, ?_⟩) ?_ ?_
  rotate_left
  · intro w'
    go_simp
    with_reducible rfl
  rotate_left
  · simp only [Act.put, List.setIfInBounds_toArray, List.set_cons_zero, List.set_cons_succ, i64_w, i32_w]
    rfl
  refine pure_ (i := 3) (N := some 27) (v := ?_) (a' := ?_) #[true,true,true,true,false,false,false,false,false,false,false,false,false,false,false,false,false] rfl rfl (by kernel_rfl) (fun _ _ _ h => h) (Or.inl ⟨by rfl, ?_⟩) ?_ ?_
  rotate_left
  · intro w'
    go_simp
    with_reducible rfl
  rotate_left
  · simp only [Act.put, List.setIfInBounds_toArray, List.set_cons_zero, List.set_cons_succ, i64_w, i32_w]
    rfl
  refine pure_ (i := 4) (N := some 28) (v := ?_) (a' := ?_) #[true,true,true,true,true,false,false,false,false,false,false,false,false,false,false,false,false] rfl rfl (by kernel_rfl) (fun _ _ _ h => h) (Or.inl ⟨by rfl, ?_⟩) ?_ ?_
  rotate_left
  · intro w'
    go_simp
    with_reducible rfl
  rotate_left
  · simp only [Act.put, List.setIfInBounds_toArray, List.set_cons_zero, List.set_cons_succ, i64_w, i32_w]
    rfl
  refine pure_ (i := 6) (N := some 30) (v := ?_) (a' := ?_) #[true,true,true,true,true,false,true,false,false,false,false,false,false,false,false,false,false] rfl rfl (by kernel_rfl) (fun _ _ _ h => h) (Or.inl ⟨by rfl, ?_⟩) ?_ ?_
  rotate_left
  · intro w'
    go_simp
    with_reducible rfl
  rotate_left
  · simp only [Act.put, List.setIfInBounds_toArray, List.set_cons_zero, List.set_cons_succ, i64_w, i32_w]
    rfl
  refine pure_ (i := 7) (N := some 31) (v := ?_) (a' := ?_) #[true,true,true,true,true,false,true,true,false,false,false,false,false,false,false,false,false] rfl rfl (by kernel_rfl) (fun _ _ _ h => h) (Or.inl ⟨by rfl, ?_⟩) ?_ ?_
  rotate_left
  · intro w'
    go_simp
    with_reducible rfl
  rotate_left
  · simp only [Act.put, List.setIfInBounds_toArray, List.set_cons_zero, List.set_cons_succ, i64_w, i32_w]
    rfl
  refine pure_ (i := 8) (N := some 32) (v := ?_) (a' := ?_) #[true,true,true,true,true,false,true,true,true,false,false,false,false,false,false,false,false] rfl rfl (by kernel_rfl) (fun _ _ _ h => h) (Or.inl ⟨by rfl, ?_⟩) ?_ ?_
  rotate_left
  · intro w'
    go_simp
    with_reducible rfl
  rotate_left
  · simp only [Act.put, List.setIfInBounds_toArray, List.set_cons_zero, List.set_cons_succ, i64_w, i32_w]
    rfl
  refine take_ (i := 5) (N := some 29) (v := ?_) (a' := ?_) #[true,true,true,true,true,true,true,true,true,false,false,false,false,false,false,false,false] rfl rfl (by kernel_rfl) (fun _ _ _ h => h) (Or.inl ⟨by rfl, ?_⟩) hHeld ?_ ?_
  rotate_left
  · rintro w' ⟨s0, s1, s2⟩
    go_simp
    with_reducible rfl
  rotate_left
  · simp only [Act.put, List.setIfInBounds_toArray, List.set_cons_zero, List.set_cons_succ, i64_w, i32_w]
    rfl
  refine take_ (i := 9) (N := some 33) (v := ?_) (a' := ?_) #[true,true,true,true,true,true,true,true,true,true,false,false,false,false,false,false,false] rfl rfl (by kernel_rfl) (fun _ _ _ h => h) (Or.inl ⟨by rfl, ?_⟩) hHeld ?_ ?_
  rotate_left
  · rintro w' ⟨s0, s1, s2⟩
    go_simp
    with_reducible rfl
  rotate_left
  · simp only [Act.put, List.setIfInBounds_toArray, List.set_cons_zero, List.set_cons_succ, i64_w, i32_w]
    rfl
  refine pure_ (i := 10) (N := some 34) (v := ?_) (a' := ?_) #[true,true,true,true,true,true,true,true,true,true,true,false,false,false,false,false,false] rfl rfl (by kernel_rfl) (fun _ _ _ h => h) (Or.inl ⟨by rfl, ?_⟩) ?_ ?_
  rotate_left
  · intro w'
    go_simp
    with_reducible rfl
  rotate_left
  · simp only [Act.put, List.setIfInBounds_toArray, List.set_cons_zero, List.set_cons_succ, i64_w, i32_w]
    rfl
  refine pure_ (i := 11) (N := some 35) (v := ?_) (a' := ?_) #[true,true,true,true,true,true,true,true,true,true,true,true,false,false,false,false,false] rfl rfl (by kernel_rfl) (fun _ _ _ h => h) (Or.inl ⟨by rfl, ?_⟩) ?_ ?_
  rotate_left
  · intro w'
    go_simp
    with_reducible rfl
  rotate_left
  · simp only [Act.put, List.setIfInBounds_toArray, List.set_cons_zero, List.set_cons_succ, i64_w, i32_w]
    rfl
  refine pure_ (i := 12) (N := some 36) (v := ?_) (a' := ?_) #[true,true,true,true,true,true,true,true,true,true,true,true,true,false,false,false,false] rfl rfl (by kernel_rfl) (fun _ _ _ h => h) (Or.inl ⟨by rfl, ?_⟩) ?_ ?_
  rotate_left
  · intro w'
    go_simp
    with_reducible rfl
  rotate_left
  · simp only [Act.put, List.setIfInBounds_toArray, List.set_cons_zero, List.set_cons_succ, i64_w, i32_w]
    rfl
  refine last_ (i := 13) (N := none) #[true,true,true,true,true,true,true,true,true,true,true,true,true,true,false,false,false] rfl rfl (by kernel_rfl) (by decide) (fun K hK => ?_)
  refine skip_ (w1 := ?_) (by rfl) rfl ?_ ?_
  rotate_left
  · go_simp
    rfl
  refine hK.out _ _ ?_
  clear hK K
  refine pure_ (i := 14) (N := some 37) (v := ?_) (a' := ?_) #[true,true,true,true,true,true,true,true,true,true,true,true,true,true,true,false,false] rfl rfl (by kernel_rfl) (fun _ _ _ h => h) (Or.inl ⟨by rfl, ?_⟩) ?_ ?_
  rotate_left
  · intro w'
    go_simp
    with_reducible rfl
  rotate_left
  · simp only [Act.put, List.setIfInBounds_toArray, List.set_cons_zero, List.set_cons_succ, i64_w, i32_w]
    rfl
  refine pure_ (i := 15) (N := some 38) (v := ?_) (a' := ?_) #[true,true,true,true,true,true,true,true,true,true,true,true,true,true,true,true,false] rfl rfl (by kernel_rfl) (fun _ _ _ h => h) (Or.inl ⟨by rfl, ?_⟩) ?_ ?_
  rotate_left
  · intro w'
    go_simp
    with_reducible rfl
  rotate_left
  · simp only [Act.put, List.setIfInBounds_toArray, List.set_cons_zero, List.set_cons_succ, i64_w, i32_w]
    rfl
  refine last_ (i := 16) (N := none) #[true,true,true,true,true,true,true,true,true,true,true,true,true,true,true,true,true] rfl rfl (by kernel_rfl) (by decide) (fun K hK => ?_)
  refine skip_ (w1 := ?_) (by rfl) rfl ?_ ?_
  rotate_left
  · go_simp
    rfl
  refine hK.out _ _ ?_
  clear hK K
  refine done_ (by kernel_rfl) ?_
  go_wp2_with fail
  go_end0
  have hk : Kp F w (((wc.setCell ⟨g, 5, none⟩ (.slice (some ⟨b, o, none⟩) q c)).setCell ⟨g, 8, none⟩ (.slice none 0 0)).drew) := Kp.drew ((HKK.out.trans (Kp.set wc ⟨g, 5, none⟩ _) (fun k hk => .inl (by rw [hk]; exact HI.out.2.2.2.1))).trans (Kp.set _ ⟨g, 8, none⟩ _) (fun k hk => .inl (by rw [hk]; exact HI.out.2.2.2.1)))
  refine ⟨rfl, ImS.of (vb' := .slice (some ⟨b, o, none⟩) q c) (vw' := .slice none 0 0) HI.out hk ?_ ?_ (OwnO.nil _ _ _ _) (fun k hk => .inl (HI.out.2.2.2.2.1 k hk)) (fun k hk => by cases hk)⟩
  · refine blk_drew ?_
    simpa [imA] using blk_set (blk_set HIK.out.blk 5 (.slice (some ⟨b, o, none⟩) q c)) 8 (.slice none 0 0)
  · refine (HIK.out.b.pre q hqn).move (fun k hk => ?_)
    exact (Below.heap_setCell _ ⟨g, 8, none⟩ _ k (fun e => HIK.out.b_ne (by rw [show (Value.slice (some (⟨b, o, none⟩ : Addr)) n c).ownBlock = some b from rfl]; rw [show (Value.slice (some (⟨b, o, none⟩ : Addr)) q c).ownBlock = some b from rfl] at hk; rw [hk, e]))).trans (Below.heap_setCell _ ⟨g, 5, none⟩ _ k (fun e => HIK.out.b_ne (by rw [show (Value.slice (some (⟨b, o, none⟩ : Addr)) n c).ownBlock = some b from rfl]; rw [show (Value.slice (some (⟨b, o, none⟩ : Addr)) q c).ownBlock = some b from rfl] at hk; rw [hk, e])))
end Go.Proofs.Ytigdchfjcfljjaa
end
section
/- Images: Change. -/
namespace Go.Proofs.Ytigdchfjcfljjaa
open Go.RowKit Go.Proofs.YtigdchfjcfljjaaW.PrintWords Go.Proofs.YtigdchfjcfljjaaW.PrintLast Go.Proofs.YtigdchfjcfljjaaW.PrintMore
attribute [local go_sem] max2_int min2_int max_two min_two max_three min_three max_four min_four
/-- A row of patches: a place and a slice each. -/
def pcs (ps : List (Int × Value)) : List Value := ps.flatMap fun p => [.int .i64 p.1, p.2]
def PRow (W : World) (base : Nat) (v : Value) (ps : List (Int × Value)) : Prop := W.ownsRow base 91 2 v ps.length (pcs ps)
theorem pcs_len (ps : List (Int × Value)) : (pcs ps).length = ps.length * 2 := by
  induction ps with
  | nil => rfl
  | cons p ps ih => rw [pcs, List.flatMap_cons, List.length_append, ← pcs, ih, List.length_cons]; simp; omega
theorem pcs_app (ps qs : List (Int × Value)) : pcs (ps ++ qs) = pcs ps ++ pcs qs := by rw [pcs, List.flatMap_append]; rfl
theorem PRow.nil (W : World) (base : Nat) : PRow W base (.slice none 0 0) [] := ⟨rfl, .inl ⟨rfl, rfl⟩⟩
theorem PRow.move {W W' : World} {base : Nat} {v : Value} {ps : List (Int × Value)} (h : PRow W base v ps) (hm : ∀ k, v.ownBlock = some k → W'.heap[k]? = W.heap[k]?) : PRow W' base v ps := by
  obtain ⟨hl, h⟩ := h
  refine ⟨hl, h.imp id ?_⟩
  rintro ⟨g, cap, cur, rfl, hb, hg, r⟩
  exact ⟨g, cap, cur, rfl, hb, (hm g rfl).trans hg, r⟩
theorem PRow.lt {W : World} {base : Nat} {v : Value} {ps : List (Int × Value)} (h : PRow W base v ps) {k : Nat} (hk : v.ownBlock = some k) : base ≤ k ∧ k < W.heap.size := by
  rcases h.2 with ⟨rfl, _⟩ | ⟨g, cap, cur, rfl, hb, hg, r⟩
  · cases hk
  · injection hk with hk
    subst hk
    exact ⟨hb, blk_lt hg⟩
theorem PRow.below {W W' : World} {base : Nat} {v : Value} {ps : List (Int × Value)} (h : PRow W base v ps) (hb : Below W.heap.size W W') : PRow W' base v ps := h.move fun k hk => hb.block k (h.lt hk).2
theorem PRow.ne {W : World} {base : Nat} {v : Value} {ps : List (Int × Value)} (h : PRow W base v ps) {g t : Nat} {cs : Array Value} (hg : W.heap[g]? = some (.cells cs t (0, 0))) (hne : 91 ≠ t) : v.ownBlock ≠ some g := fun hk => by
  rcases h.2 with ⟨rfl, _⟩ | ⟨g', cap, cur, rfl, hb, hg', r⟩
  · cases hk
  · injection hk with hk
    rw [show g' = g from hk] at hg'
    rw [hg] at hg'
    injection hg' with e
    injection e with _ e
    exact hne e.symm
theorem PRow.slice {W : World} {base : Nat} {v : Value} {ps : List (Int × Value)} (h : PRow W base v ps) {k : Nat} (hk : ps.length = k) : ∃ A c, v = .slice A k c := by
  subst hk
  rcases h.2 with ⟨rfl, h0⟩ | ⟨g, cap, cur, rfl, _⟩
  · exact ⟨none, 0, by rw [h0]⟩
  · exact ⟨_, _, rfl⟩
theorem PRow.cells {W : World} {base : Nat} {A : Option Addr} {n c : Nat} {ps : List (Int × Value)} (h : PRow W base (.slice A n c) ps) (i : Nat) (hi : i < ps.length) : ∃ ad, A = some ad ∧ W.cell? (ad.add (2 * i)) = some (.int .i64 (ps.getD i (0, .slice none 0 0)).1) ∧ W.cell? (ad.add (2 * i + 1)) = some (ps.getD i (0, .slice none 0 0)).2 := by
  obtain ⟨hl, h⟩ := h
  rcases h with ⟨_, h0⟩ | ⟨g, cap, cur, hv, hb, hg, hn, hm, hs, ht⟩
  · omega
  · simp only [Value.slice.injEq] at hv
    obtain ⟨rfl, _, _⟩ := hv
    have key : ∀ (qs : List (Int × Value)) (i : Nat), i < qs.length → (pcs qs)[2 * i]? = some (.int .i64 (qs.getD i (0, .slice none 0 0)).1) ∧ (pcs qs)[2 * i + 1]? = some (qs.getD i (0, .slice none 0 0)).2 := by
      intro qs
      induction qs with
      | nil => intro i hi; simp at hi
      | cons p qs ih =>
        intro i hi
        cases i with
        | zero => exact ⟨rfl, rfl⟩
        | succ i =>
          have := ih i (by simpa using hi)
          rw [List.getD_cons_succ, show 2 * (i + 1) = 2 * i + 2 by omega, show 2 * i + 2 + 1 = (2 * i + 1) + 2 by omega]
          exact this
    obtain ⟨k1, k2⟩ := key ps i hi
    refine ⟨_, rfl, ?_, ?_⟩
    · have e : ((⟨g, 0, none⟩ : Addr).add (2 * i)) = ⟨g, 2 * i, none⟩ := by simp [Addr.add_lit]
      rw [e, World.cell?, hg]
      show cur[2 * i]? = _
      rw [← k1, ← ht, List.getElem?_take_of_lt (by omega), Array.getElem?_toList]
    · have e : ((⟨g, 0, none⟩ : Addr).add (2 * i + 1)) = ⟨g, 2 * i + 1, none⟩ := by simp [Addr.add_lit]
      rw [e, World.cell?, hg]
      show cur[2 * i + 1]? = _
      rw [← k2, ← ht, List.getElem?_take_of_lt (by omega), Array.getElem?_toList]
theorem infoP : (Try.prog.info? 91).map (fun i => (i.zero, i.size, i.bytes)) = some (some (.agg #[.int .i64 0, .slice none 0 0]), 2, 32) := by kernel_rfl
/-- append: a patch more. -/
theorem app_patch {W : World} {base : Nat} {v : Value} {ps : List (Int × Value)} (x : Int) (A0 : Option Addr) (n0 c0 : Nat) {k : Nat} (HO : PRow W base v ps) (hk : ps.length = k) (hbase : base ≤ W.heap.size) (hl : k ≤ 1000000) :
    ∃ A1 c1 w1, (Builtin.append_ #[86, 86] 86 #[v, .slice (some ⟨W.heap.size, 0, none⟩) 1 1]).run Try.prog (W.alloc (.cells #[.int .i64 x, .slice A0 n0 c0] 91)) = .ok (.slice A1 (k + 1) c1) w1 ∧ PRow w1 base (.slice A1 (k + 1) c1) (ps ++ [(x, .slice A0 n0 c0)]) ∧ Kp (fun b => v.ownBlock = some b) W w1 := by
  subst hk
  obtain ⟨i, hi, hzz⟩ := Option.map_eq_some_iff.1 infoP
  simp only [Prod.mk.injEq] at hzz
  obtain ⟨hz0, hz1, hz2⟩ := hzz
  have HW := HO.below (below_alloc (Below.refl _ _) (.cells #[.int .i64 x, .slice A0 n0 c0] 91))
  obtain ⟨v', w', hr, ho, hg, _⟩ := run_append_own (P := Try.prog) (W.alloc (.cells #[.int .i64 x, .slice A0 n0 c0] 91)) base 86 86 91 i (.agg #[.int .i64 0, .slice none 0 0]) 2 32 Try.underlying86 hi hz0 hz1 hz2 rfl (by omega) v ps.length (pcs ps) HW ⟨W.heap.size, 0, none⟩ 1 1 [.int .i64 x, .slice A0 n0 c0] rfl (fun j u hu => by
      match j, hu with
      | 0, hu => simp at hu; subst hu; simp [Addr.add_lit]
      | 1, hu => simp at hu; subst hu; simp [Addr.add_lit]
      | j + 2, hu => simp at hu) (fun u hu => by simp at hu; rcases hu with rfl | rfl <;> rfl) (by unfold maxLen; omega) (by omega) (by simp; omega)
  have ho2 : PRow w' base v' (ps ++ [(x, .slice A0 n0 c0)]) := by
    rw [PRow, pcs_app, List.length_append]
    exact ho
  obtain ⟨A1, c1, rfl⟩ := ho2.slice (by rw [List.length_append])
  exact ⟨A1, c1, w', hr, ho2, (Kp.of_below (below_alloc (Below.refl _ _) _) _).trans (Kp.of_grown hg) (fun k hk => .inl hk)⟩
/-- What the patches hold: the words' places, and eight bytes each. -/
def PPs (W : World) (base : Nat) (B ws : List Int) (ps : List (Int × Value)) : Prop := ps.length = ws.length ∧ ∀ i, i < ws.length → (ps.getD i (0, .slice none 0 0)).1 = ws.getD i 0 ∧ OwnO (Value.int .u8) W base 5 (ps.getD i (0, .slice none 0 0)).2 ((B.drop (ws.getD i 0).toNat).take 8)
theorem PPs.move {W W' : World} {base : Nat} {B ws : List Int} {ps : List (Int × Value)} (h : PPs W base B ws ps) (hm : ∀ (k : Nat) (cs : Array Value), W.heap[k]? = some (.cells cs 5 (0, 0)) → base ≤ k → W'.heap[k]? = W.heap[k]?) : PPs W' base B ws ps := ⟨h.1, fun i hi => ⟨(h.2 i hi).1, (h.2 i hi).2.move fun k hk => by
  rcases (h.2 i hi).2 with ⟨e, _⟩ | ⟨g, o, cap, cur, e, hb, hg, _⟩
  · rw [e] at hk; cases hk
  · rw [e] at hk; injection hk with hk
    subst hk
    exact hm g cur hg hb⟩⟩
theorem PPs.snoc {W : World} {base : Nat} {B ws : List Int} {ps : List (Int × Value)} {k : Nat} {x : Int} {v : Value} (h : PPs W base B (ws.take k) ps) (hk : k < ws.length) (hx : x = ws.getD k 0) (hv : OwnO (Value.int .u8) W base 5 v ((B.drop (ws.getD k 0).toNat).take 8)) : PPs W base B (ws.take (k + 1)) (ps ++ [(x, v)]) := by
  have h1 : (ws.take k).length = k := by rw [List.length_take]; omega
  have h2 : (ws.take (k + 1)).length = k + 1 := by rw [List.length_take]; omega
  have hp : ps.length = k := h.1.trans h1
  refine ⟨by rw [List.length_append, hp, h2]; rfl, fun i hi => ?_⟩
  rw [h2] at hi
  have hw : ∀ j m : Nat, j < m → (ws.take m).getD j 0 = ws.getD j 0 := fun j m hj => by rw [List.getD_eq_getElem?_getD, List.getD_eq_getElem?_getD, List.getElem?_take_of_lt hj]
  rw [hw i (k + 1) hi]
  by_cases c : i < k
  · have := h.2 i (by omega)
    rw [hw i k c] at this
    rw [List.getD_eq_getElem?_getD, List.getElem?_append_left (by omega), ← List.getD_eq_getElem?_getD]
    exact this
  · obtain rfl : i = k := by omega
    rw [List.getD_eq_getElem?_getD, List.getElem?_append_right (by omega), hp, Nat.sub_self]
    exact ⟨hx, hv⟩
theorem slice_lh (b o n c j : Nat) (hj : j + 8 ≤ n) (hnc : n ≤ c) (W : World) : (Instr.slice 22 (.slice (some ⟨b, o, none⟩) n c) (some (.int .i64 (j : Int))) (some (.int .i64 ((j : Int) + 8))) none).run Try.prog W = .ok (.slice (some ⟨b, o + j, none⟩) 8 (c - j)) W := by
  have hinfo := infoU8
  obtain ⟨i, hi, hzz⟩ := Option.map_eq_some_iff.1 hinfo
  simp only [Prod.mk.injEq] at hzz
  have hel : Try.prog.elem 22 = 5 := by simp [Program.elem, Try.underlying22]
  have hu : Try.prog.underlying 22 = some (.slice (Try.prog.elem 22)) := by rw [hel]; exact Try.underlying22
  have hc : c ≠ j := by omega
  rw [run_slice_lh W 22 (some ⟨b, o, none⟩) n c hu .i64 .i64 (j : Int) ((j : Int) + 8) (Int.natCast_nonneg _) (by omega) (by omega), hel]
  have e : ((j : Int) + 8).toNat = j + 8 := by omega
  simp [sizeOf, typeInfo, hi, hzz.2.1, sliced, Result.andThen, hc, Addr.add_lit, e]
theorem OwnO.mid {α : Type} {enc : α → Value} {W : World} {base e b o n c : Nat} {xs : List α} (h : OwnO enc W base e (.slice (some ⟨b, o, none⟩) n c) xs) (j m : Nat) (hj : j + m ≤ n) : OwnO enc W base e (.slice (some ⟨b, o + j, none⟩) m (c - j)) ((xs.drop j).take m) := by
  rcases h with ⟨hv, _⟩ | ⟨g, o', cap, cur, hv, hb, hg, hn, hm, hs, ht⟩
  · cases hv
  · simp only [Value.slice.injEq, Option.some.injEq, Addr.mk.injEq] at hv
    obtain ⟨⟨rfl, rfl, _⟩, rfl, rfl⟩ := hv
    have hl : ((xs.drop j).take m).length = m := by rw [List.length_take, List.length_drop]; omega
    refine .inr ⟨b, o + j, c - j, cur, by rw [hl], hb, hg, by omega, by omega, by omega, ?_⟩
    rw [hl, encs, List.map_take, List.map_drop, ← encs, ← ht, List.drop_take, List.take_take, List.drop_drop]
    congr 1
    omega
theorem below_set3 {w w1 : World} {a : Nat} (h : Below w.heap.size w w1) (ha : w.heap.size ≤ a) (v0 v1 v2 : Value) : Below w.heap.size w (((w1.setCell ⟨a, 0, none⟩ v0).setCell ⟨a, 1, none⟩ v1).setCell ⟨a, 2, none⟩ v2) := ((h.setCell (p := ⟨a, 0, none⟩) ha v0).setCell (p := ⟨a, 1, none⟩) ha v1).setCell (p := ⟨a, 2, none⟩) ha v2
theorem far3 {W : World} {a k : Nat} (h : k ≠ a) (v0 v1 v2 : Value) : (((W.setCell ⟨a, 0, none⟩ v0).setCell ⟨a, 1, none⟩ v1).setCell ⟨a, 2, none⟩ v2).heap[k]? = W.heap[k]? := (Below.heap_setCell _ ⟨a, 2, none⟩ _ k h).trans ((Below.heap_setCell _ ⟨a, 1, none⟩ _ k h).trans (Below.heap_setCell _ ⟨a, 0, none⟩ _ k h))
theorem slice_tail (b o n c j : Nat) (hj : j ≤ n) (hnc : n ≤ c) {base : Nat} {xs : List Int} (hx : xs.length = n) : ∃ o' c', (∀ W : World, (Instr.slice 22 (.slice (some ⟨b, o, none⟩) n c) (some (.int .i64 (j : Int))) none none).run Try.prog W = .ok (.slice (some ⟨b, o', none⟩) (n - j) c') W) ∧ ∀ W : World, OwnO (Value.int .u8) W base 5 (.slice (some ⟨b, o, none⟩) n c) xs → Rd W .u8 (.slice (some ⟨b, o', none⟩) (n - j) c') (xs.drop j) := by
  by_cases hc : c = j
  · obtain rfl : n = j := by omega
    subst hc
    refine ⟨o, 0, fun W => ?_, fun W h => ?_⟩
    · have hinfo := infoU8
      obtain ⟨i, hi, hzz⟩ := Option.map_eq_some_iff.1 hinfo
      simp only [Prod.mk.injEq] at hzz
      have hel : Try.prog.elem 22 = 5 := by simp [Program.elem, Try.underlying22]
      have hu : Try.prog.underlying 22 = some (.slice (Try.prog.elem 22)) := by rw [hel]; exact Try.underlying22
      rw [run_slice_l W 22 (some ⟨b, o, none⟩) c c hu .i64 (c : Int) (Int.natCast_nonneg _) (by omega), hel]
      simp [sizeOf, typeInfo, hi, hzz.2.1, sliced, Result.andThen, Addr.add_lit]
    · rw [Nat.sub_self, List.drop_of_length_le (by omega)]
      rcases h with ⟨hv, _⟩ | ⟨g, o', cap, cur, hv, hb, hg, hn, hm, hs, ht⟩
      · cases hv
      · simp only [Value.slice.injEq, Option.some.injEq, Addr.mk.injEq] at hv
        obtain ⟨⟨rfl, rfl, _⟩, _, rfl⟩ := hv
        exact OwnO.rd (base := base) (.inr ⟨b, o, 0, cur, rfl, hb, hg, Nat.le_refl _, by omega, by omega, by simp [encs]⟩)
  · refine ⟨o + j, c - j, fun W => slice_from b o n c j hj hc W, fun W h => ?_⟩
    have := (h.mid j (n - j) (by omega)).rd
    rwa [List.take_of_length_le (by rw [List.length_drop]; omega)] at this
/-- Change, on its way. -/
def ChS (w W : World) (g3 : Nat) (B ws : List Int) (q k : Nat) (va vp : Value) (ps : List (Int × Value)) : Prop :=
  W.heap[g3]? = some (.cells #[.int .i64 (q : Int), va, vp] 88 (0, 0)) ∧ OwnO (Value.int .u8) W w.heap.size 5 va (B.drop q) ∧ PRow W w.heap.size vp ps ∧ PPs W w.heap.size B (ws.take k) ps ∧ Below w.heap.size w W ∧ W.heap[w.heap.size]? = some (.cells #[.int .i64 0, .slice none 0 0, .slice none 0 0] 88 (0, 0)) ∧ w.heap.size < g3
theorem ChS.bel {w W : World} {g3 : Nat} {B ws : List Int} {q k : Nat} {va vp : Value} {ps : List (Int × Value)} (h : ChS w W g3 B ws q k va vp ps) : Below w.heap.size w W := h.2.2.2.2.1
theorem ChS.plen {w W : World} {g3 : Nat} {B ws : List Int} {q k : Nat} {va vp : Value} {ps : List (Int × Value)} (h : ChS w W g3 B ws q k va vp ps) (hk : k ≤ ws.length) : ps.length = k := by rw [h.2.2.2.1.1, List.length_take]; omega
theorem ChS.snoc {w wr w2 w4 : World} {g3 : Nat} {B ws : List Int} {q k : Nat} {va vp : Value} {ps : List (Int × Value)} (h : ChS w wr g3 B ws q k va vp ps) {j : Nat} {A0 A1 : Option Addr} {c0 c1 : Nat} (hb2 : Below wr.heap.size wr w2)
    (hq : OwnO (Value.int .u8) w2 wr.heap.size 5 (.slice A0 8 c0) ((B.drop j).take 8)) (hk4 : Kp (fun b => vp.ownBlock = some b) w2 w4) (hp4 : PRow w4 w.heap.size (.slice A1 (k + 1) c1) (ps ++ [((j : Int), .slice A0 8 c0)])) (hk : k < ws.length) (hj : ws.getD k 0 = (j : Int)) :
    ChS w (w4.setCell ⟨g3, 2, none⟩ (.slice A1 (k + 1) c1)) g3 B ws q (k + 1) va (.slice A1 (k + 1) c1) (ps ++ [((j : Int), .slice A0 8 c0)]) := by
  obtain ⟨hz, hva, hp, hpp, hb, hz0, hg⟩ := h
  have hz2 := blk_below hz hb2
  have hz02 := blk_below hz0 hb2
  have hp2 := hp.below hb2
  have n1 : vp.ownBlock ≠ some g3 := hp2.ne hz2 (by decide)
  have n2 : vp.ownBlock ≠ some w.heap.size := hp2.ne hz02 (by decide)
  have hz4 := hk4.blk hz2 n1
  have hz04 := hk4.blk hz02 n2
  have hsz : w.heap.size ≤ wr.heap.size := hb.size
  have mv : ∀ (b : Nat) (cs : Array Value), w2.heap[b]? = some (.cells cs 5 (0, 0)) → (w4.setCell ⟨g3, 2, none⟩ (.slice A1 (k + 1) c1)).heap[b]? = w2.heap[b]? := fun b cs hcs => by
    have e1 : vp.ownBlock ≠ some b := hp2.ne hcs (by decide)
    have e2 : b ≠ g3 := fun e => by
      subst e
      rw [hz2] at hcs
      injection hcs with hcs
      injection hcs with _ hcs
      exact absurd hcs (by decide)
    exact (Below.heap_setCell _ ⟨g3, 2, none⟩ _ b e2).trans (hk4.block b (blk_lt hcs) e1)
  have mvO : ∀ {base : Nat} {v : Value} {xs : List Int}, OwnO (Value.int .u8) w2 base 5 v xs → OwnO (Value.int .u8) (w4.setCell ⟨g3, 2, none⟩ (.slice A1 (k + 1) c1)) base 5 v xs := fun {base v xs} h => h.move fun b hbb => by
    rcases h with ⟨e, _⟩ | ⟨g, o, cap, cur, e, hb', hg', _⟩
    · rw [e] at hbb; cases hbb
    · rw [e] at hbb; injection hbb with hbb
      subst hbb
      exact mv g cur hg'
  refine ⟨?_, mvO (hva.below hb2), ?_, ?_, ?_, ?_, hg⟩
  · simpa using blk_set hz4 2 (.slice A1 (k + 1) c1)
  · exact hp4.move fun b hbb => Below.heap_setCell _ ⟨g3, 2, none⟩ _ b (fun e => by subst e; exact hp4.ne hz4 (by decide) hbb)
  · refine PPs.snoc (PPs.move hpp fun b cs hcs hbb => ?_) hk hj.symm ?_
    · have hcs2 := blk_below hcs hb2
      rw [mv b cs hcs2, hcs2, hcs]
    · rw [hj, Int.toNat_natCast]
      have := mvO hq
      rcases this with h | ⟨g, o, cap, cur, e, hb', r⟩
      · exact .inl h
      · exact .inr ⟨g, o, cap, cur, e, Nat.le_trans hsz hb', r⟩
  · exact (Kp.from (below_step hb hb2) hk4 (fun b hbb => (hp2.lt hbb).1)).setCell (p := ⟨g3, 2, none⟩) (Nat.le_of_lt hg) _
  · exact (Below.heap_setCell _ ⟨g3, 2, none⟩ _ w.heap.size (Nat.ne_of_lt hg)).trans hz04
theorem OwnO.ge_ {α : Type} {enc : α → Value} {W : World} {base base2 e : Nat} {v : Value} {xs : List α} (h : OwnO enc W base e v xs) (hb : base2 ≤ base) : OwnO enc W base2 e v xs := by
  rcases h with h | ⟨g, o, cap, cur, ee, hb', r⟩
  · exact .inl h
  · exact .inr ⟨g, o, cap, cur, ee, Nat.le_trans hb hb', r⟩
set_option maxHeartbeats 8000000 in
set_option maxRecDepth 100000 in
theorem Change_calls (g base : Nat) (H : Hd) (B : List Int) (lim fr : Int) (ws : List Int) (F : Nat → Prop) (vb vw : Value) (w : World) (hI : Im w g base H B lim fr ws F vb vw) (n : Nat) (hn : B.length = n) (hl : n ≤ 100000) (q : Nat) (hq : fr = (q : Int)) (hqn : q ≤ n) (hws : ∀ x ∈ ws, 192 ≤ x ∧ x + 8 ≤ (n : Int)) (hwl : ws.length ≤ 1000000) (hn0 : 0 < n) : Calls Try.prog 53 #[.pointer (some ⟨g, 0, none⟩)] w fun e w' => ∃ va vp ps, e = .returned (.agg #[.int .i64 (q : Int), va, vp]) ∧ OwnO (Value.int .u8) w' w.heap.size 5 va (B.drop q) ∧ PRow w' w.heap.size vp ps ∧ PPs w' w.heap.size B ws ps ∧ Below w.heap.size w w' := by
  subst hq
  obtain ⟨b, o, c, ev, hnc, hbb⟩ := hI.b.form (by omega)
  rw [hn] at ev hnc
  subst ev
  have HI := Aside0.mk hI
  obtain ⟨wl, hwn⟩ : ∃ k, ws.length = k := ⟨_, rfl⟩
  obtain ⟨A1, c1, ev, _, _⟩ := hI.w.sl hwn
  subst ev
  have HWS := Aside0.mk hws
  have HWN := Aside0.mk hwn
  have HN := Aside0.mk hn
  have HWR := Aside0.mk (show ∀ w1 : World, OwnO (Value.int .i64) w1 base 3 (.slice A1 wl c1) ws → RdE (Value.int .i64) (0 : Int) w1 (.slice A1 wl c1) ws from fun w1 h => h.rdE 0)
  obtain ⟨o', c', hsl, hrd⟩ := slice_tail b o n c q hqn hnc (base := base) hn
  obtain ⟨m, hm⟩ : ∃ m, n - q = m := ⟨_, rfl⟩
  rw [hm] at hsl hrd
  have HRD := Aside0.mk hrd
  have HM := Aside0.mk (show (B.drop q).length = m by rw [List.length_drop, hn, hm])
  rw [hwn] at hwl
  have hml : m ≤ 100000 := by omega
  clear hI hn hws hwn hrd hm
  have HZ := Aside0.mk (blk_new w (.cells #[.int .i64 0, .slice none 0 0, .slice none 0 0] 88))
  have HB := Aside0.mk (below_alloc (Below.refl w.heap.size w) (.cells #[.int .i64 0, .slice none 0 0, .slice none 0 0] 88))
  have HS := Aside0.mk (show w.heap.size < (w.alloc (.cells #[.int .i64 0, .slice none 0 0, .slice none 0 0] 88)).heap.size from blk_lt HZ.out)
  go_enter Try.func53, Try.ntmps53
  go_upto_region 1 with fail
  obtain ⟨w0, hw0⟩ : ∃ w0, w.alloc (.cells #[.int .i64 0, .slice none 0 0, .slice none 0 0] 88) = w0 := ⟨_, rfl⟩
  rw [hw0] at HZ HB HS ⊢
  clear hw0
  have r0 : (w0).cell? ⟨g, 0, none⟩ = some (.int .u64 H.id) := blk_cell (HI.out.below HB.out).blk 0
  have r1 : (w0).cell? ⟨g, 1, none⟩ = some (.int .u64 H.key) := blk_cell (HI.out.below HB.out).blk 1
  have r2 : (w0).cell? ⟨g, 2, none⟩ = some (.int .i64 H.data) := blk_cell (HI.out.below HB.out).blk 2
  have r3 : (w0).cell? ⟨g, 3, none⟩ = some (.int .i64 H.fields) := blk_cell (HI.out.below HB.out).blk 3
  have r4 : (w0).cell? ⟨g, 4, none⟩ = some (.int .u64 H.made) := blk_cell (HI.out.below HB.out).blk 4
  have r5 : (w0).cell? ⟨g, 5, none⟩ = some ((.slice (some ⟨b, o, none⟩) n c)) := blk_cell (HI.out.below HB.out).blk 5
  have r6 : (w0).cell? ⟨g, 6, none⟩ = some (.int .i64 lim) := blk_cell (HI.out.below HB.out).blk 6
  have r7 : (w0).cell? ⟨g, 7, none⟩ = some (.int .i64 (q : Int)) := blk_cell (HI.out.below HB.out).blk 7
  have r8 : (w0).cell? ⟨g, 8, none⟩ = some ((.slice A1 wl c1)) := blk_cell (HI.out.below HB.out).blk 8
  go_upto_region 3 with fail
  refine start_ (n := 17) (S := fun w' => w'.cell? ⟨g, 5, none⟩ = some (.slice (some ⟨b, o, none⟩) n c) ∧ w'.cell? ⟨g, 7, none⟩ = some (.int .i64 (q : Int))) (ds := [16]) #[false,false,false,false,false,false,false,false,false,false,false,false,false,false,false,false,false] (by kernel_rfl) rfl rfl ⟨r5, r7⟩ (fun hHeld => ?_)
  refine pure_ (i := 0) (N := some 9) (v := ?_) (a' := ?_) #[true,false,false,false,false,false,false,false,false,false,false,false,false,false,false,false,false] rfl rfl (by kernel_rfl) (fun _ _ _ h => h) (Or.inl ⟨by rfl, ?_⟩) ?_ ?_
  rotate_left
  · intro w'
    go_simp
    with_reducible rfl
  rotate_left
  · simp only [Act.put, List.setIfInBounds_toArray, List.set_cons_zero, List.set_cons_succ, i64_w, i32_w]
    rfl
  refine pure_ (i := 1) (N := some 10) (v := ?_) (a' := ?_) #[true,true,false,false,false,false,false,false,false,false,false,false,false,false,false,false,false] rfl rfl (by kernel_rfl) (fun _ _ _ h => h) (Or.inl ⟨by rfl, ?_⟩) ?_ ?_
  rotate_left
  · intro w'
    go_simp
    with_reducible rfl
  rotate_left
  · simp only [Act.put, List.setIfInBounds_toArray, List.set_cons_zero, List.set_cons_succ, i64_w, i32_w]
    rfl
  refine pure_ (i := 2) (N := some 11) (v := ?_) (a' := ?_) #[true,true,true,false,false,false,false,false,false,false,false,false,false,false,false,false,false] rfl rfl (by kernel_rfl) (fun _ _ _ h => h) (Or.inl ⟨by rfl, ?_⟩) ?_ ?_
  rotate_left
  · intro w'
    go_simp
    with_reducible rfl
  rotate_left
  · simp only [Act.put, List.setIfInBounds_toArray, List.set_cons_zero, List.set_cons_succ, i64_w, i32_w]
    rfl
  refine pure_ (i := 4) (N := some 13) (v := ?_) (a' := ?_) #[true,true,true,false,true,false,false,false,false,false,false,false,false,false,false,false,false] rfl rfl (by kernel_rfl) (fun _ _ _ h => h) (Or.inl ⟨by rfl, ?_⟩) ?_ ?_
  rotate_left
  · intro w'
    go_simp
    with_reducible rfl
  rotate_left
  · simp only [Act.put, List.setIfInBounds_toArray, List.set_cons_zero, List.set_cons_succ, i64_w, i32_w]
    rfl
  refine pure_ (i := 5) (N := some 14) (v := ?_) (a' := ?_) #[true,true,true,false,true,true,false,false,false,false,false,false,false,false,false,false,false] rfl rfl (by kernel_rfl) (fun _ _ _ h => h) (Or.inl ⟨by rfl, ?_⟩) ?_ ?_
  rotate_left
  · intro w'
    go_simp
    with_reducible rfl
  rotate_left
  · simp only [Act.put, List.setIfInBounds_toArray, List.set_cons_zero, List.set_cons_succ, i64_w, i32_w]
    rfl
  refine pure_ (i := 6) (N := some 15) (v := ?_) (a' := ?_) #[true,true,true,false,true,true,true,false,false,false,false,false,false,false,false,false,false] rfl rfl (by kernel_rfl) (fun _ _ _ h => h) (Or.inl ⟨by rfl, ?_⟩) ?_ ?_
  rotate_left
  · intro w'
    go_simp
    with_reducible rfl
  rotate_left
  · simp only [Act.put, List.setIfInBounds_toArray, List.set_cons_zero, List.set_cons_succ, i64_w, i32_w]
    rfl
  refine pure_ (i := 8) (N := some 17) (v := ?_) (a' := ?_) #[true,true,true,false,true,true,true,false,true,false,false,false,false,false,false,false,false] rfl rfl (by kernel_rfl) (fun _ _ _ h => h) (Or.inl ⟨by rfl, ?_⟩) ?_ ?_
  rotate_left
  · intro w'
    go_simp
    with_reducible rfl
  rotate_left
  · simp only [Act.put, List.setIfInBounds_toArray, List.set_cons_zero, List.set_cons_succ, i64_w, i32_w]
    rfl
  refine pure_ (i := 9) (N := some 18) (v := ?_) (a' := ?_) #[true,true,true,false,true,true,true,false,true,true,false,false,false,false,false,false,false] rfl rfl (by kernel_rfl) (fun _ _ _ h => h) (Or.inl ⟨by rfl, ?_⟩) ?_ ?_
  rotate_left
  · intro w'
    go_simp
    with_reducible rfl
  rotate_left
  · simp only [Act.put, List.setIfInBounds_toArray, List.set_cons_zero, List.set_cons_succ, i64_w, i32_w]
    rfl
  refine pure_ (i := 10) (N := some 19) (v := ?_) (a' := ?_) #[true,true,true,false,true,true,true,false,true,true,true,false,false,false,false,false,false] rfl rfl (by kernel_rfl) (fun _ _ _ h => h) (Or.inl ⟨by rfl, ?_⟩) ?_ ?_
  rotate_left
  · intro w'
    go_simp
    with_reducible rfl
  rotate_left
  · simp only [Act.put, List.setIfInBounds_toArray, List.set_cons_zero, List.set_cons_succ, i64_w, i32_w]
    rfl
  refine take_ (i := 3) (N := some 12) (v := ?_) (a' := ?_) #[true,true,true,true,true,true,true,false,true,true,true,false,false,false,false,false,false] rfl rfl (by kernel_rfl) (fun _ _ _ h => h) (Or.inl ⟨by rfl, ?_⟩) hHeld ?_ ?_
  rotate_left
  · rintro w' ⟨s0, s1⟩
    go_simp
    with_reducible rfl
  rotate_left
  · simp only [Act.put, List.setIfInBounds_toArray, List.set_cons_zero, List.set_cons_succ, i64_w, i32_w]
    rfl
  refine take_ (i := 7) (N := some 16) (v := ?_) (a' := ?_) #[true,true,true,true,true,true,true,true,true,true,true,false,false,false,false,false,false] rfl rfl (by kernel_rfl) (fun _ _ _ h => h) (Or.inl ⟨by rfl, ?_⟩) hHeld ?_ ?_
  rotate_left
  · rintro w' ⟨s0, s1⟩
    go_simp
    with_reducible rfl
  rotate_left
  · simp only [Act.put, List.setIfInBounds_toArray, List.set_cons_zero, List.set_cons_succ, i64_w, i32_w]
    rfl
  refine take_ (i := 11) (N := some 20) (v := ?_) (a' := ?_) #[true,true,true,true,true,true,true,true,true,true,true,true,false,false,false,false,false] rfl rfl (by kernel_rfl) (fun _ _ _ h => h) (Or.inl ⟨by rfl, ?_⟩) hHeld ?_ ?_
  rotate_left
  · rintro w' ⟨s0, s1⟩
    go_simp
    with_reducible rfl
  rotate_left
  · simp only [Act.put, List.setIfInBounds_toArray, List.set_cons_zero, List.set_cons_succ, i64_w, i32_w]
    rfl
  refine pure_ (i := 12) (N := some 21) (v := ?_) (a' := ?_) #[true,true,true,true,true,true,true,true,true,true,true,true,true,false,false,false,false] rfl rfl (by kernel_rfl) (fun _ _ _ h => h) (Or.inl ⟨by rfl, ?_⟩) ?_ ?_
  rotate_left
  · intro w'
    go_simp
    with_reducible rfl
  rotate_left
  · simp only [Act.put, List.setIfInBounds_toArray, List.set_cons_zero, List.set_cons_succ, i64_w, i32_w]
    rfl
  refine join_ (σ := Option Addr × Nat × Nat) 1 #[true,true,true,true,true,true,true,true,true,true,true,true,true,true,true,true,false] (fun s => [(22, (.slice s.1 m s.2.1)), (23, .agg #[.int .i64 (q : Int), (.slice s.1 m s.2.1), .slice none 0 0]), (3, .pointer (some ⟨s.2.2, 0, none⟩))]) (fun s w' => OwnO (Value.int .u8) w' w.heap.size 5 (.slice s.1 m s.2.1) (B.drop q) ∧ w'.heap[s.2.2]? = some (.cells #[.int .i64 0, .slice none 0 0, .slice none 0 0] 88 (0, 0)) ∧ w.heap.size < s.2.2 ∧ Below w.heap.size w w' ∧ w'.heap[w.heap.size]? = some (.cells #[.int .i64 0, .slice none 0 0, .slice none 0 0] 88 (0, 0))) ?_ ?_
  rotate_left
  · intro hCont
    refine two_ (i := 13) (j := 15) (Ni := some 22) (Nj := some 3) #[true,true,true,true,true,true,true,true,true,true,true,true,true,true,false,false,false] #[true,true,true,true,true,true,true,true,true,true,true,true,true,false,false,true,false] rfl rfl rfl rfl (by kernel_rfl) (by decide) (by decide) (fun K hK => ?_) (fun K hK => ?_)
    · skip
      refine goes_ Try.func117 (by kernel_rfl) rfl #[.slice (some ⟨b, o', none⟩) m c'] (by rfl) rfl rfl (by (try simp only [List.map_toArray, List.map_cons, List.map_nil]); first | done | rfl) ?_
      with_reducible refine (Clone_calls _ (B.drop q) _ (HRD.out _ (HI.out.below (below_drew HB.out)).b) (by rw [HM.out]; omega)).mono ?_
      rintro e w2 ⟨va, rfl, hoc, hbc⟩
      refine ⟨_, rfl, ?_⟩
      obtain ⟨Av, cv, rfl, _, _⟩ := hoc.sl HM.out
      refine hK.out _ _ ⟨(pw_cell_below hbc hHeld.1), (pw_cell_below hbc hHeld.2)⟩ (fun hHeld => ?_)
      clear hK K
      refine norm_ (a' := ?_) ?_ ?_
      rotate_left
      · show Act.put _ (some 22) _ = _
        simp only [Act.put, List.setIfInBounds_toArray, List.set_cons_zero, List.set_cons_succ, i64_w, i32_w]
        rfl
      refine pure_ (i := 14) (N := some 23) (v := ?_) (a' := ?_) #[true,true,true,true,true,true,true,true,true,true,true,true,true,true,true,false,false] rfl rfl (by kernel_rfl) (fun _ _ _ h => h) (Or.inl ⟨by rfl, ?_⟩) ?_ ?_
      rotate_left
      · intro w'
        go_simp
        with_reducible rfl
      rotate_left
      · simp only [Act.put, List.setIfInBounds_toArray, List.set_cons_zero, List.set_cons_succ, i64_w, i32_w]
        rfl
      refine one_ (i := 15) (N := some 3) #[true,true,true,true,true,true,true,true,true,true,true,true,true,true,true,true,false] rfl rfl (by kernel_rfl) (by decide) (fun K hK => ?_)
      refine value_ (w1 := ?_) (v := ?_) (by rfl) rfl ?_ ?_
      rotate_left 2
      · go_simp
        constructor
        · rfl
        · rfl
      refine hK.out _ _ ⟨(pw_cell_below (below_alloc (Below.refl _ _) _) hHeld.1), (pw_cell_below (below_alloc (Below.refl _ _) _) hHeld.2)⟩ (fun hHeld => ?_)
      clear hK K
      refine norm_ (a' := ?_) ?_ ?_
      rotate_left
      · show Act.put _ (some 3) _ = _
        simp only [Act.put, List.setIfInBounds_toArray, List.set_cons_zero, List.set_cons_succ, i64_w, i32_w]
        rfl
      exact norm_ (by simp only [putAll, Act.put, List.setIfInBounds_toArray, List.set_cons_zero, List.set_cons_succ]) (hCont (Av, cv, w2.heap.size) _ ⟨(hoc.ge_ (below_drew HB.out).size).below (below_alloc (Below.refl _ _) _), blk_new w2 _, Nat.lt_of_lt_of_le HS.out hbc.size, below_alloc (below_step (below_drew HB.out) hbc) _, blk_alloc (blk_below (blk_drew HZ.out) hbc) _⟩)
    · skip
      refine value_ (w1 := ?_) (v := ?_) (by rfl) rfl ?_ ?_
      rotate_left 2
      · go_simp
        constructor
        · rfl
        · rfl
      refine hK.out _ _ ⟨(pw_cell_below (below_alloc (Below.refl _ _) _) hHeld.1), (pw_cell_below (below_alloc (Below.refl _ _) _) hHeld.2)⟩ (fun hHeld => ?_)
      clear hK K
      refine norm_ (a' := ?_) ?_ ?_
      rotate_left
      · show Act.put _ (some 3) _ = _
        simp only [Act.put, List.setIfInBounds_toArray, List.set_cons_zero, List.set_cons_succ, i64_w, i32_w]
        rfl
      refine one_ (i := 13) (N := some 22) #[true,true,true,true,true,true,true,true,true,true,true,true,true,true,false,true,false] rfl rfl (by kernel_rfl) (by decide) (fun K hK => ?_)
      refine goes_ Try.func117 (by kernel_rfl) rfl #[.slice (some ⟨b, o', none⟩) m c'] (by rfl) rfl rfl (by (try simp only [List.map_toArray, List.map_cons, List.map_nil]); first | done | rfl) ?_
      with_reducible refine (Clone_calls _ (B.drop q) _ (HRD.out _ (HI.out.below (below_drew (below_alloc HB.out (.cells #[.int .i64 0, .slice none 0 0, .slice none 0 0] 88)))).b) (by rw [HM.out]; omega)).mono ?_
      rintro e w2 ⟨va, rfl, hoc, hbc⟩
      refine ⟨_, rfl, ?_⟩
      obtain ⟨Av, cv, rfl, _, _⟩ := hoc.sl HM.out
      refine hK.out _ _ ⟨(pw_cell_below hbc hHeld.1), (pw_cell_below hbc hHeld.2)⟩ (fun hHeld => ?_)
      clear hK K
      refine norm_ (a' := ?_) ?_ ?_
      rotate_left
      · show Act.put _ (some 22) _ = _
        simp only [Act.put, List.setIfInBounds_toArray, List.set_cons_zero, List.set_cons_succ, i64_w, i32_w]
        rfl
      refine pure_ (i := 14) (N := some 23) (v := ?_) (a' := ?_) #[true,true,true,true,true,true,true,true,true,true,true,true,true,true,true,true,false] rfl rfl (by kernel_rfl) (fun _ _ _ h => h) (Or.inl ⟨by rfl, ?_⟩) ?_ ?_
      rotate_left
      · intro w'
        go_simp
        with_reducible rfl
      rotate_left
      · simp only [Act.put, List.setIfInBounds_toArray, List.set_cons_zero, List.set_cons_succ, i64_w, i32_w]
        rfl
      exact norm_ (by simp only [putAll, Act.put, List.setIfInBounds_toArray, List.set_cons_zero, List.set_cons_succ]) (hCont (Av, cv, w0.heap.size) _ ⟨hoc.ge_ (below_drew (below_alloc HB.out (.cells #[.int .i64 0, .slice none 0 0, .slice none 0 0] 88))).size, blk_below (blk_drew (blk_new w0 (.cells #[.int .i64 0, .slice none 0 0, .slice none 0 0] 88))) hbc, HS.out, below_step (below_drew (below_alloc HB.out (.cells #[.int .i64 0, .slice none 0 0, .slice none 0 0] 88))) hbc, blk_below (blk_drew (blk_alloc HZ.out (.cells #[.int .i64 0, .slice none 0 0, .slice none 0 0] 88))) hbc⟩)
  rintro s w5 ⟨hoF, hzF, hgF, hbF, hwF⟩
  obtain ⟨Av, cv, g3⟩ := s
  dsimp only at hoF hzF hgF ⊢
  have hi5 := (HI.out.below hbF).blk
  have hHeld : w5.cell? ⟨g, 5, none⟩ = some (.slice (some ⟨b, o, none⟩) n c) ∧ w5.cell? ⟨g, 7, none⟩ = some (.int .i64 (q : Int)) := ⟨blk_cell hi5 5, blk_cell hi5 7⟩
  refine norm_ (a' := ?_) ?_ ?_
  rotate_left
  · simp only [putAll, Act.put, List.setIfInBounds_toArray, List.set_cons_zero, List.set_cons_succ]
    rfl
  refine last_ (i := 16) (N := none) #[true,true,true,true,true,true,true,true,true,true,true,true,true,true,true,true,true] rfl rfl (by kernel_rfl) (by decide) (fun K hK => ?_)
  have zz0 := blk_cell hzF 0
  have zz1 := blk_cell hzF 1
  have zz2 := blk_cell hzF 2
  have zf0 := blk_frozen hzF 0
  have zf1 := blk_frozen hzF 1
  have zf2 := blk_frozen hzF 2
  refine skip_ (w1 := ?_) (by rfl) rfl ?_ ?_
  rotate_left
  · go_simp
    rfl
  refine hK.out _ _ ?_
  clear hK K
  refine done_ (by kernel_rfl) ?_
  obtain ⟨w6, hw⟩ : ∃ W, (((w5.setCell ⟨g3, 0, none⟩ (.int .i64 (q : Int))).setCell ⟨g3, 1, none⟩ (.slice Av m cv)).setCell ⟨g3, 2, none⟩ (.slice none 0 0)) = W := ⟨_, rfl⟩
  rw [hw]
  have HC := Aside0.mk (show ChS w w6 g3 B ws q 0 (.slice Av m cv) (.slice none 0 0) [] from by
    rw [← hw]
    have hne := hoF.ne hzF (by decide)
    refine ⟨by simpa using blk_set (blk_set (blk_set hzF 0 (.int .i64 (q : Int))) 1 (.slice Av m cv)) 2 (.slice none 0 0), hoF.move fun k hk => ?_, PRow.nil _ _, ⟨by simp, fun i hi => by simp at hi⟩, below_set3 hbF (Nat.le_of_lt hgF) _ _ _, ?_, hgF⟩
    · exact far3 (fun e => hne (by rw [hk, e])) _ _ _
    · exact (far3 (Nat.ne_of_lt hgF) _ _ _).trans hwF)
  clear hw hi5 hoF hzF hgF hbF hwF hsl HZ HB HS HRD HM r0 r1 r2 r3 r4 r5 r6 r7 r8
  have r0 : (w6).cell? ⟨g, 0, none⟩ = some (.int .u64 H.id) := blk_cell (HI.out.below HC.out.2.2.2.2.1).blk 0
  have r1 : (w6).cell? ⟨g, 1, none⟩ = some (.int .u64 H.key) := blk_cell (HI.out.below HC.out.2.2.2.2.1).blk 1
  have r2 : (w6).cell? ⟨g, 2, none⟩ = some (.int .i64 H.data) := blk_cell (HI.out.below HC.out.2.2.2.2.1).blk 2
  have r3 : (w6).cell? ⟨g, 3, none⟩ = some (.int .i64 H.fields) := blk_cell (HI.out.below HC.out.2.2.2.2.1).blk 3
  have r4 : (w6).cell? ⟨g, 4, none⟩ = some (.int .u64 H.made) := blk_cell (HI.out.below HC.out.2.2.2.2.1).blk 4
  have r5 : (w6).cell? ⟨g, 5, none⟩ = some ((.slice (some ⟨b, o, none⟩) n c)) := blk_cell (HI.out.below HC.out.2.2.2.2.1).blk 5
  have r6 : (w6).cell? ⟨g, 6, none⟩ = some (.int .i64 lim) := blk_cell (HI.out.below HC.out.2.2.2.2.1).blk 6
  have r7 : (w6).cell? ⟨g, 7, none⟩ = some (.int .i64 (q : Int)) := blk_cell (HI.out.below HC.out.2.2.2.2.1).blk 7
  have r8 : (w6).cell? ⟨g, 8, none⟩ = some ((.slice A1 wl c1)) := blk_cell (HI.out.below HC.out.2.2.2.2.1).blk 8
  go_upto_block 0 with (fail)
  go_cut [] (fun wx => ∃ vp ps, Aside0 (ChS w wx g3 B ws q wl (.slice Av m cv) vp ps))
  case first =>
    go_wp2_with fail
    go_loopw [29] (fun v29 w' => ∃ k : Nat, k ≤ wl ∧ v29 = .int .i64 k ∧ ∃ vp ps, Aside0 (ChS w w' g3 B ws q k (.slice Av m cv) vp ps)) (fun v29 _ => wl - (intOf v29).toNat)
    case atStart => exact ⟨0, by omega, rfl, _, _, HC⟩
    case round =>
      obtain ⟨k, hk, rfl, vp, ps, HCK⟩ := hrel
      by_cases c2 : k < wl
      · obtain ⟨ad, eA, hce⟩ := rdE_at (HWR.out _ (HI.out.below HCK.out.bel).w) k (by rw [HWN.out]; exact c2)
        have hx := HWS.out (ws.getD k 0) (by rw [List.getD_eq_getElem?_getD, List.getElem?_eq_getElem (by rw [HWN.out]; exact c2)]; exact List.getElem_mem _)
        cases eA
        obtain ⟨j, hj⟩ : ∃ j : Nat, ws.getD k 0 = (j : Int) := Int.eq_ofNat_of_zero_le (by omega)
        rw [hj] at hce hx
        obtain ⟨hx1, hx2⟩ := hx
        have HJ := Aside0.mk hj
        have hsl := slice_lh b o n c j (by omega) hnc
        have HD8 := Aside0.mk (show ((B.drop j).take 8).length = 8 by rw [List.length_take, List.length_drop, HN.out]; omega)
        have HMD := Aside0.mk (fun (W : World) (h : OwnO (Value.int .u8) W base 5 (.slice (some ⟨b, o, none⟩) n c) B) => (OwnO.mid h j 8 (by omega)).rd)
        have had2 : wrap64 ((j : Int) + 8) = (j : Int) + 8 := by simp only [wrap64]; omega
        have had : IntKind.i64.wrap ((j : Int) + 8) = (j : Int) + 8 := by clear had2; rw [IntKind.wrap_i64]; omega
        clear hj
        have r0 : (wr).cell? ⟨g, 0, none⟩ = some (.int .u64 H.id) := blk_cell (HI.out.below HCK.out.bel).blk 0
        have r1 : (wr).cell? ⟨g, 1, none⟩ = some (.int .u64 H.key) := blk_cell (HI.out.below HCK.out.bel).blk 1
        have r2 : (wr).cell? ⟨g, 2, none⟩ = some (.int .i64 H.data) := blk_cell (HI.out.below HCK.out.bel).blk 2
        have r3 : (wr).cell? ⟨g, 3, none⟩ = some (.int .i64 H.fields) := blk_cell (HI.out.below HCK.out.bel).blk 3
        have r4 : (wr).cell? ⟨g, 4, none⟩ = some (.int .u64 H.made) := blk_cell (HI.out.below HCK.out.bel).blk 4
        have r5 : (wr).cell? ⟨g, 5, none⟩ = some ((.slice (some ⟨b, o, none⟩) n c)) := blk_cell (HI.out.below HCK.out.bel).blk 5
        have r6 : (wr).cell? ⟨g, 6, none⟩ = some (.int .i64 lim) := blk_cell (HI.out.below HCK.out.bel).blk 6
        have r7 : (wr).cell? ⟨g, 7, none⟩ = some (.int .i64 (q : Int)) := blk_cell (HI.out.below HCK.out.bel).blk 7
        have r8 : (wr).cell? ⟨g, 8, none⟩ = some ((.slice (some ad) wl c1)) := blk_cell (HI.out.below HCK.out.bel).blk 8
        have x2 : wr.cell? ⟨g3, 2, none⟩ = some vp := blk_cell HCK.out.1 2
        go_upto_region 7 with fail
        refine start_ (n := 17) (S := fun w' => w'.cell? ⟨g3, 2, none⟩ = some vp ∧ w'.cell? ⟨g, 5, none⟩ = some (.slice (some ⟨b, o, none⟩) n c)) (ds := [14, 16]) #[false,false,false,false,false,false,false,false,false,false,false,false,false,false,false,false,false] (by kernel_rfl) rfl rfl ⟨x2, r5⟩ (fun hHeld => ?_)
        refine pure_ (i := 0) (N := some 33) (v := ?_) (a' := ?_) #[true,false,false,false,false,false,false,false,false,false,false,false,false,false,false,false,false] rfl rfl (by kernel_rfl) (fun _ _ _ h => h) (Or.inl ⟨by rfl, ?_⟩) ?_ ?_
        rotate_left
        · intro w'
          go_simp
          with_reducible rfl
        rotate_left
        · simp only [Act.put, List.setIfInBounds_toArray, List.set_cons_zero, List.set_cons_succ, i64_w, i32_w]
          rfl
        refine pure_ (i := 2) (N := some 35) (v := ?_) (a' := ?_) #[true,false,true,false,false,false,false,false,false,false,false,false,false,false,false,false,false] rfl rfl (by kernel_rfl) (fun _ _ _ h => h) (Or.inl ⟨by rfl, ?_⟩) ?_ ?_
        rotate_left
        · intro w'
          go_simp
          with_reducible rfl
        rotate_left
        · simp only [Act.put, List.setIfInBounds_toArray, List.set_cons_zero, List.set_cons_succ, i64_w, i32_w]
          rfl
        refine pure_ (i := 3) (N := some 36) (v := ?_) (a' := ?_) #[true,false,true,true,false,false,false,false,false,false,false,false,false,false,false,false,false] rfl rfl (by kernel_rfl) (fun _ _ _ h => h) (Or.inl ⟨by rfl, ?_⟩) ?_ ?_
        rotate_left
        · intro w'
          go_simp
          with_reducible rfl
        rotate_left
        · simp only [Act.put, List.setIfInBounds_toArray, List.set_cons_zero, List.set_cons_succ, i64_w, i32_w]
          rfl
        refine pure_ (i := 4) (N := some 37) (v := ?_) (a' := ?_) #[true,false,true,true,true,false,false,false,false,false,false,false,false,false,false,false,false] rfl rfl (by kernel_rfl) (fun _ _ _ h => h) (Or.inl ⟨by rfl, ?_⟩) ?_ ?_
        rotate_left
        · intro w'
          go_simp
          with_reducible rfl
        rotate_left
        · simp only [Act.put, List.setIfInBounds_toArray, List.set_cons_zero, List.set_cons_succ, i64_w, i32_w]
          rfl
        refine pure_ (i := 5) (N := some 38) (v := ?_) (a' := ?_) #[true,false,true,true,true,true,false,false,false,false,false,false,false,false,false,false,false] rfl rfl (by kernel_rfl) (fun _ _ _ h => h) (Or.inl ⟨by rfl, ?_⟩) ?_ ?_
        rotate_left
        · intro w'
          go_simp
          with_reducible rfl
        rotate_left
        · simp only [Act.put, List.setIfInBounds_toArray, List.set_cons_zero, List.set_cons_succ, i64_w, i32_w]
          rfl
        refine pure_ (i := 7) (N := some 40) (v := ?_) (a' := ?_) #[true,false,true,true,true,true,false,true,false,false,false,false,false,false,false,false,false] rfl rfl (by kernel_rfl) (fun _ _ _ h => h) (Or.inl ⟨by rfl, ?_⟩) ?_ ?_
        rotate_left
        · intro w'
          go_simp
          with_reducible rfl
        rotate_left
        · simp only [Act.put, List.setIfInBounds_toArray, List.set_cons_zero, List.set_cons_succ, i64_w, i32_w]
          rfl
        refine pure_ (i := 8) (N := some 41) (v := ?_) (a' := ?_) #[true,false,true,true,true,true,false,true,true,false,false,false,false,false,false,false,false] rfl rfl (by kernel_rfl) (fun _ _ _ h => h) (Or.inl ⟨by rfl, ?_⟩) ?_ ?_
        rotate_left
        · intro w'
          go_simp
          with_reducible rfl
        rotate_left
        · simp only [Act.put, List.setIfInBounds_toArray, List.set_cons_zero, List.set_cons_succ, i64_w, i32_w]
          rfl
        refine pure_ (i := 9) (N := some 42) (v := ?_) (a' := ?_) #[true,false,true,true,true,true,false,true,true,true,false,false,false,false,false,false,false] rfl rfl (by kernel_rfl) (fun _ _ _ h => h) (Or.inl ⟨by rfl, ?_⟩) ?_ ?_
        rotate_left
        · intro w'
          go_simp
          with_reducible rfl
        rotate_left
        · simp only [Act.put, List.setIfInBounds_toArray, List.set_cons_zero, List.set_cons_succ, i64_w, i32_w]
          rfl
        refine take_ (i := 1) (N := some 34) (v := ?_) (a' := ?_) #[true,true,true,true,true,true,false,true,true,true,false,false,false,false,false,false,false] rfl rfl (by kernel_rfl) (fun _ _ _ h => h) (Or.inl ⟨by rfl, ?_⟩) hHeld ?_ ?_
        rotate_left
        · rintro w' ⟨s0, s1⟩
          go_simp
          with_reducible rfl
        rotate_left
        · simp only [Act.put, List.setIfInBounds_toArray, List.set_cons_zero, List.set_cons_succ, i64_w, i32_w]
          rfl
        refine take_ (i := 6) (N := some 39) (v := ?_) (a' := ?_) #[true,true,true,true,true,true,true,true,true,true,false,false,false,false,false,false,false] rfl rfl (by kernel_rfl) (fun _ _ _ h => h) (Or.inl ⟨by rfl, ?_⟩) hHeld ?_ ?_
        rotate_left
        · rintro w' ⟨s0, s1⟩
          go_simp
          with_reducible rfl
        rotate_left
        · simp only [Act.put, List.setIfInBounds_toArray, List.set_cons_zero, List.set_cons_succ, i64_w, i32_w]
          rfl
        refine pure_ (i := 10) (N := some 43) (v := ?_) (a' := ?_) #[true,true,true,true,true,true,true,true,true,true,true,false,false,false,false,false,false] rfl rfl (by kernel_rfl) (fun _ _ _ h => h) (Or.inl ⟨by rfl, ?_⟩) ?_ ?_
        rotate_left
        · intro w'
          go_simp
          with_reducible rfl
        rotate_left
        · simp only [Act.put, List.setIfInBounds_toArray, List.set_cons_zero, List.set_cons_succ, i64_w, i32_w]
          rfl
        refine one_ (i := 11) (N := some 44) #[true,true,true,true,true,true,true,true,true,true,true,true,false,false,false,false,false] rfl rfl (by kernel_rfl) (by decide) (fun K hK => ?_)
        refine goes_ Try.func117 (by kernel_rfl) rfl #[.slice (some ⟨b, o + j, none⟩) 8 (c - j)] (by rfl) rfl rfl (by (try simp only [List.map_toArray, List.map_cons, List.map_nil]); first | done | rfl) ?_
        with_reducible refine (Clone_calls _ ((B.drop j).take 8) _ (HMD.out _ ((HI.out.below HCK.out.bel).below (below_drew (Below.refl _ _))).b) (by rw [HD8.out]; decide)).mono ?_
        rintro e w2 ⟨vq, rfl, hoq, hbq⟩
        refine ⟨_, rfl, ?_⟩
        obtain ⟨A0, c0, rfl, _, _⟩ := hoq.sl HD8.out
        refine hK.out _ _ ⟨(pw_cell_below hbq hHeld.1), (pw_cell_below hbq hHeld.2)⟩ (fun hHeld => ?_)
        clear hK K
        refine norm_ (a' := ?_) ?_ ?_
        rotate_left
        · show Act.put _ (some 44) _ = _
          simp only [Act.put, List.setIfInBounds_toArray, List.set_cons_zero, List.set_cons_succ, i64_w, i32_w]
          rfl
        refine pure_ (i := 12) (N := some 45) (v := ?_) (a' := ?_) #[true,true,true,true,true,true,true,true,true,true,true,true,true,false,false,false,false] rfl rfl (by kernel_rfl) (fun _ _ _ h => h) (Or.inl ⟨by rfl, ?_⟩) ?_ ?_
        rotate_left
        · intro w'
          go_simp
          with_reducible rfl
        rotate_left
        · simp only [Act.put, List.setIfInBounds_toArray, List.set_cons_zero, List.set_cons_succ, i64_w, i32_w]
          rfl
        refine one_ (i := 13) (N := some 46) #[true,true,true,true,true,true,true,true,true,true,true,true,true,true,false,false,false] rfl rfl (by kernel_rfl) (by decide) (fun K hK => ?_)
        refine value_ (w1 := ?_) (v := ?_) (by rfl) rfl ?_ ?_
        rotate_left 2
        · go_simp
          constructor
          · rfl
          · rfl
        refine hK.out _ _ ⟨(pw_cell_below (below_alloc (Below.refl _ _) _) hHeld.1), (pw_cell_below (below_alloc (Below.refl _ _) _) hHeld.2)⟩ (fun hHeld => ?_)
        clear hK K
        refine norm_ (a' := ?_) ?_ ?_
        rotate_left
        · show Act.put _ (some 46) _ = _
          simp only [Act.put, List.setIfInBounds_toArray, List.set_cons_zero, List.set_cons_succ, i64_w, i32_w]
          rfl
        refine last_ (i := 14) (N := some 47) #[true,true,true,true,true,true,true,true,true,true,true,true,true,true,true,false,false] rfl rfl (by kernel_rfl) (by decide) (fun K hK => ?_)
        have hb2 : Below wr.heap.size wr w2 := below_step (below_drew (Below.refl _ _)) hbq
        obtain ⟨A3, c3, w4, hr4, hp4, hk4⟩ := app_patch (j : Int) A0 8 c0 (HCK.out.2.2.1.below hb2) (HCK.out.plen (by rw [HWN.out]; exact hk)) (Nat.le_trans HCK.out.bel.size hb2.size) (Nat.le_trans hk hwl)
        refine app_step (by rfl) (.tmp 34) (.tmp 46) rfl rfl rfl hr4 ?_
        refine hK.out _ _ ?_
        clear hK K
        refine norm_ (a' := ?_) ?_ ?_
        rotate_left
        · show Act.put _ (some 47) _ = _
          simp only [Act.put, List.setIfInBounds_toArray, List.set_cons_zero, List.set_cons_succ, i64_w, i32_w]
          rfl
        refine pure_ (i := 15) (N := some 48) (v := ?_) (a' := ?_) #[true,true,true,true,true,true,true,true,true,true,true,true,true,true,true,true,false] rfl rfl (by kernel_rfl) (fun _ _ _ h => h) (Or.inl ⟨by rfl, ?_⟩) ?_ ?_
        rotate_left
        · intro w'
          go_simp
          with_reducible rfl
        rotate_left
        · simp only [Act.put, List.setIfInBounds_toArray, List.set_cons_zero, List.set_cons_succ, i64_w, i32_w]
          rfl
        refine last_ (i := 16) (N := none) #[true,true,true,true,true,true,true,true,true,true,true,true,true,true,true,true,true] rfl rfl (by kernel_rfl) (by decide) (fun K hK => ?_)
        have zz2 := blk_cell (hk4.blk (blk_below HCK.out.1 hb2) ((HCK.out.2.2.1.below hb2).ne (blk_below HCK.out.1 hb2) (by decide))) 2
        have zf2 := blk_frozen (hk4.blk (blk_below HCK.out.1 hb2) ((HCK.out.2.2.1.below hb2).ne (blk_below HCK.out.1 hb2) (by decide))) 2
        refine skip_ (w1 := ?_) (by rfl) rfl ?_ ?_
        rotate_left
        · go_simp
          rfl
        refine hK.out _ _ ?_
        clear hK K
        refine done_ (by kernel_rfl) ?_
        have HCN := Aside0.mk (HCK.out.snoc hb2 (hoq.ge_ (Nat.le_refl _)) hk4 hp4 (by rw [HWN.out]; exact c2) HJ.out)
        clear hb2 hoq hbq hk4 hp4 hr4 zz2 zf2 x2 r0 r1 r2 r3 r4 r5 r6 r7 r8 hsl
        go_wp2_with fail
        go_roundw
        case rel => exact ⟨k + 1, by omega, by go_num, _, _, HCN⟩
        case measure => simp [intOf] <;> omega
      · obtain rfl : k = wl := by omega
        go_wp2_with fail
        go_meet
        exact ⟨_, _, HCK⟩
  case rest =>
  obtain ⟨vp, ps, HCK⟩ := hcut
  clear r0 r1 r2 r3 r4 r5 r6 r7 r8
  have x0 : (wc).cell? ⟨g3, 0, none⟩ = some (.int .i64 (q : Int)) := blk_cell HCK.out.1 0
  have x1 : (wc).cell? ⟨g3, 1, none⟩ = some (.slice Av m cv) := blk_cell HCK.out.1 1
  have x2 : (wc).cell? ⟨g3, 2, none⟩ = some (vp) := blk_cell HCK.out.1 2
  have z0 : (wc).cell? ⟨w.heap.size, 0, none⟩ = some (.int .i64 0) := blk_cell HCK.out.2.2.2.2.2.1 0
  have z1 : (wc).cell? ⟨w.heap.size, 1, none⟩ = some (.slice none 0 0) := blk_cell HCK.out.2.2.2.2.2.1 1
  have z2 : (wc).cell? ⟨w.heap.size, 2, none⟩ = some (.slice none 0 0) := blk_cell HCK.out.2.2.2.2.2.1 2
  have f0 := blk_frozen HCK.out.2.2.2.2.2.1 0
  have f1 := blk_frozen HCK.out.2.2.2.2.2.1 1
  have f2 := blk_frozen HCK.out.2.2.2.2.2.1 2
  obtain ⟨A2, c2, rfl⟩ := HCK.out.2.2.1.slice rfl
  go_wp2_with fail
  refine bodyPost_ret (v := .agg #[.int .i64 (q : Int), .slice Av m cv, .slice A2 ps.length c2]) (by simp [results, Try.results53, go_sem, z0, z1, z2]) rfl ?_
  obtain ⟨hz, hva, hp, hpp, hb, hz0, hg⟩ := HCK.out
  rw [List.take_of_length_le (by rw [HWN.out]; exact Nat.le_refl _)] at hpp
  have ne : ∀ (k : Nat) (cs : Array Value), wc.heap[k]? = some (.cells cs 5 (0, 0)) → k ≠ w.heap.size := fun k cs h e => by
    rw [e, hz0] at h
    injection h with h
    injection h with _ h
    exact absurd h (by decide)
  refine ⟨_, _, ps, rfl, hva.move fun k hk => far3 (fun e => hva.ne hz0 (by decide) (by rw [hk, e])) _ _ _, hp.move fun k hk => far3 (fun e => hp.ne hz0 (by decide) (by rw [hk, e])) _ _ _, hpp.move fun k cs hcs _ => far3 (ne k cs hcs) _ _ _, below_set3 hb (Nat.le_refl _) _ _ _⟩
end Go.Proofs.Ytigdchfjcfljjaa
end
section
/- The document's image: what stands in memory; Word, Done, Back, Object. -/
namespace Go.Proofs.Ytigdchfjcfljjaa
open Go.RowKit Go.Proofs.YtigdchfjcfljjaaW.PrintWords Go.Proofs.YtigdchfjcfljjaaW.PrintLast Go.Proofs.YtigdchfjcfljjaaW.PrintMore
attribute [local go_sem] max2_int min2_int max_two min_two max_three min_three max_four min_four
def rmA (H : Hd) (vb va : Value) (lim : Int) (vw : Value) : Array Value := #[.int .u64 H.id, .int .u64 H.key, .int .i64 H.data, .int .i64 H.fields, .int .u64 H.made, vb, va, .int .i64 lim, vw]
/-- An image of the document's: header, bytes, bytes as they were, limit, words that were set. -/
def Rm (W : World) (g base : Nat) (H : Hd) (B Was : List Int) (lim : Int) (ws : List Int) (F : Nat → Prop) (vb va vw : Value) : Prop :=
  W.heap[g]? = some (.cells (rmA H vb va lim vw) 85 (0, 0)) ∧ OwnO (Value.int .u8) W base 5 vb B ∧ OwnO (Value.int .u8) W base 5 va Was ∧ OwnO (Value.int .i64) W base 3 vw ws ∧ F g ∧ (∀ k, vb.ownBlock = some k → F k) ∧ (∀ k, va.ownBlock = some k → F k) ∧ (∀ k, vw.ownBlock = some k → F k) ∧ (∀ k, F k → base ≤ k ∧ k < W.heap.size)
section
variable {W W' : World} {g base : Nat} {H : Hd} {B Was ws : List Int} {lim : Int} {F S : Nat → Prop} {vb va vw : Value}
theorem Rm.move (h : Rm W g base H B Was lim ws F vb va vw) (hm : ∀ k, F k → W'.heap[k]? = W.heap[k]?) (hs : W.heap.size ≤ W'.heap.size) : Rm W' g base H B Was lim ws F vb va vw := by
  obtain ⟨h1, h2, h2', h3, h4, h5, h5', h6, h7⟩ := h
  exact ⟨(hm g h4).trans h1, h2.move (fun k hk => hm k (h5 k hk)), h2'.move (fun k hk => hm k (h5' k hk)), h3.move (fun k hk => hm k (h6 k hk)), h4, h5, h5', h6, fun k hk => ⟨(h7 k hk).1, Nat.lt_of_lt_of_le (h7 k hk).2 hs⟩⟩
theorem Rm.lt (h : Rm W g base H B Was lim ws F vb va vw) {k : Nat} (hk : F k) : k < W.heap.size := (h.2.2.2.2.2.2.2.2 k hk).2
theorem Rm.ge (h : Rm W g base H B Was lim ws F vb va vw) {k : Nat} (hk : F k) : base ≤ k := (h.2.2.2.2.2.2.2.2 k hk).1
theorem Rm.below (h : Rm W g base H B Was lim ws F vb va vw) (hb : Below W.heap.size W W') : Rm W' g base H B Was lim ws F vb va vw := h.move (fun k hk => hb.block k (h.lt hk)) hb.size
theorem Rm.kp (h : Rm W g base H B Was lim ws F vb va vw) (hk : Kp S W W') (hn : ∀ k, F k → ¬ S k) : Rm W' g base H B Was lim ws F vb va vw := h.move (fun k hf => hk.block k (h.lt hf) (hn k hf)) hk.size
theorem Rm.blk (h : Rm W g base H B Was lim ws F vb va vw) : W.heap[g]? = some (.cells (rmA H vb va lim vw) 85 (0, 0)) := h.1
theorem Rm.b (h : Rm W g base H B Was lim ws F vb va vw) : OwnO (Value.int .u8) W base 5 vb B := h.2.1
theorem Rm.a (h : Rm W g base H B Was lim ws F vb va vw) : OwnO (Value.int .u8) W base 5 va Was := h.2.2.1
theorem Rm.w (h : Rm W g base H B Was lim ws F vb va vw) : OwnO (Value.int .i64) W base 3 vw ws := h.2.2.2.1
theorem Rm.fg (h : Rm W g base H B Was lim ws F vb va vw) : F g := h.2.2.2.2.1
theorem Rm.fb (h : Rm W g base H B Was lim ws F vb va vw) : ∀ k, vb.ownBlock = some k → F k := h.2.2.2.2.2.1
theorem Rm.fa (h : Rm W g base H B Was lim ws F vb va vw) : ∀ k, va.ownBlock = some k → F k := h.2.2.2.2.2.2.1
theorem Rm.fw (h : Rm W g base H B Was lim ws F vb va vw) : ∀ k, vw.ownBlock = some k → F k := h.2.2.2.2.2.2.2.1
theorem Rm.bs (h : Rm W g base H B Was lim ws F vb va vw) : base ≤ W.heap.size := Nat.le_trans (h.ge h.fg) (Nat.le_of_lt (h.lt h.fg))
theorem Rm.b_ne (h : Rm W g base H B Was lim ws F vb va vw) : vb.ownBlock ≠ some g := h.b.ne h.blk (by decide)
theorem Rm.a_ne (h : Rm W g base H B Was lim ws F vb va vw) : va.ownBlock ≠ some g := h.a.ne h.blk (by decide)
theorem Rm.w_ne (h : Rm W g base H B Was lim ws F vb va vw) : vw.ownBlock ≠ some g := h.w.ne h.blk (by decide)
end
def RmS (W W' : World) (g base : Nat) (H : Hd) (B Was : List Int) (lim : Int) (ws : List Int) (F : Nat → Prop) : Prop := (∃ vb va vw, Rm W' g base H B Was lim ws (ext F W W') vb va vw) ∧ Kp F W W'
theorem RmS.of {W W' : World} {g base : Nat} {H : Hd} {B B' Was Was' ws ws' : List Int} {lim : Int} {F : Nat → Prop} {vb va vw vb' va' vw' : Value} (h : Rm W g base H B Was lim ws F vb va vw) (hk : Kp F W W')
    (hb : W'.heap[g]? = some (.cells (rmA H vb' va' lim vw') 85 (0, 0))) (h1 : OwnO (Value.int .u8) W' base 5 vb' B') (h2 : OwnO (Value.int .u8) W' base 5 va' Was') (h3 : OwnO (Value.int .i64) W' base 3 vw' ws') (e1 : ∀ k, vb'.ownBlock = some k → ext F W W' k) (e2 : ∀ k, va'.ownBlock = some k → ext F W W' k) (e3 : ∀ k, vw'.ownBlock = some k → ext F W W' k) : RmS W W' g base H B' Was' lim ws' F :=
  ⟨⟨vb', va', vw', hb, h1, h2, h3, .inl h.fg, e1, e2, e3, fun k hk' => hk'.elim (fun hf => ⟨h.ge hf, Nat.lt_of_lt_of_le (h.lt hf) hk.size⟩) (fun hh => ⟨Nat.le_trans h.bs hh.1, hh.2⟩)⟩, hk⟩
theorem RmS.same {W W' : World} {g base : Nat} {H : Hd} {B Was ws : List Int} {lim : Int} {F : Nat → Prop} {vb va vw : Value} (h : Rm W g base H B Was lim ws F vb va vw) (hb : Below W.heap.size W W') : RmS W W' g base H B Was lim ws F :=
  RmS.of h (Kp.of_below hb _) (h.below hb).blk (h.below hb).b (h.below hb).a (h.below hb).w (fun k hk => .inl (h.fb k hk)) (fun k hk => .inl (h.fa k hk)) (fun k hk => .inl (h.fw k hk))
/-- append to a row of the call's own: some bytes. -/
theorem app_row {W : World} {base : Nat} {v u : Value} {xs ys : List Int} {k m : Nat} (HO : OwnO (Value.int .u8) W base 5 v xs) (HR : Rd W .u8 u ys) (hk : xs.length = k) (hm : ys.length = m) (hbase : base ≤ W.heap.size) (hl : k + m ≤ 1000000) :
    ∃ A1 c1 w1, (Builtin.append_ #[22, 22] 22 #[v, u]).run Try.prog W = .ok (.slice A1 (k + m) c1) w1 ∧ OwnO (Value.int .u8) w1 base 5 (.slice A1 (k + m) c1) (xs ++ ys) ∧ Kp (fun b => v.ownBlock = some b) W w1 := by
  obtain ⟨A1, c1, w1, h1, h2, h3, _⟩ := app_rd (P := Try.prog) (d := (0 : Int)) (fun x => rfl) Try.underlying22 infoU8 rfl (by omega) HO (rdE_int.2 HR) hk hm hbase (by omega)
  exact ⟨A1, c1, w1, h1, h2, h3⟩
theorem own_empty (W : World) (base : Nat) (h : base ≤ W.heap.size) : OwnO (Value.int .u8) (W.alloc (.cells #[] 5)) base 5 (.slice (some ⟨W.heap.size, 0, none⟩) 0 0) [] := OwnO.of_own (own_lit_of (enc := Value.int .u8) W base 5 [] h (by simp))
/-- append([]byte{}, ..): a copy. -/
theorem copy_row {w : World} {v : Value} {l : List Int} {n : Nat} (hr : Rd w .u8 v l) (hn : l.length = n) (hl : n ≤ 1000000) :
    ∃ A1 c1 w1, (Builtin.append_ #[22, 22] 22 #[.slice (some ⟨w.heap.size, 0, none⟩) 0 0, v]).run Try.prog (w.alloc (.cells #[] 5)) = .ok (.slice A1 n c1) w1 ∧ OwnO (Value.int .u8) w1 w.heap.size 5 (.slice A1 n c1) l ∧ Below w.heap.size w w1 := by
  have HO := own_empty w w.heap.size (Nat.le_refl _)
  obtain ⟨A1, c1, w1, h1, h2, h3⟩ := app_row HO (hr.below (below_alloc (Below.refl _ _) (.cells #[] 5))) rfl hn (by simp) (by simpa using hl)
  simp only [List.length_nil, Nat.zero_add, List.nil_append] at h1 h2
  exact ⟨A1, c1, w1, h1, h2, Kp.from (below_alloc (Below.refl w.heap.size w) (.cells #[] 5)) h3 (fun b hb => HO.ge hb)⟩
set_option maxHeartbeats 8000000 in
set_option maxRecDepth 100000 in
theorem RWord_calls (g base : Nat) (H : Hd) (B Was : List Int) (lim : Int) (ws : List Int) (F : Nat → Prop) (vb va vw : Value) (w : World) (hI : Rm w g base H B Was lim ws F vb va vw) (a : Int) (hb : isB B) : Calls Try.prog 124 #[.pointer (some ⟨g, 0, none⟩), .int .i64 a] w fun e w' => e = .returned (.int .u64 (getN B a 8)) ∧ Below w.heap.size w w' := by
  have HI := Aside0.mk hI
  have C := Aside0.mk (ref_Get_calls vb B a 8 w hI.b.rd hb)
  clear hI
  have r0 : (w).cell? ⟨g, 0, none⟩ = some (.int .u64 H.id) := blk_cell HI.out.blk 0
  have r1 : (w).cell? ⟨g, 1, none⟩ = some (.int .u64 H.key) := blk_cell HI.out.blk 1
  have r2 : (w).cell? ⟨g, 2, none⟩ = some (.int .i64 H.data) := blk_cell HI.out.blk 2
  have r3 : (w).cell? ⟨g, 3, none⟩ = some (.int .i64 H.fields) := blk_cell HI.out.blk 3
  have r4 : (w).cell? ⟨g, 4, none⟩ = some (.int .u64 H.made) := blk_cell HI.out.blk 4
  have r5 : (w).cell? ⟨g, 5, none⟩ = some (vb) := blk_cell HI.out.blk 5
  have r6 : (w).cell? ⟨g, 6, none⟩ = some (va) := blk_cell HI.out.blk 6
  have r7 : (w).cell? ⟨g, 7, none⟩ = some (.int .i64 lim) := blk_cell HI.out.blk 7
  have r8 : (w).cell? ⟨g, 8, none⟩ = some (vw) := blk_cell HI.out.blk 8
  go_enter Try.func124, Try.ntmps124
  go_wp2_with fail
  refine (C.out).mono ?_
  rintro e w1 ⟨rfl, hb⟩
  have HB := Aside0.mk hb
  clear hb
  go_wp2_with fail
  go_ret
  exact ⟨rfl, HB.out⟩
set_option maxHeartbeats 8000000 in
set_option maxRecDepth 100000 in
theorem RDone_calls (g base : Nat) (H : Hd) (B Was : List Int) (lim : Int) (ws : List Int) (F : Nat → Prop) (vb va vw : Value) (w : World) (hI : Rm w g base H B Was lim ws F vb va vw) (n : Nat) (hn : B.length = n) (hl : n ≤ 1000000) : Calls Try.prog 52 #[.pointer (some ⟨g, 0, none⟩)] w fun e w' => e = .returned (.tuple #[]) ∧ RmS w w' g base H B B lim [] F := by
  have HI := Aside0.mk hI
  obtain ⟨A1, c1, w1, hr, ho, hb⟩ := copy_row hI.b.rd hn hl
  have HR := Aside0.mk hr
  have HO := Aside0.mk ho
  have HB := Aside0.mk hb
  clear hI hr ho hb
  have t0 : (w.alloc (.cells #[] 5)).cell? ⟨g, 0, none⟩ = some (.int .u64 H.id) := blk_cell (blk_alloc HI.out.blk (.cells #[] 5)) 0
  have t1 : (w.alloc (.cells #[] 5)).cell? ⟨g, 1, none⟩ = some (.int .u64 H.key) := blk_cell (blk_alloc HI.out.blk (.cells #[] 5)) 1
  have t2 : (w.alloc (.cells #[] 5)).cell? ⟨g, 2, none⟩ = some (.int .i64 H.data) := blk_cell (blk_alloc HI.out.blk (.cells #[] 5)) 2
  have t3 : (w.alloc (.cells #[] 5)).cell? ⟨g, 3, none⟩ = some (.int .i64 H.fields) := blk_cell (blk_alloc HI.out.blk (.cells #[] 5)) 3
  have t4 : (w.alloc (.cells #[] 5)).cell? ⟨g, 4, none⟩ = some (.int .u64 H.made) := blk_cell (blk_alloc HI.out.blk (.cells #[] 5)) 4
  have t5 : (w.alloc (.cells #[] 5)).cell? ⟨g, 5, none⟩ = some (vb) := blk_cell (blk_alloc HI.out.blk (.cells #[] 5)) 5
  have t6 : (w.alloc (.cells #[] 5)).cell? ⟨g, 6, none⟩ = some (va) := blk_cell (blk_alloc HI.out.blk (.cells #[] 5)) 6
  have t7 : (w.alloc (.cells #[] 5)).cell? ⟨g, 7, none⟩ = some (.int .i64 lim) := blk_cell (blk_alloc HI.out.blk (.cells #[] 5)) 7
  have t8 : (w.alloc (.cells #[] 5)).cell? ⟨g, 8, none⟩ = some (vw) := blk_cell (blk_alloc HI.out.blk (.cells #[] 5)) 8
  have s0 : (w1).cell? ⟨g, 0, none⟩ = some (.int .u64 H.id) := blk_cell (HI.out.below HB.out).blk 0
  have s1 : (w1).cell? ⟨g, 1, none⟩ = some (.int .u64 H.key) := blk_cell (HI.out.below HB.out).blk 1
  have s2 : (w1).cell? ⟨g, 2, none⟩ = some (.int .i64 H.data) := blk_cell (HI.out.below HB.out).blk 2
  have s3 : (w1).cell? ⟨g, 3, none⟩ = some (.int .i64 H.fields) := blk_cell (HI.out.below HB.out).blk 3
  have s4 : (w1).cell? ⟨g, 4, none⟩ = some (.int .u64 H.made) := blk_cell (HI.out.below HB.out).blk 4
  have s5 : (w1).cell? ⟨g, 5, none⟩ = some (vb) := blk_cell (HI.out.below HB.out).blk 5
  have s6 : (w1).cell? ⟨g, 6, none⟩ = some (va) := blk_cell (HI.out.below HB.out).blk 6
  have s7 : (w1).cell? ⟨g, 7, none⟩ = some (.int .i64 lim) := blk_cell (HI.out.below HB.out).blk 7
  have s8 : (w1).cell? ⟨g, 8, none⟩ = some (vw) := blk_cell (HI.out.below HB.out).blk 8
  have f0 := blk_frozen (HI.out.below HB.out).blk 0
  have f1 := blk_frozen (HI.out.below HB.out).blk 1
  have f2 := blk_frozen (HI.out.below HB.out).blk 2
  have f3 := blk_frozen (HI.out.below HB.out).blk 3
  have f4 := blk_frozen (HI.out.below HB.out).blk 4
  have f5 := blk_frozen (HI.out.below HB.out).blk 5
  have f6 := blk_frozen (HI.out.below HB.out).blk 6
  have f7 := blk_frozen (HI.out.below HB.out).blk 7
  have f8 := blk_frozen (HI.out.below HB.out).blk 8
  go_enter Try.func52, Try.ntmps52
  go_wp2_with (first | ((with_reducible refine gate_builtin (b := .append) (xs := #[.tmp 3, .tmp 7]) rfl ?_); at_builtin; refine app_list rfl (.tmp 3) (.tmp 7) rfl rfl rfl HR.out ?_))
  go_end0
  have hi1 := HI.out.below HB.out
  have hk : Kp F w ((w1.setCell ⟨g, 6, none⟩ (.slice A1 n c1)).setCell ⟨g, 8, none⟩ (.slice none 0 0)) := ((Kp.of_below HB.out F).trans (Kp.set w1 ⟨g, 6, none⟩ _) (fun k hk => .inl (by rw [hk]; exact HI.out.fg))).trans (Kp.set _ ⟨g, 8, none⟩ _) (fun k hk => .inl (by rw [hk]; exact HI.out.fg))
  have far : ∀ k, k ≠ g → ((w1.setCell ⟨g, 6, none⟩ (.slice A1 n c1)).setCell ⟨g, 8, none⟩ (.slice none 0 0)).heap[k]? = w1.heap[k]? := fun k h => (Below.heap_setCell _ ⟨g, 8, none⟩ _ k h).trans (Below.heap_setCell _ ⟨g, 6, none⟩ _ k h)
  have hne : (Value.slice A1 n c1).ownBlock ≠ some g := HO.out.ne hi1.blk (by decide)
  have hnew := (HO.out.ge_ HI.out.bs).move (fun k hk => far k (fun e => hne (by rw [hk, e])))
  refine ⟨rfl, RmS.of (vb' := vb) (va' := .slice A1 n c1) (vw' := .slice none 0 0) HI.out hk ?_ (hi1.b.move (fun k hk => far k (fun e => hi1.b_ne (by rw [hk, e])))) (hnew) (OwnO.nil _ _ _ _) (fun k hk => .inl (HI.out.fb k hk)) (fun k hk => .inr ⟨HO.out.ge hk, by have := HO.out.lt hk; simpa using this⟩) (fun k hk => by cases hk)⟩
  simpa [rmA] using blk_set (blk_set hi1.blk 6 (.slice A1 n c1)) 8 (.slice none 0 0)
set_option maxHeartbeats 8000000 in
set_option maxRecDepth 100000 in
theorem RBack_calls (g base : Nat) (H : Hd) (B Was : List Int) (lim : Int) (ws : List Int) (F : Nat → Prop) (vb va vw : Value) (w : World) (hI : Rm w g base H B Was lim ws F vb va vw) (n : Nat) (hn : Was.length = n) (hl : n ≤ 1000000) : Calls Try.prog 123 #[.pointer (some ⟨g, 0, none⟩)] w fun e w' => e = .returned (.tuple #[]) ∧ RmS w w' g base H Was Was lim [] F := by
  have HI := Aside0.mk hI
  obtain ⟨A1, c1, w1, hr, ho, hb⟩ := copy_row hI.a.rd hn hl
  have HR := Aside0.mk hr
  have HO := Aside0.mk ho
  have HB := Aside0.mk hb
  clear hI hr ho hb
  have t0 : (w.alloc (.cells #[] 5)).cell? ⟨g, 0, none⟩ = some (.int .u64 H.id) := blk_cell (blk_alloc HI.out.blk (.cells #[] 5)) 0
  have t1 : (w.alloc (.cells #[] 5)).cell? ⟨g, 1, none⟩ = some (.int .u64 H.key) := blk_cell (blk_alloc HI.out.blk (.cells #[] 5)) 1
  have t2 : (w.alloc (.cells #[] 5)).cell? ⟨g, 2, none⟩ = some (.int .i64 H.data) := blk_cell (blk_alloc HI.out.blk (.cells #[] 5)) 2
  have t3 : (w.alloc (.cells #[] 5)).cell? ⟨g, 3, none⟩ = some (.int .i64 H.fields) := blk_cell (blk_alloc HI.out.blk (.cells #[] 5)) 3
  have t4 : (w.alloc (.cells #[] 5)).cell? ⟨g, 4, none⟩ = some (.int .u64 H.made) := blk_cell (blk_alloc HI.out.blk (.cells #[] 5)) 4
  have t5 : (w.alloc (.cells #[] 5)).cell? ⟨g, 5, none⟩ = some (vb) := blk_cell (blk_alloc HI.out.blk (.cells #[] 5)) 5
  have t6 : (w.alloc (.cells #[] 5)).cell? ⟨g, 6, none⟩ = some (va) := blk_cell (blk_alloc HI.out.blk (.cells #[] 5)) 6
  have t7 : (w.alloc (.cells #[] 5)).cell? ⟨g, 7, none⟩ = some (.int .i64 lim) := blk_cell (blk_alloc HI.out.blk (.cells #[] 5)) 7
  have t8 : (w.alloc (.cells #[] 5)).cell? ⟨g, 8, none⟩ = some (vw) := blk_cell (blk_alloc HI.out.blk (.cells #[] 5)) 8
  have s0 : (w1).cell? ⟨g, 0, none⟩ = some (.int .u64 H.id) := blk_cell (HI.out.below HB.out).blk 0
  have s1 : (w1).cell? ⟨g, 1, none⟩ = some (.int .u64 H.key) := blk_cell (HI.out.below HB.out).blk 1
  have s2 : (w1).cell? ⟨g, 2, none⟩ = some (.int .i64 H.data) := blk_cell (HI.out.below HB.out).blk 2
  have s3 : (w1).cell? ⟨g, 3, none⟩ = some (.int .i64 H.fields) := blk_cell (HI.out.below HB.out).blk 3
  have s4 : (w1).cell? ⟨g, 4, none⟩ = some (.int .u64 H.made) := blk_cell (HI.out.below HB.out).blk 4
  have s5 : (w1).cell? ⟨g, 5, none⟩ = some (vb) := blk_cell (HI.out.below HB.out).blk 5
  have s6 : (w1).cell? ⟨g, 6, none⟩ = some (va) := blk_cell (HI.out.below HB.out).blk 6
  have s7 : (w1).cell? ⟨g, 7, none⟩ = some (.int .i64 lim) := blk_cell (HI.out.below HB.out).blk 7
  have s8 : (w1).cell? ⟨g, 8, none⟩ = some (vw) := blk_cell (HI.out.below HB.out).blk 8
  have f0 := blk_frozen (HI.out.below HB.out).blk 0
  have f1 := blk_frozen (HI.out.below HB.out).blk 1
  have f2 := blk_frozen (HI.out.below HB.out).blk 2
  have f3 := blk_frozen (HI.out.below HB.out).blk 3
  have f4 := blk_frozen (HI.out.below HB.out).blk 4
  have f5 := blk_frozen (HI.out.below HB.out).blk 5
  have f6 := blk_frozen (HI.out.below HB.out).blk 6
  have f7 := blk_frozen (HI.out.below HB.out).blk 7
  have f8 := blk_frozen (HI.out.below HB.out).blk 8
  go_enter Try.func123, Try.ntmps123
  go_wp2_with (first | ((with_reducible refine gate_builtin (b := .append) (xs := #[.tmp 3, .tmp 7]) rfl ?_); at_builtin; refine app_list rfl (.tmp 3) (.tmp 7) rfl rfl rfl HR.out ?_))
  go_end0
  have hi1 := HI.out.below HB.out
  have hk : Kp F w ((w1.setCell ⟨g, 5, none⟩ (.slice A1 n c1)).setCell ⟨g, 8, none⟩ (.slice none 0 0)) := ((Kp.of_below HB.out F).trans (Kp.set w1 ⟨g, 5, none⟩ _) (fun k hk => .inl (by rw [hk]; exact HI.out.fg))).trans (Kp.set _ ⟨g, 8, none⟩ _) (fun k hk => .inl (by rw [hk]; exact HI.out.fg))
  have far : ∀ k, k ≠ g → ((w1.setCell ⟨g, 5, none⟩ (.slice A1 n c1)).setCell ⟨g, 8, none⟩ (.slice none 0 0)).heap[k]? = w1.heap[k]? := fun k h => (Below.heap_setCell _ ⟨g, 8, none⟩ _ k h).trans (Below.heap_setCell _ ⟨g, 5, none⟩ _ k h)
  have hne : (Value.slice A1 n c1).ownBlock ≠ some g := HO.out.ne hi1.blk (by decide)
  have hnew := (HO.out.ge_ HI.out.bs).move (fun k hk => far k (fun e => hne (by rw [hk, e])))
  refine ⟨rfl, RmS.of (vb' := .slice A1 n c1) (va' := va) (vw' := .slice none 0 0) HI.out hk ?_ (hnew) (hi1.a.move (fun k hk => far k (fun e => hi1.a_ne (by rw [hk, e])))) (OwnO.nil _ _ _ _) (fun k hk => .inr ⟨HO.out.ge hk, by have := HO.out.lt hk; simpa using this⟩) (fun k hk => .inl (HI.out.fa k hk)) (fun k hk => by cases hk)⟩
  simpa [rmA] using blk_set (blk_set hi1.blk 5 (.slice A1 n c1)) 8 (.slice none 0 0)
end Go.Proofs.Ytigdchfjcfljjaa
end
