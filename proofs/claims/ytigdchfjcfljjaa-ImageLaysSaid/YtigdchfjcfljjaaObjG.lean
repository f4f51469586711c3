/- obj.Decode. -/
import Derived.Test.YtigdchfjcfljjaaObjD
namespace Go.Proofs.Ytigdchfjcfljjaa
open Go.RowKit Go.Proofs.YtigdchfjcfljjaaW.PrintWords Go.Proofs.YtigdchfjcfljjaaW.PrintLast Go.Proofs.YtigdchfjcfljjaaW.PrintMore
attribute [local go_sem] max2_int min2_int max_two min_two max_three min_three max_four min_four   -- for this text's walks alone
set_option linter.unusedVariables false
set_option linter.unusedSimpArgs false


theorem obelow_set {w W : World} (h : Below w.heap.size w W) (p : Addr) (hg : w.heap.size ≤ p.block) (v : Value) : Below w.heap.size w (W.setCell p v) := h.setCell hg v
theorem kp_set4 {S : Nat → Prop} {w5 w7 : World} {a : Nat} (h : Kp S w5 w7) (ha : S a) (v0 v1 v2 v3 : Value) : Kp S w5 ((((w7.setCell ⟨a, 0, none⟩ v0).setCell ⟨a, 1, none⟩ v1).setCell ⟨a, 2, none⟩ v2).setCell ⟨a, 3, none⟩ v3) := by
  have st : ∀ {w6 : World} (j : Nat) (v : Value), Kp S w5 w6 → Kp S w5 (w6.setCell ⟨a, j, none⟩ v) := fun j v hh => hh.trans (Kp.set _ ⟨a, j, none⟩ v) (fun k hk => .inl (by rw [hk]; exact ha))
  exact st 3 v3 (st 2 v2 (st 1 v1 (st 0 v0 h)))
theorem rd_end {k : IntKind} {w5 wf : World} {S : Nat → Prop} {base e : Nat} {u : Value} {xs ys : List Int} (ho : Own (Value.int k) w5 base e u xs) (hk : Kp S w5 wf) (hn : ∀ b, u.ownBlock = some b → ¬ S b) (hy : ys = xs) : Rd wf k u ys := by
  rw [hy]; exact Own.rd (hk.own ho hn)
theorem below_set4 {w w1 : World} {a : Nat} (h : Below w.heap.size w w1) (ha : w.heap.size ≤ a) (v0 v1 v2 v3 : Value) : Below w.heap.size w ((((w1.setCell ⟨a, 0, none⟩ v0).setCell ⟨a, 1, none⟩ v1).setCell ⟨a, 2, none⟩ v2).setCell ⟨a, 3, none⟩ v3) :=
  obelow_set (obelow_set (obelow_set (obelow_set h _ ha _) _ ha _) _ ha _) _ ha _
set_option maxHeartbeats 8000000 in
set_option maxRecDepth 100000 in
theorem obj_Decode_no (v : Value) (l : List Int) (a : Int) (w : World) (hr : Rd w .u8 v l) (hb : isB l) (hl : l.length ≤ 100000) (ha : a ≤ 100000) (ha0 : -9223372036854775808 ≤ a) (hf : frOk l a = false) :
    Calls Try.prog 33 #[v, .int .i64 a] w fun e w' => e = .returned (.tuple #[.agg #[.int .i64 0, .slice none 0 0, .slice none 0 0, .slice none 0 0], .int .i64 0, .bool false]) ∧ Below w.heap.size w w' := by
  have HV := Aside0.mk hr
  have HIB := Aside0.mk hb
  have HF := Aside0.mk (show frV l a = .tuple #[.int .i64 0, .int .i64 0, .bool false] by rw [frV, hf]; rfl)
  obtain ⟨A, c, rfl, hc, hm, hr'⟩ := hr.mid
  clear hr' hr hb hc hm hf
  have HZ0 := Aside0.mk (blk_new w (.cells #[.int .i64 0, .slice none 0 0, .slice none 0 0, .slice none 0 0] 51))
  have HB0 := Aside0.mk (below_alloc (Below.refl w.heap.size w) (.cells #[.int .i64 0, .slice none 0 0, .slice none 0 0, .slice none 0 0] 51))
  go_enter Try.func33, Try.ntmps33
  go_wp2_with fail
  refine (obj_frame_calls _ l a _ (HV.out.below HB0.out) HIB.out hl ha ha0).mono ?_
  rintro e w1 ⟨rfl, hb1⟩
  have HB1 := Aside0.mk (below_step HB0.out hb1)
  have H0 := blk_below HZ0.out hb1
  have r0 := blk_cell H0 0
  have r1 := blk_cell H0 1
  have r2 := blk_cell H0 2
  have r3 := blk_cell H0 3
  have f0 := blk_frozen H0 0
  have f1 := blk_frozen H0 1
  have f2 := blk_frozen H0 2
  have f3 := blk_frozen H0 3

  clear H0 hb1
  rw [HF.out]
  go_wp2_with fail
  refine bodyPost_ret (v := .tuple #[.agg #[.int .i64 0, .slice none 0 0, .slice none 0 0, .slice none 0 0], .int .i64 0, .bool false]) (by simp [results, Try.results33, go_sem, r0, r1, r2, r3]) rfl ⟨rfl, ?_⟩
  exact below_set4 HB1.out (Nat.le_refl _) _ _ _ _

def odW (l : List Int) (a K : Int) : List Int := wordsAt l (a + 16) (wN K).toNat
def odR (l : List Int) (a K S : Int) : List Int := if K < 3 then rawAt l (a + 16 + 8 * wN K) (S - (16 + 8 * wN K)) else []
def odI (l : List Int) (a K S : Int) : List Int := if K < 3 then [] else wordsAt l (a + 16 + 8 * wN K) ((S - (16 + 8 * wN K)) / 8).toNat
def odP (l : List Int) (a S al : Int) : List Int := (l.take (a + al).toNat).drop (a + S).toNat
def odG (l : List Int) (a K S al : Int) : Bool := oR K (odW l a K).length (odR l a K S).length (odI l a K S).length && (decide (K < 3) || decide (S % 8 = 0)) && !((odP l a S al).any fun x => x != 0)
set_option maxHeartbeats 8000000 in
set_option maxRecDepth 100000 in
theorem obj_Decode_1 (v : Value) (l : List Int) (a : Int) (w : World) (hr : Rd w .u8 v l) (hb : isB l) (hl : l.length ≤ 100000) (ha : a ≤ 100000) (ha0 : -9223372036854775808 ≤ a) (S al : Int) (hf : frV l a = .tuple #[.int .i64 1, .int .i64 S, .bool true]) (hal : alignZ S = al) (a0 : 0 ≤ a) (s0 : 56 ≤ S) (s1 : S ≤ al) (s2 : a + al ≤ l.length) :
    Calls Try.prog 33 #[v, .int .i64 a] w fun e w' => (∃ u1 u2 u3, e = .returned (bif odG l a 1 S al then .tuple #[.agg #[.int .i64 1, u1, u2, u3], .int .i64 (a + al), .bool true] else .tuple #[.agg #[.int .i64 0, .slice none 0 0, .slice none 0 0, .slice none 0 0], .int .i64 0, .bool false]) ∧ Rd w' .u64 u1 (odW l a 1) ∧ Rd w' .u8 u2 (odR l a 1 S) ∧ Rd w' .u64 u3 (odI l a 1 S)) ∧ Below w.heap.size w w' := by
  have HV := Aside0.mk hr
  have HIB := Aside0.mk hb
  have HF := Aside0.mk hf
  have HAL := Aside0.mk hal
  obtain ⟨A, c, rfl, hc, hm, hr'⟩ := hr.mid
  have HFAR : Aside0 (∀ (A' : Addr) n c', (.slice A l.length c : Value) = .slice (some A') n c' → 0 < l.length → A'.block < w.heap.size) := ⟨fun A' n c' e hp => rd_old HV.out e hp⟩
  clear hr' hr hb hc hm hf hal
  have HZ0 := Aside0.mk (blk_new w (.cells #[.int .i64 0, .slice none 0 0, .slice none 0 0, .slice none 0 0] 51))
  have HB0 := Aside0.mk (below_alloc (Below.refl w.heap.size w) (.cells #[.int .i64 0, .slice none 0 0, .slice none 0 0, .slice none 0 0] 51))
  go_enter Try.func33, Try.ntmps33
  go_wp2_with fail
  refine (obj_frame_calls _ l a _ (HV.out.below HB0.out) HIB.out hl ha ha0).mono ?_
  rintro e w1 ⟨rfl, hb1⟩
  have HB1 := Aside0.mk (below_step HB0.out hb1)
  have HZ1 := Aside0.mk (blk_below HZ0.out hb1)
  clear hb1
  rw [HF.out]
  go_wp2_with fail
  refine (le_Read_calls _ l (a + 16) _ (HV.out.below HB1.out) (by omega)).mono ?_
  rintro e w2 ⟨rfl, hb2, hr2⟩
  rw [if_pos (by omega)] at hr2
  obtain ⟨g, hg⟩ : ∃ g, w1.heap.size = g := ⟨_, rfl⟩
  have hgw : w.heap.size < g := by have := blk_lt HZ1.out; omega
  have HB2 := Aside0.mk (below_step HB1.out hb2)
  have HZ2 := Aside0.mk (blk_below HZ1.out hb2)
  rw [hg] at hr2 ⊢
  have HR2 := Aside0.mk hr2
  clear hb2 hr2 hg
  have HFR : Aside0 (∀ (A' : Addr) n c', (.slice A l.length c : Value) = .slice (some A') n c' → 0 < l.length → A'.block ≠ g) := ⟨fun A' n c' e hp => by have := HFAR.out A' n c' e hp; omega⟩
  go_wp2_with fail
  refine (obj_Words_calls 1 _).mono ?_
  rintro e wx ⟨rfl, rfl⟩
  rw [show wN 1 = 5 from rfl]
  go_wp2_with fail
  refine (Reader_Words_calls 5 _ g _ l (a + 16) false HR2.out (HV.out.below HB2.out) HIB.out HFR.out (by omega) (by omega) (by omega)).mono ?_
  rintro e w3 ⟨u1, rfl, hO1, hr3, hk3⟩
  have HWL : wOk false l.length (a + 16) 5 = true := by simp [wOk]; omega
  rw [HWL] at hO1 hr3
  simp only [cond_true, Bool.not_true] at hO1 hr3
  obtain ⟨A1, d1, e1⟩ := own_slice hO1
  rw [wordsAt_len] at e1
  have e1' : u1 = .slice A1 5 d1 := e1
  clear e1
  subst e1'
  have hg2 : g < w2.heap.size := blk_lt HR2.out
  have HO1 := Aside0.mk hO1
  have HB3 := Aside0.mk (Kp.from HB2.out hk3 (fun k hk => by omega))
  have HZ3 := Aside0.mk (hk3.blk HZ2.out (by omega))
  have hg3 : g < w3.heap.size := blk_lt hr3
  have HR3 := Aside0.mk (show RrV w3 g (.slice A l.length c) (a + 56) false by rwa [show a + 16 + 8 * 5 = a + 56 by omega] at hr3)
  clear HWL hO1 hr3 hk3
  go_wp2_with fail
  refine (obj_Front_calls 1 _).mono ?_
  rintro e wx ⟨rfl, rfl⟩
  rw [show (16 : Int) + 8 * wN 1 = 56 from rfl]
  have HX4 := Aside0.mk (blk_new w3 (.cells #[.int .i64 1, .slice A1 5 d1, .slice none 0 0, .slice none 0 0] 51))
  have HB4 := Aside0.mk (below_alloc HB3.out (.cells #[.int .i64 1, .slice A1 5 d1, .slice none 0 0, .slice none 0 0] 51))
  have HZ4 := Aside0.mk (blk_alloc HZ3.out (.cells #[.int .i64 1, .slice A1 5 d1, .slice none 0 0, .slice none 0 0] 51))
  have HR4 := Aside0.mk (HR3.out.below (below_alloc (Below.refl _ _) (.cells #[.int .i64 1, .slice A1 5 d1, .slice none 0 0, .slice none 0 0] 51)))
  have HO4 := Aside0.mk (HO1.out.below (below_alloc (Below.refl _ _) (.cells #[.int .i64 1, .slice A1 5 d1, .slice none 0 0, .slice none 0 0] 51)))
  obtain ⟨p, hp⟩ : ∃ p, w3.heap.size = p := ⟨_, rfl⟩
  obtain ⟨w4, hw4⟩ : ∃ w4, w3.alloc (.cells #[.int .i64 1, .slice A1 5 d1, .slice none 0 0, .slice none 0 0] 51) = w4 := ⟨_, rfl⟩
  rw [hw4] at HX4 HB4 HZ4 HR4 HO4 ⊢
  rw [hp] at HX4 hg3 ⊢
  have HP := Aside0.mk hp
  clear hp hw4
  obtain ⟨q, hq⟩ : ∃ q, S - 56 = q := ⟨_, rfl⟩
  have q0 : 0 ≤ q := by omega
  have hS1 : S ≤ q + 56 := by omega
  have hS2 : q + 56 ≤ S := by omega
  have hwq : IntKind.i64.wrap (S - 56) = q := by rw [IntKind.wrap_i64]; omega
  clear hq
  go_wp2_with fail
  refine (Reader_Raw_calls q _ g _ l (a + 56) false HR4.out (HV.out.below HB4.out) HIB.out (by omega) (by omega) (by omega)).mono ?_
  rintro e w5 ⟨u2, rfl, hO2, hr5, hk5⟩
  have HWL : kOk false l.length (a + 56) q = true := by simp [kOk]; omega
  rw [HWL] at hO2
  simp only [cond_true] at hO2
  obtain ⟨A2, d2, e2⟩ := own_slice hO2
  obtain ⟨N, hN⟩ : ∃ N, (rawAt l (a + 56) q).length = N := ⟨_, rfl⟩
  have hNq : (N : Int) = q := by rw [← hN]; exact rawAt_len l (a + 56) q (by omega) q0 (by omega)
  rw [hN] at e2
  subst e2
  have HN := Aside0.mk hN
  have HO2 := Aside0.mk hO2
  have HO5 := Aside0.mk (hk5.own HO4.out (fun k hk e => by have := HO4.out.ge hk; omega))
  have HB5 := Aside0.mk (Kp.from HB4.out hk5 (fun k hk => by omega))
  have HZ5 := Aside0.mk (hk5.blk HZ4.out (by omega))
  have HX5 := Aside0.mk (hk5.blk HX4.out (by omega))
  have HNQ := Aside0.mk hNq
  have hN9 : N ≤ 100000 := by omega
  clear HWL hO2 hr5 hk5 hN hNq hwq
  have x2 := blk_cell HX5.out 2
  have y2 := blk_frozen HX5.out 2
  go_wp2_with fail
  refine (le_Align_calls S _ (by omega)).mono ?_
  rintro e w6 ⟨rfl, hb6⟩
  rw [HAL.out]
  have hset := blk_set HX5.out 2 (.slice A2 N d2)
  have HX6 := Aside0.mk (show w6.heap[p]? = some (.cells #[.int .i64 1, .slice A1 5 d1, .slice A2 N d2, .slice none 0 0] 51 (0, 0)) from blk_below (by simpa using hset) hb6)
  have hpw : w.heap.size < p := by omega
  have HB6 := Aside0.mk (below_step (obelow_set HB5.out ⟨p, 2, none⟩ (by show w.heap.size ≤ p; omega) (.slice A2 N d2)) hb6)
  have HZ6 := Aside0.mk (blk_below (blk_far HZ5.out (by show w.heap.size ≠ p; omega) (.slice A2 N d2)) hb6)
  have HK6 := Aside0.mk (((Kp.set w5 ⟨p, 2, none⟩ (.slice A2 N d2)).mono (S1 := fun b => b = p ∨ b = w.heap.size) (fun k hk => .inl hk)).below hb6)
  clear hset hb6 x2 y2
  have x0 := blk_cell HX6.out 0
  have x1 := blk_cell HX6.out 1
  have x2 := blk_cell HX6.out 2
  have x3 := blk_cell HX6.out 3
  obtain ⟨i5, hi5, hz5⟩ := infoU8'
  obtain ⟨v', hcut, hrd⟩ := Rd.cut 22 5 Try.underlying22 hi5 hz5 HV.out (a + S) (a + al) (by omega) (by omega) (by omega)
  have HRD := Aside0.mk (show ∀ w1 : World, Rd w1 .u8 (.slice A l.length c) l → Rd w1 .u8 v' (odP l a S al) from hrd)
  have hrem : Int.tmod q 8 = q % 8 := Int.tmod_eq_emod_of_nonneg q0
  have HREM := Aside0.mk hrem
  clear hrd hi5 hz5 hrem
  have H0 := HZ6.out
  go_wp2_with fail
  refine (obj_Right_calls 1 A1 A2 none 5 N 0 d1 d2 0 _ (by omega) (by omega) (by omega)).mono ?_
  rintro e w7 ⟨rfl, hb7⟩
  have HB7 := Aside0.mk (below_step HB6.out hb7)
  have HX7 := Aside0.mk (blk_below HX6.out hb7)
  have HK7 := Aside0.mk (HK6.out.below hb7)
  have HZ7 := Aside0.mk (blk_below HZ6.out hb7)
  clear hb7 H0 x0 x1 x2 x3
  obtain ⟨b, hbq⟩ : ∃ b, oR 1 5 N 0 = b := ⟨_, rfl⟩
  rw [hbq]
  have HBQ := Aside0.mk hbq
  clear hbq
  have HW1 := Aside0.mk (show odW l a 1 = wordsAt l (a + 16) (Int.toNat 5) from rfl)
  have HW2 := Aside0.mk (show odR l a 1 S = rawAt l (a + 56) q by rw [odR, if_pos (by decide), show a + 16 + 8 * wN 1 = a + 56 from by show a + 16 + 8 * 5 = a + 56; omega, show S - (16 + 8 * wN 1) = q from by show S - (16 + 8 * 5) = q; omega])
  have HW3 := Aside0.mk (show odI l a 1 S = [] by rw [odI, if_pos (by decide)])
  have HG := Aside0.mk (show odG l a 1 S al = (oR 1 5 N 0 && !((odP l a S al).any fun x => x != 0)) by rw [odG, HW1.out, HW2.out, HW3.out, HN.out, wordsAt_len]; simp)
  have HN1 := Aside0.mk (show ∀ b, (.slice A1 5 d1 : Value).ownBlock = some b → ¬ (b = p ∨ b = w.heap.size) from fun b hb => by have h1 := HO1.out.ge hb; have h2 := HO1.out.lt hb; have h3 := HP.out; omega)
  have HN2 := Aside0.mk (show ∀ b, (.slice A2 N d2 : Value).ownBlock = some b → ¬ (b = p ∨ b = w.heap.size) from fun b hb => by have h1 := HO2.out.ge hb; have h2 := blk_lt HX4.out; omega)
  have H0 := HZ7.out
  have r0 := blk_cell H0 0
  have r1 := blk_cell H0 1
  have r2 := blk_cell H0 2
  have r3 := blk_cell H0 3
  have f0 := blk_frozen H0 0
  have f1 := blk_frozen H0 1
  have f2 := blk_frozen H0 2
  have f3 := blk_frozen H0 3
  have x0 := blk_cell HX7.out 0
  have x1 := blk_cell HX7.out 1
  have x2 := blk_cell HX7.out 2
  have x3 := blk_cell HX7.out 3
  clear H0
  cases b with
  | false =>
    have HE := Aside0.mk (show odG l a 1 S al = false by rw [HG.out, HBQ.out]; rfl)
    go_wp2_with fail
    refine bodyPost_ret (v := .tuple #[.agg #[.int .i64 0, .slice none 0 0, .slice none 0 0, .slice none 0 0], .int .i64 0, .bool false]) (by simp [results, Try.results33, go_sem, r0, r1, r2, r3]) rfl ⟨⟨.slice A1 5 d1, .slice A2 N d2, .slice none 0 0, by rw [HE.out]; rfl, ?_, ?_, ?_⟩, below_set4 HB7.out (Nat.le_refl _) _ _ _ _⟩
    · exact rd_end HO5.out (kp_set4 HK7.out (.inr rfl) _ _ _ _) HN1.out HW1.out
    · exact rd_end HO2.out (kp_set4 HK7.out (.inr rfl) _ _ _ _) HN2.out HW2.out
    · exact Rd.nil _ _
  | true =>
    go_wp2_with fail
    refine (ContainsZ_calls v' (odP l a S al) _ (HRD.out _ (HV.out.below HB7.out))).mono ?_
    rintro e w8 ⟨rfl, hb8⟩
    have HB8 := Aside0.mk (below_step HB7.out hb8)
    have HX8 := blk_below HX7.out hb8
    have HK8 := Aside0.mk (HK7.out.below hb8)
    have H0 := blk_below HZ7.out hb8
    clear hb8 r0 r1 r2 r3 f0 f1 f2 f3 x0 x1 x2 x3
    obtain ⟨pb, hpb⟩ : ∃ pb, ((odP l a S al).any fun x => x != 0) = pb := ⟨_, rfl⟩
    rw [hpb]
    have HPB := Aside0.mk hpb
    clear hpb
    have r0 := blk_cell H0 0
    have r1 := blk_cell H0 1
    have r2 := blk_cell H0 2
    have r3 := blk_cell H0 3
    have f0 := blk_frozen H0 0
    have f1 := blk_frozen H0 1
    have f2 := blk_frozen H0 2
    have f3 := blk_frozen H0 3
    have x0 := blk_cell HX8 0
    have x1 := blk_cell HX8 1
    have x2 := blk_cell HX8 2
    have x3 := blk_cell HX8 3
    clear H0 HX8
    cases pb with
    | true =>
      have HE := Aside0.mk (show odG l a 1 S al = false by rw [HG.out, HBQ.out, HPB.out]; rfl)
      go_wp2_with fail
      refine bodyPost_ret (v := .tuple #[.agg #[.int .i64 0, .slice none 0 0, .slice none 0 0, .slice none 0 0], .int .i64 0, .bool false]) (by simp [results, Try.results33, go_sem, r0, r1, r2, r3]) rfl ⟨⟨.slice A1 5 d1, .slice A2 N d2, .slice none 0 0, by rw [HE.out]; rfl, ?_, ?_, ?_⟩, below_set4 HB8.out (Nat.le_refl _) _ _ _ _⟩
      · exact rd_end HO5.out (kp_set4 HK8.out (.inr rfl) _ _ _ _) HN1.out HW1.out
      · exact rd_end HO2.out (kp_set4 HK8.out (.inr rfl) _ _ _ _) HN2.out HW2.out
      · exact Rd.nil _ _
    | false =>
      have HE := Aside0.mk (show odG l a 1 S al = true by rw [HG.out, HBQ.out, HPB.out]; rfl)
      go_wp2_with fail
      refine bodyPost_ret (v := .tuple #[.agg #[.int .i64 1, .slice A1 5 d1, .slice A2 N d2, .slice none 0 0], .int .i64 (a + al), .bool true]) (by simp [results, Try.results33, go_sem, r0, r1, r2, r3]) rfl ⟨⟨.slice A1 5 d1, .slice A2 N d2, .slice none 0 0, by rw [HE.out]; rfl, ?_, ?_, ?_⟩, below_set4 HB8.out (Nat.le_refl _) _ _ _ _⟩
      · exact rd_end HO5.out (kp_set4 HK8.out (.inr rfl) _ _ _ _) HN1.out HW1.out
      · exact rd_end HO2.out (kp_set4 HK8.out (.inr rfl) _ _ _ _) HN2.out HW2.out
      · exact Rd.nil _ _
set_option maxHeartbeats 8000000 in
set_option maxRecDepth 100000 in
theorem obj_Decode_2 (v : Value) (l : List Int) (a : Int) (w : World) (hr : Rd w .u8 v l) (hb : isB l) (hl : l.length ≤ 100000) (ha : a ≤ 100000) (ha0 : -9223372036854775808 ≤ a) (S al : Int) (hf : frV l a = .tuple #[.int .i64 2, .int .i64 S, .bool true]) (hal : alignZ S = al) (a0 : 0 ≤ a) (s0 : 40 ≤ S) (s1 : S ≤ al) (s2 : a + al ≤ l.length) :
    Calls Try.prog 33 #[v, .int .i64 a] w fun e w' => (∃ u1 u2 u3, e = .returned (bif odG l a 2 S al then .tuple #[.agg #[.int .i64 2, u1, u2, u3], .int .i64 (a + al), .bool true] else .tuple #[.agg #[.int .i64 0, .slice none 0 0, .slice none 0 0, .slice none 0 0], .int .i64 0, .bool false]) ∧ Rd w' .u64 u1 (odW l a 2) ∧ Rd w' .u8 u2 (odR l a 2 S) ∧ Rd w' .u64 u3 (odI l a 2 S)) ∧ Below w.heap.size w w' := by
  have HV := Aside0.mk hr
  have HIB := Aside0.mk hb
  have HF := Aside0.mk hf
  have HAL := Aside0.mk hal
  obtain ⟨A, c, rfl, hc, hm, hr'⟩ := hr.mid
  have HFAR : Aside0 (∀ (A' : Addr) n c', (.slice A l.length c : Value) = .slice (some A') n c' → 0 < l.length → A'.block < w.heap.size) := ⟨fun A' n c' e hp => rd_old HV.out e hp⟩
  clear hr' hr hb hc hm hf hal
  have HZ0 := Aside0.mk (blk_new w (.cells #[.int .i64 0, .slice none 0 0, .slice none 0 0, .slice none 0 0] 51))
  have HB0 := Aside0.mk (below_alloc (Below.refl w.heap.size w) (.cells #[.int .i64 0, .slice none 0 0, .slice none 0 0, .slice none 0 0] 51))
  go_enter Try.func33, Try.ntmps33
  go_wp2_with fail
  refine (obj_frame_calls _ l a _ (HV.out.below HB0.out) HIB.out hl ha ha0).mono ?_
  rintro e w1 ⟨rfl, hb1⟩
  have HB1 := Aside0.mk (below_step HB0.out hb1)
  have HZ1 := Aside0.mk (blk_below HZ0.out hb1)
  clear hb1
  rw [HF.out]
  go_wp2_with fail
  refine (le_Read_calls _ l (a + 16) _ (HV.out.below HB1.out) (by omega)).mono ?_
  rintro e w2 ⟨rfl, hb2, hr2⟩
  rw [if_pos (by omega)] at hr2
  obtain ⟨g, hg⟩ : ∃ g, w1.heap.size = g := ⟨_, rfl⟩
  have hgw : w.heap.size < g := by have := blk_lt HZ1.out; omega
  have HB2 := Aside0.mk (below_step HB1.out hb2)
  have HZ2 := Aside0.mk (blk_below HZ1.out hb2)
  rw [hg] at hr2 ⊢
  have HR2 := Aside0.mk hr2
  clear hb2 hr2 hg
  have HFR : Aside0 (∀ (A' : Addr) n c', (.slice A l.length c : Value) = .slice (some A') n c' → 0 < l.length → A'.block ≠ g) := ⟨fun A' n c' e hp => by have := HFAR.out A' n c' e hp; omega⟩
  go_wp2_with fail
  refine (obj_Words_calls 2 _).mono ?_
  rintro e wx ⟨rfl, rfl⟩
  rw [show wN 2 = 3 from rfl]
  go_wp2_with fail
  refine (Reader_Words_calls 3 _ g _ l (a + 16) false HR2.out (HV.out.below HB2.out) HIB.out HFR.out (by omega) (by omega) (by omega)).mono ?_
  rintro e w3 ⟨u1, rfl, hO1, hr3, hk3⟩
  have HWL : wOk false l.length (a + 16) 3 = true := by simp [wOk]; omega
  rw [HWL] at hO1 hr3
  simp only [cond_true, Bool.not_true] at hO1 hr3
  obtain ⟨A1, d1, e1⟩ := own_slice hO1
  rw [wordsAt_len] at e1
  have e1' : u1 = .slice A1 3 d1 := e1
  clear e1
  subst e1'
  have hg2 : g < w2.heap.size := blk_lt HR2.out
  have HO1 := Aside0.mk hO1
  have HB3 := Aside0.mk (Kp.from HB2.out hk3 (fun k hk => by omega))
  have HZ3 := Aside0.mk (hk3.blk HZ2.out (by omega))
  have hg3 : g < w3.heap.size := blk_lt hr3
  have HR3 := Aside0.mk (show RrV w3 g (.slice A l.length c) (a + 40) false by rwa [show a + 16 + 8 * 3 = a + 40 by omega] at hr3)
  clear HWL hO1 hr3 hk3
  go_wp2_with fail
  refine (obj_Front_calls 2 _).mono ?_
  rintro e wx ⟨rfl, rfl⟩
  rw [show (16 : Int) + 8 * wN 2 = 40 from rfl]
  have HX4 := Aside0.mk (blk_new w3 (.cells #[.int .i64 2, .slice A1 3 d1, .slice none 0 0, .slice none 0 0] 51))
  have HB4 := Aside0.mk (below_alloc HB3.out (.cells #[.int .i64 2, .slice A1 3 d1, .slice none 0 0, .slice none 0 0] 51))
  have HZ4 := Aside0.mk (blk_alloc HZ3.out (.cells #[.int .i64 2, .slice A1 3 d1, .slice none 0 0, .slice none 0 0] 51))
  have HR4 := Aside0.mk (HR3.out.below (below_alloc (Below.refl _ _) (.cells #[.int .i64 2, .slice A1 3 d1, .slice none 0 0, .slice none 0 0] 51)))
  have HO4 := Aside0.mk (HO1.out.below (below_alloc (Below.refl _ _) (.cells #[.int .i64 2, .slice A1 3 d1, .slice none 0 0, .slice none 0 0] 51)))
  obtain ⟨p, hp⟩ : ∃ p, w3.heap.size = p := ⟨_, rfl⟩
  obtain ⟨w4, hw4⟩ : ∃ w4, w3.alloc (.cells #[.int .i64 2, .slice A1 3 d1, .slice none 0 0, .slice none 0 0] 51) = w4 := ⟨_, rfl⟩
  rw [hw4] at HX4 HB4 HZ4 HR4 HO4 ⊢
  rw [hp] at HX4 hg3 ⊢
  have HP := Aside0.mk hp
  clear hp hw4
  obtain ⟨q, hq⟩ : ∃ q, S - 40 = q := ⟨_, rfl⟩
  have q0 : 0 ≤ q := by omega
  have hS1 : S ≤ q + 40 := by omega
  have hS2 : q + 40 ≤ S := by omega
  have hwq : IntKind.i64.wrap (S - 40) = q := by rw [IntKind.wrap_i64]; omega
  clear hq
  go_wp2_with fail
  refine (Reader_Raw_calls q _ g _ l (a + 40) false HR4.out (HV.out.below HB4.out) HIB.out (by omega) (by omega) (by omega)).mono ?_
  rintro e w5 ⟨u2, rfl, hO2, hr5, hk5⟩
  have HWL : kOk false l.length (a + 40) q = true := by simp [kOk]; omega
  rw [HWL] at hO2
  simp only [cond_true] at hO2
  obtain ⟨A2, d2, e2⟩ := own_slice hO2
  obtain ⟨N, hN⟩ : ∃ N, (rawAt l (a + 40) q).length = N := ⟨_, rfl⟩
  have hNq : (N : Int) = q := by rw [← hN]; exact rawAt_len l (a + 40) q (by omega) q0 (by omega)
  rw [hN] at e2
  subst e2
  have HN := Aside0.mk hN
  have HO2 := Aside0.mk hO2
  have HO5 := Aside0.mk (hk5.own HO4.out (fun k hk e => by have := HO4.out.ge hk; omega))
  have HB5 := Aside0.mk (Kp.from HB4.out hk5 (fun k hk => by omega))
  have HZ5 := Aside0.mk (hk5.blk HZ4.out (by omega))
  have HX5 := Aside0.mk (hk5.blk HX4.out (by omega))
  have HNQ := Aside0.mk hNq
  have hN9 : N ≤ 100000 := by omega
  clear HWL hO2 hr5 hk5 hN hNq hwq
  have x2 := blk_cell HX5.out 2
  have y2 := blk_frozen HX5.out 2
  go_wp2_with fail
  refine (le_Align_calls S _ (by omega)).mono ?_
  rintro e w6 ⟨rfl, hb6⟩
  rw [HAL.out]
  have hset := blk_set HX5.out 2 (.slice A2 N d2)
  have HX6 := Aside0.mk (show w6.heap[p]? = some (.cells #[.int .i64 2, .slice A1 3 d1, .slice A2 N d2, .slice none 0 0] 51 (0, 0)) from blk_below (by simpa using hset) hb6)
  have hpw : w.heap.size < p := by omega
  have HB6 := Aside0.mk (below_step (obelow_set HB5.out ⟨p, 2, none⟩ (by show w.heap.size ≤ p; omega) (.slice A2 N d2)) hb6)
  have HZ6 := Aside0.mk (blk_below (blk_far HZ5.out (by show w.heap.size ≠ p; omega) (.slice A2 N d2)) hb6)
  have HK6 := Aside0.mk (((Kp.set w5 ⟨p, 2, none⟩ (.slice A2 N d2)).mono (S1 := fun b => b = p ∨ b = w.heap.size) (fun k hk => .inl hk)).below hb6)
  clear hset hb6 x2 y2
  have x0 := blk_cell HX6.out 0
  have x1 := blk_cell HX6.out 1
  have x2 := blk_cell HX6.out 2
  have x3 := blk_cell HX6.out 3
  obtain ⟨i5, hi5, hz5⟩ := infoU8'
  obtain ⟨v', hcut, hrd⟩ := Rd.cut 22 5 Try.underlying22 hi5 hz5 HV.out (a + S) (a + al) (by omega) (by omega) (by omega)
  have HRD := Aside0.mk (show ∀ w1 : World, Rd w1 .u8 (.slice A l.length c) l → Rd w1 .u8 v' (odP l a S al) from hrd)
  have hrem : Int.tmod q 8 = q % 8 := Int.tmod_eq_emod_of_nonneg q0
  have HREM := Aside0.mk hrem
  clear hrd hi5 hz5 hrem
  have H0 := HZ6.out
  go_wp2_with fail
  refine (obj_Right_calls 2 A1 A2 none 3 N 0 d1 d2 0 _ (by omega) (by omega) (by omega)).mono ?_
  rintro e w7 ⟨rfl, hb7⟩
  have HB7 := Aside0.mk (below_step HB6.out hb7)
  have HX7 := Aside0.mk (blk_below HX6.out hb7)
  have HK7 := Aside0.mk (HK6.out.below hb7)
  have HZ7 := Aside0.mk (blk_below HZ6.out hb7)
  clear hb7 H0 x0 x1 x2 x3
  obtain ⟨b, hbq⟩ : ∃ b, oR 2 3 N 0 = b := ⟨_, rfl⟩
  rw [hbq]
  have HBQ := Aside0.mk hbq
  clear hbq
  have HW1 := Aside0.mk (show odW l a 2 = wordsAt l (a + 16) (Int.toNat 3) from rfl)
  have HW2 := Aside0.mk (show odR l a 2 S = rawAt l (a + 40) q by rw [odR, if_pos (by decide), show a + 16 + 8 * wN 2 = a + 40 from by show a + 16 + 8 * 3 = a + 40; omega, show S - (16 + 8 * wN 2) = q from by show S - (16 + 8 * 3) = q; omega])
  have HW3 := Aside0.mk (show odI l a 2 S = [] by rw [odI, if_pos (by decide)])
  have HG := Aside0.mk (show odG l a 2 S al = (oR 2 3 N 0 && !((odP l a S al).any fun x => x != 0)) by rw [odG, HW1.out, HW2.out, HW3.out, HN.out, wordsAt_len]; simp)
  have HN1 := Aside0.mk (show ∀ b, (.slice A1 3 d1 : Value).ownBlock = some b → ¬ (b = p ∨ b = w.heap.size) from fun b hb => by have h1 := HO1.out.ge hb; have h2 := HO1.out.lt hb; have h3 := HP.out; omega)
  have HN2 := Aside0.mk (show ∀ b, (.slice A2 N d2 : Value).ownBlock = some b → ¬ (b = p ∨ b = w.heap.size) from fun b hb => by have h1 := HO2.out.ge hb; have h2 := blk_lt HX4.out; omega)
  have H0 := HZ7.out
  have r0 := blk_cell H0 0
  have r1 := blk_cell H0 1
  have r2 := blk_cell H0 2
  have r3 := blk_cell H0 3
  have f0 := blk_frozen H0 0
  have f1 := blk_frozen H0 1
  have f2 := blk_frozen H0 2
  have f3 := blk_frozen H0 3
  have x0 := blk_cell HX7.out 0
  have x1 := blk_cell HX7.out 1
  have x2 := blk_cell HX7.out 2
  have x3 := blk_cell HX7.out 3
  clear H0
  cases b with
  | false =>
    have HE := Aside0.mk (show odG l a 2 S al = false by rw [HG.out, HBQ.out]; rfl)
    go_wp2_with fail
    refine bodyPost_ret (v := .tuple #[.agg #[.int .i64 0, .slice none 0 0, .slice none 0 0, .slice none 0 0], .int .i64 0, .bool false]) (by simp [results, Try.results33, go_sem, r0, r1, r2, r3]) rfl ⟨⟨.slice A1 3 d1, .slice A2 N d2, .slice none 0 0, by rw [HE.out]; rfl, ?_, ?_, ?_⟩, below_set4 HB7.out (Nat.le_refl _) _ _ _ _⟩
    · exact rd_end HO5.out (kp_set4 HK7.out (.inr rfl) _ _ _ _) HN1.out HW1.out
    · exact rd_end HO2.out (kp_set4 HK7.out (.inr rfl) _ _ _ _) HN2.out HW2.out
    · exact Rd.nil _ _
  | true =>
    go_wp2_with fail
    refine (ContainsZ_calls v' (odP l a S al) _ (HRD.out _ (HV.out.below HB7.out))).mono ?_
    rintro e w8 ⟨rfl, hb8⟩
    have HB8 := Aside0.mk (below_step HB7.out hb8)
    have HX8 := blk_below HX7.out hb8
    have HK8 := Aside0.mk (HK7.out.below hb8)
    have H0 := blk_below HZ7.out hb8
    clear hb8 r0 r1 r2 r3 f0 f1 f2 f3 x0 x1 x2 x3
    obtain ⟨pb, hpb⟩ : ∃ pb, ((odP l a S al).any fun x => x != 0) = pb := ⟨_, rfl⟩
    rw [hpb]
    have HPB := Aside0.mk hpb
    clear hpb
    have r0 := blk_cell H0 0
    have r1 := blk_cell H0 1
    have r2 := blk_cell H0 2
    have r3 := blk_cell H0 3
    have f0 := blk_frozen H0 0
    have f1 := blk_frozen H0 1
    have f2 := blk_frozen H0 2
    have f3 := blk_frozen H0 3
    have x0 := blk_cell HX8 0
    have x1 := blk_cell HX8 1
    have x2 := blk_cell HX8 2
    have x3 := blk_cell HX8 3
    clear H0 HX8
    cases pb with
    | true =>
      have HE := Aside0.mk (show odG l a 2 S al = false by rw [HG.out, HBQ.out, HPB.out]; rfl)
      go_wp2_with fail
      refine bodyPost_ret (v := .tuple #[.agg #[.int .i64 0, .slice none 0 0, .slice none 0 0, .slice none 0 0], .int .i64 0, .bool false]) (by simp [results, Try.results33, go_sem, r0, r1, r2, r3]) rfl ⟨⟨.slice A1 3 d1, .slice A2 N d2, .slice none 0 0, by rw [HE.out]; rfl, ?_, ?_, ?_⟩, below_set4 HB8.out (Nat.le_refl _) _ _ _ _⟩
      · exact rd_end HO5.out (kp_set4 HK8.out (.inr rfl) _ _ _ _) HN1.out HW1.out
      · exact rd_end HO2.out (kp_set4 HK8.out (.inr rfl) _ _ _ _) HN2.out HW2.out
      · exact Rd.nil _ _
    | false =>
      have HE := Aside0.mk (show odG l a 2 S al = true by rw [HG.out, HBQ.out, HPB.out]; rfl)
      go_wp2_with fail
      refine bodyPost_ret (v := .tuple #[.agg #[.int .i64 2, .slice A1 3 d1, .slice A2 N d2, .slice none 0 0], .int .i64 (a + al), .bool true]) (by simp [results, Try.results33, go_sem, r0, r1, r2, r3]) rfl ⟨⟨.slice A1 3 d1, .slice A2 N d2, .slice none 0 0, by rw [HE.out]; rfl, ?_, ?_, ?_⟩, below_set4 HB8.out (Nat.le_refl _) _ _ _ _⟩
      · exact rd_end HO5.out (kp_set4 HK8.out (.inr rfl) _ _ _ _) HN1.out HW1.out
      · exact rd_end HO2.out (kp_set4 HK8.out (.inr rfl) _ _ _ _) HN2.out HW2.out
      · exact Rd.nil _ _
set_option maxHeartbeats 8000000 in
set_option maxRecDepth 100000 in
theorem obj_Decode_3 (v : Value) (l : List Int) (a : Int) (w : World) (hr : Rd w .u8 v l) (hb : isB l) (hl : l.length ≤ 100000) (ha : a ≤ 100000) (ha0 : -9223372036854775808 ≤ a) (S al : Int) (hf : frV l a = .tuple #[.int .i64 3, .int .i64 S, .bool true]) (hal : alignZ S = al) (a0 : 0 ≤ a) (s0 : 56 ≤ S) (s1 : S ≤ al) (s2 : a + al ≤ l.length) :
    Calls Try.prog 33 #[v, .int .i64 a] w fun e w' => (∃ u1 u2 u3, e = .returned (bif odG l a 3 S al then .tuple #[.agg #[.int .i64 3, u1, u2, u3], .int .i64 (a + al), .bool true] else .tuple #[.agg #[.int .i64 0, .slice none 0 0, .slice none 0 0, .slice none 0 0], .int .i64 0, .bool false]) ∧ Rd w' .u64 u1 (odW l a 3) ∧ Rd w' .u8 u2 (odR l a 3 S) ∧ Rd w' .u64 u3 (odI l a 3 S)) ∧ Below w.heap.size w w' := by
  have HV := Aside0.mk hr
  have HIB := Aside0.mk hb
  have HF := Aside0.mk hf
  have HAL := Aside0.mk hal
  obtain ⟨A, c, rfl, hc, hm, hr'⟩ := hr.mid
  have HFAR : Aside0 (∀ (A' : Addr) n c', (.slice A l.length c : Value) = .slice (some A') n c' → 0 < l.length → A'.block < w.heap.size) := ⟨fun A' n c' e hp => rd_old HV.out e hp⟩
  clear hr' hr hb hc hm hf hal
  have HZ0 := Aside0.mk (blk_new w (.cells #[.int .i64 0, .slice none 0 0, .slice none 0 0, .slice none 0 0] 51))
  have HB0 := Aside0.mk (below_alloc (Below.refl w.heap.size w) (.cells #[.int .i64 0, .slice none 0 0, .slice none 0 0, .slice none 0 0] 51))
  go_enter Try.func33, Try.ntmps33
  go_wp2_with fail
  refine (obj_frame_calls _ l a _ (HV.out.below HB0.out) HIB.out hl ha ha0).mono ?_
  rintro e w1 ⟨rfl, hb1⟩
  have HB1 := Aside0.mk (below_step HB0.out hb1)
  have HZ1 := Aside0.mk (blk_below HZ0.out hb1)
  clear hb1
  rw [HF.out]
  go_wp2_with fail
  refine (le_Read_calls _ l (a + 16) _ (HV.out.below HB1.out) (by omega)).mono ?_
  rintro e w2 ⟨rfl, hb2, hr2⟩
  rw [if_pos (by omega)] at hr2
  obtain ⟨g, hg⟩ : ∃ g, w1.heap.size = g := ⟨_, rfl⟩
  have hgw : w.heap.size < g := by have := blk_lt HZ1.out; omega
  have HB2 := Aside0.mk (below_step HB1.out hb2)
  have HZ2 := Aside0.mk (blk_below HZ1.out hb2)
  rw [hg] at hr2 ⊢
  have HR2 := Aside0.mk hr2
  clear hb2 hr2 hg
  have HFR : Aside0 (∀ (A' : Addr) n c', (.slice A l.length c : Value) = .slice (some A') n c' → 0 < l.length → A'.block ≠ g) := ⟨fun A' n c' e hp => by have := HFAR.out A' n c' e hp; omega⟩
  go_wp2_with fail
  refine (obj_Words_calls 3 _).mono ?_
  rintro e wx ⟨rfl, rfl⟩
  rw [show wN 3 = 5 from rfl]
  go_wp2_with fail
  refine (Reader_Words_calls 5 _ g _ l (a + 16) false HR2.out (HV.out.below HB2.out) HIB.out HFR.out (by omega) (by omega) (by omega)).mono ?_
  rintro e w3 ⟨u1, rfl, hO1, hr3, hk3⟩
  have HWL : wOk false l.length (a + 16) 5 = true := by simp [wOk]; omega
  rw [HWL] at hO1 hr3
  simp only [cond_true, Bool.not_true] at hO1 hr3
  obtain ⟨A1, d1, e1⟩ := own_slice hO1
  rw [wordsAt_len] at e1
  have e1' : u1 = .slice A1 5 d1 := e1
  clear e1
  subst e1'
  have hg2 : g < w2.heap.size := blk_lt HR2.out
  have HO1 := Aside0.mk hO1
  have HB3 := Aside0.mk (Kp.from HB2.out hk3 (fun k hk => by omega))
  have HZ3 := Aside0.mk (hk3.blk HZ2.out (by omega))
  have hg3 : g < w3.heap.size := blk_lt hr3
  have HR3 := Aside0.mk (show RrV w3 g (.slice A l.length c) (a + 56) false by rwa [show a + 16 + 8 * 5 = a + 56 by omega] at hr3)
  clear HWL hO1 hr3 hk3
  go_wp2_with fail
  refine (obj_Front_calls 3 _).mono ?_
  rintro e wx ⟨rfl, rfl⟩
  rw [show (16 : Int) + 8 * wN 3 = 56 from rfl]
  have HX4 := Aside0.mk (blk_new w3 (.cells #[.int .i64 3, .slice A1 5 d1, .slice none 0 0, .slice none 0 0] 51))
  have HB4 := Aside0.mk (below_alloc HB3.out (.cells #[.int .i64 3, .slice A1 5 d1, .slice none 0 0, .slice none 0 0] 51))
  have HZ4 := Aside0.mk (blk_alloc HZ3.out (.cells #[.int .i64 3, .slice A1 5 d1, .slice none 0 0, .slice none 0 0] 51))
  have HR4 := Aside0.mk (HR3.out.below (below_alloc (Below.refl _ _) (.cells #[.int .i64 3, .slice A1 5 d1, .slice none 0 0, .slice none 0 0] 51)))
  have HO4 := Aside0.mk (HO1.out.below (below_alloc (Below.refl _ _) (.cells #[.int .i64 3, .slice A1 5 d1, .slice none 0 0, .slice none 0 0] 51)))
  obtain ⟨p, hp⟩ : ∃ p, w3.heap.size = p := ⟨_, rfl⟩
  obtain ⟨w4, hw4⟩ : ∃ w4, w3.alloc (.cells #[.int .i64 3, .slice A1 5 d1, .slice none 0 0, .slice none 0 0] 51) = w4 := ⟨_, rfl⟩
  rw [hw4] at HX4 HB4 HZ4 HR4 HO4 ⊢
  rw [hp] at HX4 hg3 ⊢
  have HP := Aside0.mk hp
  clear hp hw4
  obtain ⟨q, hq⟩ : ∃ q, S - 56 = q := ⟨_, rfl⟩
  have q0 : 0 ≤ q := by omega
  have hS1 : S ≤ q + 56 := by omega
  have hS2 : q + 56 ≤ S := by omega
  have hwq : IntKind.i64.wrap (S - 56) = q := by rw [IntKind.wrap_i64]; omega
  clear hq
  go_wp2_with fail
  obtain ⟨m, hm8⟩ : ∃ m, q / 8 = m := ⟨_, rfl⟩
  have m0 : 0 ≤ m := by omega
  have m1 : 8 * m ≤ q := by omega
  have m2 : q < 8 * m + 8 := by omega
  rw [hm8]
  have HM := Aside0.mk hm8
  clear hm8
  refine (Reader_Words_calls m _ g _ l (a + 56) false HR4.out (HV.out.below HB4.out) HIB.out HFR.out (by omega) (by omega) (by omega)).mono ?_
  rintro e w5 ⟨u2, rfl, hO2, hr5, hk5⟩
  have HWL : wOk false l.length (a + 56) m = true := by simp [wOk]; omega
  rw [HWL] at hO2
  simp only [cond_true] at hO2
  obtain ⟨A2, d2, e2⟩ := own_slice hO2
  rw [wordsAt_len] at e2
  obtain ⟨N, hN⟩ : ∃ N, m.toNat = N := ⟨_, rfl⟩
  have hNq : (N : Int) = m := by omega
  rw [hN] at e2
  subst e2
  have HN := Aside0.mk hN
  have HO2 := Aside0.mk hO2
  have HO5 := Aside0.mk (hk5.own HO4.out (fun k hk e => by have := HO4.out.ge hk; omega))
  have HB5 := Aside0.mk (Kp.from HB4.out hk5 (fun k hk => by omega))
  have HZ5 := Aside0.mk (hk5.blk HZ4.out (by omega))
  have HX5 := Aside0.mk (hk5.blk HX4.out (by omega))
  have HNQ := Aside0.mk hNq
  have hN9 : N ≤ 100000 := by omega
  clear HWL hO2 hr5 hk5 hN hNq hwq
  have x2 := blk_cell HX5.out 3
  have y2 := blk_frozen HX5.out 3
  go_wp2_with fail
  refine (le_Align_calls S _ (by omega)).mono ?_
  rintro e w6 ⟨rfl, hb6⟩
  rw [HAL.out]
  have hset := blk_set HX5.out 3 (.slice A2 N d2)
  have HX6 := Aside0.mk (show w6.heap[p]? = some (.cells #[.int .i64 3, .slice A1 5 d1, .slice none 0 0, .slice A2 N d2] 51 (0, 0)) from blk_below (by simpa using hset) hb6)
  have hpw : w.heap.size < p := by omega
  have HB6 := Aside0.mk (below_step (obelow_set HB5.out ⟨p, 3, none⟩ (by show w.heap.size ≤ p; omega) (.slice A2 N d2)) hb6)
  have HZ6 := Aside0.mk (blk_below (blk_far HZ5.out (by show w.heap.size ≠ p; omega) (.slice A2 N d2)) hb6)
  have HK6 := Aside0.mk (((Kp.set w5 ⟨p, 3, none⟩ (.slice A2 N d2)).mono (S1 := fun b => b = p ∨ b = w.heap.size) (fun k hk => .inl hk)).below hb6)
  clear hset hb6 x2 y2
  have x0 := blk_cell HX6.out 0
  have x1 := blk_cell HX6.out 1
  have x2 := blk_cell HX6.out 2
  have x3 := blk_cell HX6.out 3
  obtain ⟨i5, hi5, hz5⟩ := infoU8'
  obtain ⟨v', hcut, hrd⟩ := Rd.cut 22 5 Try.underlying22 hi5 hz5 HV.out (a + S) (a + al) (by omega) (by omega) (by omega)
  have HRD := Aside0.mk (show ∀ w1 : World, Rd w1 .u8 (.slice A l.length c) l → Rd w1 .u8 v' (odP l a S al) from hrd)
  have hrem : Int.tmod q 8 = q % 8 := Int.tmod_eq_emod_of_nonneg q0
  have HREM := Aside0.mk hrem
  clear hrd hi5 hz5 hrem
  have H0 := HZ6.out
  go_wp2_with fail
  refine (obj_Right_calls 3 A1 none A2 5 0 N d1 0 d2 _ (by omega) (by omega) (by omega)).mono ?_
  rintro e w7 ⟨rfl, hb7⟩
  have HB7 := Aside0.mk (below_step HB6.out hb7)
  have HX7 := Aside0.mk (blk_below HX6.out hb7)
  have HK7 := Aside0.mk (HK6.out.below hb7)
  have HZ7 := Aside0.mk (blk_below HZ6.out hb7)
  clear hb7 H0 x0 x1 x2 x3
  obtain ⟨b, hbq⟩ : ∃ b, oR 3 5 0 N = b := ⟨_, rfl⟩
  rw [hbq]
  have HBQ := Aside0.mk hbq
  clear hbq
  have HW1 := Aside0.mk (show odW l a 3 = wordsAt l (a + 16) (Int.toNat 5) from rfl)
  have HW2 := Aside0.mk (show odR l a 3 S = [] by rw [odR, if_neg (by decide)])
  have HW3 := Aside0.mk (show odI l a 3 S = wordsAt l (a + 56) m.toNat by rw [odI, if_neg (by decide), show a + 16 + 8 * wN 3 = a + 56 from by show a + 16 + 8 * 5 = a + 56; omega, show S - (16 + 8 * wN 3) = q from by show S - (16 + 8 * 5) = q; omega, HM.out])
  have HG := Aside0.mk (show odG l a 3 S al = (oR 3 5 0 N && decide (q % 8 = 0) && !((odP l a S al).any fun x => x != 0)) by rw [odG, HW1.out, HW2.out, HW3.out, wordsAt_len, wordsAt_len, HN.out, show decide (S % 8 = 0) = decide (q % 8 = 0) from decide_eq_decide.2 (by omega)]; simp)
  have HN1 := Aside0.mk (show ∀ b, (.slice A1 5 d1 : Value).ownBlock = some b → ¬ (b = p ∨ b = w.heap.size) from fun b hb => by have h1 := HO1.out.ge hb; have h2 := HO1.out.lt hb; have h3 := HP.out; omega)
  have HN2 := Aside0.mk (show ∀ b, (.slice A2 N d2 : Value).ownBlock = some b → ¬ (b = p ∨ b = w.heap.size) from fun b hb => by have h1 := HO2.out.ge hb; have h2 := blk_lt HX4.out; omega)
  have H0 := HZ7.out
  have r0 := blk_cell H0 0
  have r1 := blk_cell H0 1
  have r2 := blk_cell H0 2
  have r3 := blk_cell H0 3
  have f0 := blk_frozen H0 0
  have f1 := blk_frozen H0 1
  have f2 := blk_frozen H0 2
  have f3 := blk_frozen H0 3
  have x0 := blk_cell HX7.out 0
  have x1 := blk_cell HX7.out 1
  have x2 := blk_cell HX7.out 2
  have x3 := blk_cell HX7.out 3
  clear H0
  cases b with
  | false =>
    have HE := Aside0.mk (show odG l a 3 S al = false by rw [HG.out, HBQ.out]; rfl)
    go_wp2_with fail
    refine bodyPost_ret (v := .tuple #[.agg #[.int .i64 0, .slice none 0 0, .slice none 0 0, .slice none 0 0], .int .i64 0, .bool false]) (by simp [results, Try.results33, go_sem, r0, r1, r2, r3]) rfl ⟨⟨.slice A1 5 d1, .slice none 0 0, .slice A2 N d2, by rw [HE.out]; rfl, ?_, ?_, ?_⟩, below_set4 HB7.out (Nat.le_refl _) _ _ _ _⟩
    · exact rd_end HO5.out (kp_set4 HK7.out (.inr rfl) _ _ _ _) HN1.out HW1.out
    · exact Rd.nil _ _
    · exact rd_end HO2.out (kp_set4 HK7.out (.inr rfl) _ _ _ _) HN2.out HW3.out
  | true =>
    by_cases k8 : q % 8 = 0
    rotate_left
    · skip
      have HE := Aside0.mk (show odG l a 3 S al = false by rw [HG.out, HBQ.out, decide_eq_false k8]; rfl)
      have k9 : (q % 8 != 0) = true := by simpa using k8
      go_wp2_with fail
      refine bodyPost_ret (v := .tuple #[.agg #[.int .i64 0, .slice none 0 0, .slice none 0 0, .slice none 0 0], .int .i64 0, .bool false]) (by simp [results, Try.results33, go_sem, r0, r1, r2, r3]) rfl ⟨⟨.slice A1 5 d1, .slice none 0 0, .slice A2 N d2, by rw [HE.out]; rfl, ?_, ?_, ?_⟩, below_set4 HB7.out (Nat.le_refl _) _ _ _ _⟩
      · exact rd_end HO5.out (kp_set4 HK7.out (.inr rfl) _ _ _ _) HN1.out HW1.out
      · exact Rd.nil _ _
      · exact rd_end HO2.out (kp_set4 HK7.out (.inr rfl) _ _ _ _) HN2.out HW3.out
    have k9 : (q % 8 != 0) = false := by simpa using k8
    have HK8' := Aside0.mk k8
    clear k8
    go_wp2_with fail
    refine (ContainsZ_calls v' (odP l a S al) _ (HRD.out _ (HV.out.below HB7.out))).mono ?_
    rintro e w8 ⟨rfl, hb8⟩
    have HB8 := Aside0.mk (below_step HB7.out hb8)
    have HX8 := blk_below HX7.out hb8
    have HK8 := Aside0.mk (HK7.out.below hb8)
    have H0 := blk_below HZ7.out hb8
    clear hb8 r0 r1 r2 r3 f0 f1 f2 f3 x0 x1 x2 x3
    obtain ⟨pb, hpb⟩ : ∃ pb, ((odP l a S al).any fun x => x != 0) = pb := ⟨_, rfl⟩
    rw [hpb]
    have HPB := Aside0.mk hpb
    clear hpb
    have r0 := blk_cell H0 0
    have r1 := blk_cell H0 1
    have r2 := blk_cell H0 2
    have r3 := blk_cell H0 3
    have f0 := blk_frozen H0 0
    have f1 := blk_frozen H0 1
    have f2 := blk_frozen H0 2
    have f3 := blk_frozen H0 3
    have x0 := blk_cell HX8 0
    have x1 := blk_cell HX8 1
    have x2 := blk_cell HX8 2
    have x3 := blk_cell HX8 3
    clear H0 HX8
    cases pb with
    | true =>
      have HE := Aside0.mk (show odG l a 3 S al = false by rw [HG.out, HBQ.out, HPB.out, decide_eq_true HK8'.out]; rfl)
      go_wp2_with fail
      refine bodyPost_ret (v := .tuple #[.agg #[.int .i64 0, .slice none 0 0, .slice none 0 0, .slice none 0 0], .int .i64 0, .bool false]) (by simp [results, Try.results33, go_sem, r0, r1, r2, r3]) rfl ⟨⟨.slice A1 5 d1, .slice none 0 0, .slice A2 N d2, by rw [HE.out]; rfl, ?_, ?_, ?_⟩, below_set4 HB8.out (Nat.le_refl _) _ _ _ _⟩
      · exact rd_end HO5.out (kp_set4 HK8.out (.inr rfl) _ _ _ _) HN1.out HW1.out
      · exact Rd.nil _ _
      · exact rd_end HO2.out (kp_set4 HK8.out (.inr rfl) _ _ _ _) HN2.out HW3.out
    | false =>
      have HE := Aside0.mk (show odG l a 3 S al = true by rw [HG.out, HBQ.out, HPB.out, decide_eq_true HK8'.out]; rfl)
      go_wp2_with fail
      refine bodyPost_ret (v := .tuple #[.agg #[.int .i64 3, .slice A1 5 d1, .slice none 0 0, .slice A2 N d2], .int .i64 (a + al), .bool true]) (by simp [results, Try.results33, go_sem, r0, r1, r2, r3]) rfl ⟨⟨.slice A1 5 d1, .slice none 0 0, .slice A2 N d2, by rw [HE.out]; rfl, ?_, ?_, ?_⟩, below_set4 HB8.out (Nat.le_refl _) _ _ _ _⟩
      · exact rd_end HO5.out (kp_set4 HK8.out (.inr rfl) _ _ _ _) HN1.out HW1.out
      · exact Rd.nil _ _
      · exact rd_end HO2.out (kp_set4 HK8.out (.inr rfl) _ _ _ _) HN2.out HW3.out
set_option maxHeartbeats 8000000 in
set_option maxRecDepth 100000 in
theorem obj_Decode_4 (v : Value) (l : List Int) (a : Int) (w : World) (hr : Rd w .u8 v l) (hb : isB l) (hl : l.length ≤ 100000) (ha : a ≤ 100000) (ha0 : -9223372036854775808 ≤ a) (S al : Int) (hf : frV l a = .tuple #[.int .i64 4, .int .i64 S, .bool true]) (hal : alignZ S = al) (a0 : 0 ≤ a) (s0 : 24 ≤ S) (s1 : S ≤ al) (s2 : a + al ≤ l.length) :
    Calls Try.prog 33 #[v, .int .i64 a] w fun e w' => (∃ u1 u2 u3, e = .returned (bif odG l a 4 S al then .tuple #[.agg #[.int .i64 4, u1, u2, u3], .int .i64 (a + al), .bool true] else .tuple #[.agg #[.int .i64 0, .slice none 0 0, .slice none 0 0, .slice none 0 0], .int .i64 0, .bool false]) ∧ Rd w' .u64 u1 (odW l a 4) ∧ Rd w' .u8 u2 (odR l a 4 S) ∧ Rd w' .u64 u3 (odI l a 4 S)) ∧ Below w.heap.size w w' := by
  have HV := Aside0.mk hr
  have HIB := Aside0.mk hb
  have HF := Aside0.mk hf
  have HAL := Aside0.mk hal
  obtain ⟨A, c, rfl, hc, hm, hr'⟩ := hr.mid
  have HFAR : Aside0 (∀ (A' : Addr) n c', (.slice A l.length c : Value) = .slice (some A') n c' → 0 < l.length → A'.block < w.heap.size) := ⟨fun A' n c' e hp => rd_old HV.out e hp⟩
  clear hr' hr hb hc hm hf hal
  have HZ0 := Aside0.mk (blk_new w (.cells #[.int .i64 0, .slice none 0 0, .slice none 0 0, .slice none 0 0] 51))
  have HB0 := Aside0.mk (below_alloc (Below.refl w.heap.size w) (.cells #[.int .i64 0, .slice none 0 0, .slice none 0 0, .slice none 0 0] 51))
  go_enter Try.func33, Try.ntmps33
  go_wp2_with fail
  refine (obj_frame_calls _ l a _ (HV.out.below HB0.out) HIB.out hl ha ha0).mono ?_
  rintro e w1 ⟨rfl, hb1⟩
  have HB1 := Aside0.mk (below_step HB0.out hb1)
  have HZ1 := Aside0.mk (blk_below HZ0.out hb1)
  clear hb1
  rw [HF.out]
  go_wp2_with fail
  refine (le_Read_calls _ l (a + 16) _ (HV.out.below HB1.out) (by omega)).mono ?_
  rintro e w2 ⟨rfl, hb2, hr2⟩
  rw [if_pos (by omega)] at hr2
  obtain ⟨g, hg⟩ : ∃ g, w1.heap.size = g := ⟨_, rfl⟩
  have hgw : w.heap.size < g := by have := blk_lt HZ1.out; omega
  have HB2 := Aside0.mk (below_step HB1.out hb2)
  have HZ2 := Aside0.mk (blk_below HZ1.out hb2)
  rw [hg] at hr2 ⊢
  have HR2 := Aside0.mk hr2
  clear hb2 hr2 hg
  have HFR : Aside0 (∀ (A' : Addr) n c', (.slice A l.length c : Value) = .slice (some A') n c' → 0 < l.length → A'.block ≠ g) := ⟨fun A' n c' e hp => by have := HFAR.out A' n c' e hp; omega⟩
  go_wp2_with fail
  refine (obj_Words_calls 4 _).mono ?_
  rintro e wx ⟨rfl, rfl⟩
  rw [show wN 4 = 1 from rfl]
  go_wp2_with fail
  refine (Reader_Words_calls 1 _ g _ l (a + 16) false HR2.out (HV.out.below HB2.out) HIB.out HFR.out (by omega) (by omega) (by omega)).mono ?_
  rintro e w3 ⟨u1, rfl, hO1, hr3, hk3⟩
  have HWL : wOk false l.length (a + 16) 1 = true := by simp [wOk]; omega
  rw [HWL] at hO1 hr3
  simp only [cond_true, Bool.not_true] at hO1 hr3
  obtain ⟨A1, d1, e1⟩ := own_slice hO1
  rw [wordsAt_len] at e1
  have e1' : u1 = .slice A1 1 d1 := e1
  clear e1
  subst e1'
  have hg2 : g < w2.heap.size := blk_lt HR2.out
  have HO1 := Aside0.mk hO1
  have HB3 := Aside0.mk (Kp.from HB2.out hk3 (fun k hk => by omega))
  have HZ3 := Aside0.mk (hk3.blk HZ2.out (by omega))
  have hg3 : g < w3.heap.size := blk_lt hr3
  have HR3 := Aside0.mk (show RrV w3 g (.slice A l.length c) (a + 24) false by rwa [show a + 16 + 8 * 1 = a + 24 by omega] at hr3)
  clear HWL hO1 hr3 hk3
  go_wp2_with fail
  refine (obj_Front_calls 4 _).mono ?_
  rintro e wx ⟨rfl, rfl⟩
  rw [show (16 : Int) + 8 * wN 4 = 24 from rfl]
  have HX4 := Aside0.mk (blk_new w3 (.cells #[.int .i64 4, .slice A1 1 d1, .slice none 0 0, .slice none 0 0] 51))
  have HB4 := Aside0.mk (below_alloc HB3.out (.cells #[.int .i64 4, .slice A1 1 d1, .slice none 0 0, .slice none 0 0] 51))
  have HZ4 := Aside0.mk (blk_alloc HZ3.out (.cells #[.int .i64 4, .slice A1 1 d1, .slice none 0 0, .slice none 0 0] 51))
  have HR4 := Aside0.mk (HR3.out.below (below_alloc (Below.refl _ _) (.cells #[.int .i64 4, .slice A1 1 d1, .slice none 0 0, .slice none 0 0] 51)))
  have HO4 := Aside0.mk (HO1.out.below (below_alloc (Below.refl _ _) (.cells #[.int .i64 4, .slice A1 1 d1, .slice none 0 0, .slice none 0 0] 51)))
  obtain ⟨p, hp⟩ : ∃ p, w3.heap.size = p := ⟨_, rfl⟩
  obtain ⟨w4, hw4⟩ : ∃ w4, w3.alloc (.cells #[.int .i64 4, .slice A1 1 d1, .slice none 0 0, .slice none 0 0] 51) = w4 := ⟨_, rfl⟩
  rw [hw4] at HX4 HB4 HZ4 HR4 HO4 ⊢
  rw [hp] at HX4 hg3 ⊢
  have HP := Aside0.mk hp
  clear hp hw4
  obtain ⟨q, hq⟩ : ∃ q, S - 24 = q := ⟨_, rfl⟩
  have q0 : 0 ≤ q := by omega
  have hS1 : S ≤ q + 24 := by omega
  have hS2 : q + 24 ≤ S := by omega
  have hwq : IntKind.i64.wrap (S - 24) = q := by rw [IntKind.wrap_i64]; omega
  clear hq
  go_wp2_with fail
  obtain ⟨m, hm8⟩ : ∃ m, q / 8 = m := ⟨_, rfl⟩
  have m0 : 0 ≤ m := by omega
  have m1 : 8 * m ≤ q := by omega
  have m2 : q < 8 * m + 8 := by omega
  rw [hm8]
  have HM := Aside0.mk hm8
  clear hm8
  refine (Reader_Words_calls m _ g _ l (a + 24) false HR4.out (HV.out.below HB4.out) HIB.out HFR.out (by omega) (by omega) (by omega)).mono ?_
  rintro e w5 ⟨u2, rfl, hO2, hr5, hk5⟩
  have HWL : wOk false l.length (a + 24) m = true := by simp [wOk]; omega
  rw [HWL] at hO2
  simp only [cond_true] at hO2
  obtain ⟨A2, d2, e2⟩ := own_slice hO2
  rw [wordsAt_len] at e2
  obtain ⟨N, hN⟩ : ∃ N, m.toNat = N := ⟨_, rfl⟩
  have hNq : (N : Int) = m := by omega
  rw [hN] at e2
  subst e2
  have HN := Aside0.mk hN
  have HO2 := Aside0.mk hO2
  have HO5 := Aside0.mk (hk5.own HO4.out (fun k hk e => by have := HO4.out.ge hk; omega))
  have HB5 := Aside0.mk (Kp.from HB4.out hk5 (fun k hk => by omega))
  have HZ5 := Aside0.mk (hk5.blk HZ4.out (by omega))
  have HX5 := Aside0.mk (hk5.blk HX4.out (by omega))
  have HNQ := Aside0.mk hNq
  have hN9 : N ≤ 100000 := by omega
  clear HWL hO2 hr5 hk5 hN hNq hwq
  have x2 := blk_cell HX5.out 3
  have y2 := blk_frozen HX5.out 3
  go_wp2_with fail
  refine (le_Align_calls S _ (by omega)).mono ?_
  rintro e w6 ⟨rfl, hb6⟩
  rw [HAL.out]
  have hset := blk_set HX5.out 3 (.slice A2 N d2)
  have HX6 := Aside0.mk (show w6.heap[p]? = some (.cells #[.int .i64 4, .slice A1 1 d1, .slice none 0 0, .slice A2 N d2] 51 (0, 0)) from blk_below (by simpa using hset) hb6)
  have hpw : w.heap.size < p := by omega
  have HB6 := Aside0.mk (below_step (obelow_set HB5.out ⟨p, 3, none⟩ (by show w.heap.size ≤ p; omega) (.slice A2 N d2)) hb6)
  have HZ6 := Aside0.mk (blk_below (blk_far HZ5.out (by show w.heap.size ≠ p; omega) (.slice A2 N d2)) hb6)
  have HK6 := Aside0.mk (((Kp.set w5 ⟨p, 3, none⟩ (.slice A2 N d2)).mono (S1 := fun b => b = p ∨ b = w.heap.size) (fun k hk => .inl hk)).below hb6)
  clear hset hb6 x2 y2
  have x0 := blk_cell HX6.out 0
  have x1 := blk_cell HX6.out 1
  have x2 := blk_cell HX6.out 2
  have x3 := blk_cell HX6.out 3
  obtain ⟨i5, hi5, hz5⟩ := infoU8'
  obtain ⟨v', hcut, hrd⟩ := Rd.cut 22 5 Try.underlying22 hi5 hz5 HV.out (a + S) (a + al) (by omega) (by omega) (by omega)
  have HRD := Aside0.mk (show ∀ w1 : World, Rd w1 .u8 (.slice A l.length c) l → Rd w1 .u8 v' (odP l a S al) from hrd)
  have hrem : Int.tmod q 8 = q % 8 := Int.tmod_eq_emod_of_nonneg q0
  have HREM := Aside0.mk hrem
  clear hrd hi5 hz5 hrem
  have H0 := HZ6.out
  go_wp2_with fail
  refine (obj_Right_calls 4 A1 none A2 1 0 N d1 0 d2 _ (by omega) (by omega) (by omega)).mono ?_
  rintro e w7 ⟨rfl, hb7⟩
  have HB7 := Aside0.mk (below_step HB6.out hb7)
  have HX7 := Aside0.mk (blk_below HX6.out hb7)
  have HK7 := Aside0.mk (HK6.out.below hb7)
  have HZ7 := Aside0.mk (blk_below HZ6.out hb7)
  clear hb7 H0 x0 x1 x2 x3
  obtain ⟨b, hbq⟩ : ∃ b, oR 4 1 0 N = b := ⟨_, rfl⟩
  rw [hbq]
  have HBQ := Aside0.mk hbq
  clear hbq
  have HW1 := Aside0.mk (show odW l a 4 = wordsAt l (a + 16) (Int.toNat 1) from rfl)
  have HW2 := Aside0.mk (show odR l a 4 S = [] by rw [odR, if_neg (by decide)])
  have HW3 := Aside0.mk (show odI l a 4 S = wordsAt l (a + 24) m.toNat by rw [odI, if_neg (by decide), show a + 16 + 8 * wN 4 = a + 24 from by show a + 16 + 8 * 1 = a + 24; omega, show S - (16 + 8 * wN 4) = q from by show S - (16 + 8 * 1) = q; omega, HM.out])
  have HG := Aside0.mk (show odG l a 4 S al = (oR 4 1 0 N && decide (q % 8 = 0) && !((odP l a S al).any fun x => x != 0)) by rw [odG, HW1.out, HW2.out, HW3.out, wordsAt_len, wordsAt_len, HN.out, show decide (S % 8 = 0) = decide (q % 8 = 0) from decide_eq_decide.2 (by omega)]; simp)
  have HN1 := Aside0.mk (show ∀ b, (.slice A1 1 d1 : Value).ownBlock = some b → ¬ (b = p ∨ b = w.heap.size) from fun b hb => by have h1 := HO1.out.ge hb; have h2 := HO1.out.lt hb; have h3 := HP.out; omega)
  have HN2 := Aside0.mk (show ∀ b, (.slice A2 N d2 : Value).ownBlock = some b → ¬ (b = p ∨ b = w.heap.size) from fun b hb => by have h1 := HO2.out.ge hb; have h2 := blk_lt HX4.out; omega)
  have H0 := HZ7.out
  have r0 := blk_cell H0 0
  have r1 := blk_cell H0 1
  have r2 := blk_cell H0 2
  have r3 := blk_cell H0 3
  have f0 := blk_frozen H0 0
  have f1 := blk_frozen H0 1
  have f2 := blk_frozen H0 2
  have f3 := blk_frozen H0 3
  have x0 := blk_cell HX7.out 0
  have x1 := blk_cell HX7.out 1
  have x2 := blk_cell HX7.out 2
  have x3 := blk_cell HX7.out 3
  clear H0
  cases b with
  | false =>
    have HE := Aside0.mk (show odG l a 4 S al = false by rw [HG.out, HBQ.out]; rfl)
    go_wp2_with fail
    refine bodyPost_ret (v := .tuple #[.agg #[.int .i64 0, .slice none 0 0, .slice none 0 0, .slice none 0 0], .int .i64 0, .bool false]) (by simp [results, Try.results33, go_sem, r0, r1, r2, r3]) rfl ⟨⟨.slice A1 1 d1, .slice none 0 0, .slice A2 N d2, by rw [HE.out]; rfl, ?_, ?_, ?_⟩, below_set4 HB7.out (Nat.le_refl _) _ _ _ _⟩
    · exact rd_end HO5.out (kp_set4 HK7.out (.inr rfl) _ _ _ _) HN1.out HW1.out
    · exact Rd.nil _ _
    · exact rd_end HO2.out (kp_set4 HK7.out (.inr rfl) _ _ _ _) HN2.out HW3.out
  | true =>
    by_cases k8 : q % 8 = 0
    rotate_left
    · skip
      have HE := Aside0.mk (show odG l a 4 S al = false by rw [HG.out, HBQ.out, decide_eq_false k8]; rfl)
      have k9 : (q % 8 != 0) = true := by simpa using k8
      go_wp2_with fail
      refine bodyPost_ret (v := .tuple #[.agg #[.int .i64 0, .slice none 0 0, .slice none 0 0, .slice none 0 0], .int .i64 0, .bool false]) (by simp [results, Try.results33, go_sem, r0, r1, r2, r3]) rfl ⟨⟨.slice A1 1 d1, .slice none 0 0, .slice A2 N d2, by rw [HE.out]; rfl, ?_, ?_, ?_⟩, below_set4 HB7.out (Nat.le_refl _) _ _ _ _⟩
      · exact rd_end HO5.out (kp_set4 HK7.out (.inr rfl) _ _ _ _) HN1.out HW1.out
      · exact Rd.nil _ _
      · exact rd_end HO2.out (kp_set4 HK7.out (.inr rfl) _ _ _ _) HN2.out HW3.out
    have k9 : (q % 8 != 0) = false := by simpa using k8
    have HK8' := Aside0.mk k8
    clear k8
    go_wp2_with fail
    refine (ContainsZ_calls v' (odP l a S al) _ (HRD.out _ (HV.out.below HB7.out))).mono ?_
    rintro e w8 ⟨rfl, hb8⟩
    have HB8 := Aside0.mk (below_step HB7.out hb8)
    have HX8 := blk_below HX7.out hb8
    have HK8 := Aside0.mk (HK7.out.below hb8)
    have H0 := blk_below HZ7.out hb8
    clear hb8 r0 r1 r2 r3 f0 f1 f2 f3 x0 x1 x2 x3
    obtain ⟨pb, hpb⟩ : ∃ pb, ((odP l a S al).any fun x => x != 0) = pb := ⟨_, rfl⟩
    rw [hpb]
    have HPB := Aside0.mk hpb
    clear hpb
    have r0 := blk_cell H0 0
    have r1 := blk_cell H0 1
    have r2 := blk_cell H0 2
    have r3 := blk_cell H0 3
    have f0 := blk_frozen H0 0
    have f1 := blk_frozen H0 1
    have f2 := blk_frozen H0 2
    have f3 := blk_frozen H0 3
    have x0 := blk_cell HX8 0
    have x1 := blk_cell HX8 1
    have x2 := blk_cell HX8 2
    have x3 := blk_cell HX8 3
    clear H0 HX8
    cases pb with
    | true =>
      have HE := Aside0.mk (show odG l a 4 S al = false by rw [HG.out, HBQ.out, HPB.out, decide_eq_true HK8'.out]; rfl)
      go_wp2_with fail
      refine bodyPost_ret (v := .tuple #[.agg #[.int .i64 0, .slice none 0 0, .slice none 0 0, .slice none 0 0], .int .i64 0, .bool false]) (by simp [results, Try.results33, go_sem, r0, r1, r2, r3]) rfl ⟨⟨.slice A1 1 d1, .slice none 0 0, .slice A2 N d2, by rw [HE.out]; rfl, ?_, ?_, ?_⟩, below_set4 HB8.out (Nat.le_refl _) _ _ _ _⟩
      · exact rd_end HO5.out (kp_set4 HK8.out (.inr rfl) _ _ _ _) HN1.out HW1.out
      · exact Rd.nil _ _
      · exact rd_end HO2.out (kp_set4 HK8.out (.inr rfl) _ _ _ _) HN2.out HW3.out
    | false =>
      have HE := Aside0.mk (show odG l a 4 S al = true by rw [HG.out, HBQ.out, HPB.out, decide_eq_true HK8'.out]; rfl)
      go_wp2_with fail
      refine bodyPost_ret (v := .tuple #[.agg #[.int .i64 4, .slice A1 1 d1, .slice none 0 0, .slice A2 N d2], .int .i64 (a + al), .bool true]) (by simp [results, Try.results33, go_sem, r0, r1, r2, r3]) rfl ⟨⟨.slice A1 1 d1, .slice none 0 0, .slice A2 N d2, by rw [HE.out]; rfl, ?_, ?_, ?_⟩, below_set4 HB8.out (Nat.le_refl _) _ _ _ _⟩
      · exact rd_end HO5.out (kp_set4 HK8.out (.inr rfl) _ _ _ _) HN1.out HW1.out
      · exact Rd.nil _ _
      · exact rd_end HO2.out (kp_set4 HK8.out (.inr rfl) _ _ _ _) HN2.out HW3.out

end Go.Proofs.Ytigdchfjcfljjaa
