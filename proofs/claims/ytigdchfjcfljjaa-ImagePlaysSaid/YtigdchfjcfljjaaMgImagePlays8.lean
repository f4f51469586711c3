import Derived.Test.YtigdchfjcfljjaaMgImagePlays5
import Derived.Test.YtigdchfjcfljjaaMgImagePlays7
set_option linter.unusedVariables false
set_option linter.unusedSimpArgs false
section
/- Images: what Object and At tell (plain). -/
namespace Go.Proofs.Ytigdchfjcfljjaa
open Go.RowKit Go.Proofs.YtigdchfjcfljjaaW.PrintWords Go.Proofs.YtigdchfjcfljjaaW.PrintLast Go.Proofs.YtigdchfjcfljjaaW.PrintMore
theorem obB_yes {H : Hd} {B : List Int} {a : Int} (h : obB H B a = true) : 0 ≤ a ∧ a + 16 ≤ B.length ∧ 1 ≤ getN B a 8 ∧ getN B a 8 ≤ 4 := by
  rw [obB, Bool.and_eq_true, dG, Bool.and_eq_true] at h
  obtain ⟨a0, a1, _, k0, k1, _⟩ := of_decide_eq_true h.2.1
  exact ⟨a0, a1, k0, k1⟩
theorem atB_yes {H : Hd} {B : List Int} {a K : Int} (h : obB H B a = true) (hK : getN B a 8 = K) : atB H B a K = true := by
  have := obB_yes h
  rw [atB, h, hK, decide_eq_true (by omega)]
  simp
theorem atB_other {H : Hd} {B : List Int} {a K k : Int} (h : obB H B a = true) (hK : getN B a 8 = K) (hk : k = K % 4 + 1) : atB H B a k = false := by
  have := obB_yes h
  have hne : (getN B a 8 == k) = false := by rw [beq_eq_false_iff_ne]; omega
  rw [atB, hne]
  simp
theorem atB_none {H : Hd} {B : List Int} {a : Int} (h : obB H B a = false) (k : Int) : atB H B a k = false := by
  rw [atB, h]
  simp
theorem atB_far {H : Hd} {B : List Int} {p : Int} (h : (B.length : Int) ≤ p) (k : Int) : atB H B p k = false := by
  rw [atB, decide_eq_false (by omega)]
  rfl
/-- The place as an unsigned number: itself, or far behind all bytes. -/
theorem wrap_at {a : Int} (a0 : -9223372036854775808 ≤ a) (a1 : a ≤ 9223372036854775807) : (0 ≤ a ∧ IntKind.u64.wrap a = a) ∨ (a < 0 ∧ 9223372036854775808 ≤ IntKind.u64.wrap a ∧ IntKind.u64.wrap a ≤ 18446744073709551615) := by
  rw [IntKind.wrap_u64]
  omega
/-- What Object tells at a place: the kind, the words, the raw bytes, the items; all nothing where there is none. -/
def oKd (H : Hd) (B : List Int) (a : Int) : Int := bif obB H B a then getN B a 8 else 0
def oWs (H : Hd) (B : List Int) (a : Int) : List Int := bif obB H B a then odW B a (getN B a 8) else []
def oRw (H : Hd) (B : List Int) (a : Int) : List Int := bif obB H B a then odR B a (getN B a 8) (getN B (a + 8) 8) else []
def oIt (H : Hd) (B : List Int) (a : Int) : List Int := bif obB H B a then odI B a (getN B a 8) (getN B (a + 8) 8) else []
def ObRow (w : World) (H : Hd) (B : List Int) (a : Int) (v : Value) : Prop := ∃ A1 c1 A2 c2 A3 c3, v = .agg #[.int .i64 (oKd H B a), .slice A1 (oWs H B a).length c1, .slice A2 (oRw H B a).length c2, .slice A3 (oIt H B a).length c3] ∧ Rd w .u64 (.slice A1 (oWs H B a).length c1) (oWs H B a) ∧ Rd w .u8 (.slice A2 (oRw H B a).length c2) (oRw H B a) ∧ Rd w .u64 (.slice A3 (oIt H B a).length c3) (oIt H B a)
theorem oRw_isB (H : Hd) {B : List Int} (hb : isB B) (a : Int) : isB (oRw H B a) := by
  rw [oRw]
  cases obB H B a
  · exact fun x hx => by simp at hx
  · show isB (odR B a (getN B a 8) (getN B (a + 8) 8))
    rw [odR]
    split <;> first | exact rawAt_isB hb _ _ | exact fun x hx => by simp at hx
theorem oKd_le (H : Hd) (B : List Int) (a : Int) : 0 ≤ oKd H B a ∧ oKd H B a ≤ 4 := by
  rw [oKd]
  cases h : obB H B a with
  | false => exact ⟨Int.le_refl 0, (by decide : (0 : Int) ≤ 4)⟩
  | true =>
    have := obB_yes h
    exact ⟨by show 0 ≤ getN B a 8; omega, this.2.2.2⟩
theorem ob_row {w : World} {H : Hd} {B : List Int} {a : Int} {u1 u2 u3 : Value} (hu : obB H B a = true → Rd w .u64 u1 (odW B a (getN B a 8)) ∧ Rd w .u8 u2 (odR B a (getN B a 8) (getN B (a + 8) 8)) ∧ Rd w .u64 u3 (odI B a (getN B a 8) (getN B (a + 8) 8))) : ∃ v, obV H B a u1 u2 u3 = .tuple #[v, .bool (obB H B a)] ∧ ObRow w H B a v := by
  cases h : obB H B a with
  | false =>
    refine ⟨.agg #[.int .i64 0, .slice none 0 0, .slice none 0 0, .slice none 0 0], by rw [obV, h]; rfl, ?_⟩
    have e0 : oKd H B a = 0 := by rw [oKd, h]; rfl
    have e1 : oWs H B a = [] := by rw [oWs, h]; rfl
    have e2 : oRw H B a = [] := by rw [oRw, h]; rfl
    have e3 : oIt H B a = [] := by rw [oIt, h]; rfl
    rw [ObRow, e0, e1, e2, e3]
    exact ⟨none, 0, none, 0, none, 0, rfl, Rd.nil _ _, Rd.nil _ _, Rd.nil _ _⟩
  | true =>
    obtain ⟨h1, h2, h3⟩ := hu h
    have e0 : oKd H B a = getN B a 8 := by rw [oKd, h]; rfl
    have e1 : oWs H B a = odW B a (getN B a 8) := by rw [oWs, h]; rfl
    have e2 : oRw H B a = odR B a (getN B a 8) (getN B (a + 8) 8) := by rw [oRw, h]; rfl
    have e3 : oIt H B a = odI B a (getN B a 8) (getN B (a + 8) 8) := by rw [oIt, h]; rfl
    refine ⟨.agg #[.int .i64 (getN B a 8), u1, u2, u3], by rw [obV, h]; rfl, ?_⟩
    rw [ObRow, e0, e1, e2, e3]
    obtain ⟨A1, c1, rfl, x1, y1⟩ := h1
    obtain ⟨A2, c2, rfl, x2, y2⟩ := h2
    obtain ⟨A3, c3, rfl, x3, y3⟩ := h3
    exact ⟨A1, c1, A2, c2, A3, c3, rfl, ⟨A1, c1, rfl, x1, y1⟩, ⟨A2, c2, rfl, x2, y2⟩, ⟨A3, c3, rfl, x3, y3⟩⟩
theorem atB_wrap {H : Hd} {B : List Int} {a : Int} (a0 : -9223372036854775808 ≤ a) (a1 : a ≤ 9223372036854775807) (hl : B.length ≤ 100000) : atB H B (IntKind.u64.wrap a) (oKd H B a) = obB H B a := by
  cases h : obB H B a with
  | true =>
    have hy := obB_yes h
    rcases wrap_at a0 a1 with ⟨_, e⟩ | ⟨e, _⟩
    · rw [e, oKd, h]
      exact atB_yes h rfl
    · omega
  | false =>
    rcases wrap_at a0 a1 with ⟨_, e⟩ | ⟨_, e, _⟩
    · rw [e]
      exact atB_none h _
    · exact atB_far (by omega) _
theorem atB_wrap2 {H : Hd} {B : List Int} {a : Int} (a0 : -9223372036854775808 ≤ a) (a1 : a ≤ 9223372036854775807) (hl : B.length ≤ 100000) {k : Int} (hk : k = oKd H B a % 4 + 1) : atB H B (IntKind.u64.wrap a) k = false := by
  cases h : obB H B a with
  | true =>
    have hy := obB_yes h
    rcases wrap_at a0 a1 with ⟨_, e⟩ | ⟨e, _⟩
    · rw [e]
      exact atB_other h rfl (by rw [hk, oKd, h]; rfl)
    · omega
  | false =>
    rcases wrap_at a0 a1 with ⟨_, e⟩ | ⟨_, e, _⟩
    · rw [e]
      exact atB_none h _
    · exact atB_far (by omega) _
/-- What At tells, asked for the kind that stands there: what Object tells. -/
theorem at_row {w : World} {H : Hd} {B : List Int} {a p kd : Int} {u1 u2 u3 : Value} (a0 : -9223372036854775808 ≤ a) (a1 : a ≤ 9223372036854775807) (hl : B.length ≤ 100000) (hp : IntKind.u64.wrap a = p) (hk : oKd H B a = kd) (hu : atB H B p kd = true → Rd w .u64 u1 (odW B p (getN B p 8)) ∧ Rd w .u8 u2 (odR B p (getN B p 8) (getN B (p + 8) 8)) ∧ Rd w .u64 u3 (odI B p (getN B p 8) (getN B (p + 8) 8))) : ∃ v, atV H B p kd u1 u2 u3 = .tuple #[v, .bool (obB H B a)] ∧ ObRow w H B a v := by
  have e := atB_wrap a0 a1 hl (H := H)
  rw [hp, hk] at e
  cases h : obB H B a with
  | false =>
    obtain ⟨v, e1, e2⟩ := ob_row (w := w) (H := H) (B := B) (a := a) (u1 := u1) (u2 := u2) (u3 := u3) (fun c => by rw [h] at c; cases c)
    refine ⟨v, ?_, e2⟩
    rw [h] at e
    rw [atV, e]
    rw [obV, h] at e1
    exact e1
  | true =>
    have hy := obB_yes h
    have hpa : p = a := by
      rcases wrap_at a0 a1 with ⟨_, e⟩ | ⟨e, _⟩
      · rw [← hp, e]
      · omega
    subst hpa
    rw [h] at e
    obtain ⟨v, e1, e2⟩ := ob_row (fun _ => hu e)
    refine ⟨v, ?_, e2⟩
    rw [obV, h] at e1
    rw [atV, e, ← e1, ← hk, oKd, h]
    rfl
theorem at_none {H : Hd} {B : List Int} {a p k : Int} {u1 u2 u3 : Value} (a0 : -9223372036854775808 ≤ a) (a1 : a ≤ 9223372036854775807) (hl : B.length ≤ 100000) (hp : IntKind.u64.wrap a = p) (hk : k = oKd H B a % 4 + 1) : atV H B p k u1 u2 u3 = .tuple #[.agg #[.int .i64 0, .slice none 0 0, .slice none 0 0, .slice none 0 0], .bool false] := by
  have e := atB_wrap2 a0 a1 hl hk
  rw [hp] at e
  rw [atV, e]
  rfl
end Go.Proofs.Ytigdchfjcfljjaa
end
section
/- Images: what both show. -/
namespace Go.Proofs.Ytigdchfjcfljjaa
open Go.RowKit Go.Proofs.YtigdchfjcfljjaaW.PrintWords Go.Proofs.YtigdchfjcfljjaaW.PrintLast Go.Proofs.YtigdchfjcfljjaaW.PrintMore
attribute [local go_sem] max2_int min2_int max_two min_two max_three min_three max_four min_four
set_option maxHeartbeats 8000000 in
set_option maxRecDepth 100000 in
theorem shows_calls (g1 b1 g2 b2 : Nat) (H : Hd) (lim : Int) (B Was ws : List Int) (m : Nat) (F1 F2 : Nat → Prop) (w : World) (hP : Pr w g1 b1 g2 b2 H lim B Was ws m F1 F2) (hr : hR H.data H.fields = true) (hm : m ≤ 1000) (at_ : Int) (a0 : -9223372036854775808 ≤ at_) (a1 : at_ ≤ 9223372036854775807) : Calls Try.prog 55 #[.pointer (some ⟨g1, 0, none⟩), .pointer (some ⟨g2, 0, none⟩), .int .i64 at_] w fun e w' => e = .returned (.bool true) ∧ Below w.heap.size w w' := by
  obtain ⟨⟨vb, vw, hI⟩, ⟨xb, xa, xw, hR⟩, hd, hG⟩ := id hP
  obtain ⟨n, hn⟩ : ∃ k, Was.length = k := ⟨_, rfl⟩
  obtain ⟨N2, hN2⟩ : ∃ k, B.length = k := ⟨_, rfl⟩
  obtain ⟨W2, hW2⟩ : ∃ k, ws.length = k := ⟨_, rfl⟩
  have HN := Aside0.mk hn
  have HN2 := Aside0.mk hN2
  have HW2 := Aside0.mk hW2
  rw [hn] at hI
  have hq1 : n ≤ N2 := by rw [← hn, ← hN2]; exact hG.2.1.2.1
  have hq2 : N2 ≤ 70000 := by rw [← hN2]; exact hG.2.1.2.2
  have hq3 : 200 ≤ n := by rw [← hn]; exact hG.2.1.1
  have hW3 : W2 ≤ 1000000 := by rw [← hW2]; exact Nat.le_trans hG.2.2.2.2.1 (by omega)
  have HXR := Aside0.mk (fun x hx => by have := hG.2.2.2.1 x hx; exact (⟨by omega, by omega⟩ : 192 ≤ x ∧ x + 8 ≤ (B.length : Int)))
  have HBI := Aside0.mk (And.intro hG.1.1 hG.1.2)
  have CC := Aside0.mk (Change_calls g1 b1 H B lim (n : Int) ws F1 vb vw w hI _ rfl (by omega) n rfl (by omega) HXR.out (by omega) (by omega))
  have HDL := Aside0.mk (show (B.drop n).length = N2 - n by rw [List.length_drop, hN2])
  obtain ⟨mv, hmv⟩ : ∃ k, N2 - n = k := ⟨_, rfl⟩
  rw [hmv] at HDL
  have hnm : n + mv = N2 := by omega
  obtain ⟨xbb, xbo, cx, ev, hxc, _⟩ := hR.b.form (by omega)
  rw [hN2] at ev hxc
  subst ev
  obtain ⟨Aa, ca, ev, _, _⟩ := hR.a.sl hn
  subst ev
  obtain ⟨Aw, cw, ev, _, _⟩ := hR.w.sl hW2
  subst ev
  have HI := Aside0.mk hI
  have HR := Aside0.mk hR
  have HRR := Aside0.mk hr
  clear hI hR hd hG hP hn hN2 hW2 hr
  go_enter Try.func55, Try.ntmps55
  go_wp2_with fail
  refine (CC.out).mono ?_
  rintro e w10 ⟨va, vp, ps, rfl, hva, hvp, hpp, hb10⟩
  obtain ⟨Av, cv, ev, _, _⟩ := hva.sl HDL.out
  subst ev
  obtain ⟨Ap, cp, ev⟩ := hvp.slice (hpp.1.trans HW2.out)
  subst ev
  have HVA := Aside0.mk hva
  have HVP := Aside0.mk hvp
  have HPP := Aside0.mk hpp
  have HB := Aside0.mk hb10
  clear hva hvp hpp hb10 CC
  have HZC := Aside0.mk (blk_new w10 (.cells #[.int .i64 (n : Int), .slice Av mv cv, .slice Ap W2 cp] 88))
  have HBA := Aside0.mk (below_alloc (Below.refl w10.heap.size w10) (.cells #[.int .i64 (n : Int), .slice Av mv cv, .slice Ap W2 cp] 88))
  go_upto_region 2 with fail
  obtain ⟨gc, hgc⟩ : ∃ g, w10.heap.size = g := ⟨_, rfl⟩
  rw [hgc] at HZC
  first | rw [hgc] | skip
  obtain ⟨w11, hw11⟩ : ∃ W, w10.alloc (.cells #[.int .i64 (n : Int), .slice Av mv cv, .slice Ap W2 cp] 88) = W := ⟨_, rfl⟩
  rw [hw11] at HZC HBA ⊢
  clear hgc hw11
  replace HB := Aside0.mk (below_step HB.out HBA.out)
  replace HVA := Aside0.mk (HVA.out.below HBA.out)
  replace HVP := Aside0.mk (HVP.out.below HBA.out)
  have x0 : w11.cell? ⟨gc, 0, none⟩ = some (.int .i64 (n : Int)) := blk_cell HZC.out 0
  have x1 : w11.cell? ⟨gc, 1, none⟩ = some (.slice Av mv cv) := blk_cell HZC.out 1
  have x2 : w11.cell? ⟨gc, 2, none⟩ = some (.slice Ap W2 cp) := blk_cell HZC.out 2
  have y5 : w11.cell? ⟨g2, 5, none⟩ = some (.slice (some ⟨xbb, xbo, none⟩) N2 cx) := blk_cell (HR.out.below HB.out).blk 5
  have y6 : w11.cell? ⟨g2, 6, none⟩ = some (.slice Aa n ca) := blk_cell (HR.out.below HB.out).blk 6
  have y8 : w11.cell? ⟨g2, 8, none⟩ = some (.slice Aw W2 cw) := blk_cell (HR.out.below HB.out).blk 8
  obtain ⟨gw, hgw⟩ : ∃ y, getN B at_ 8 = y := ⟨_, rfl⟩
  have CW1 := Aside0.mk (fun (w1 : World) (hb : Below w.heap.size w w1) => Word_calls g1 b1 H B lim (n : Int) ws F1 vb vw w1 (HI.out.below hb) at_ HBI.out.1)
  have CW2 := Aside0.mk (fun (w1 : World) (hb : Below w.heap.size w w1) => RWord_calls g2 b2 H B Was lim ws F2 _ _ _ w1 (HR.out.below hb) at_ HBI.out.1)
  rw [hgw] at CW1 CW2
  have q1 : ((N2 : Int) != (N2 : Int)) = false := by simp
  have q2 : (gw != gw) = false := by simp
  have q3 : ((n : Int) != (n : Int)) = false := by simp
  have q4 : ((W2 : Int) != (W2 : Int)) = false := by simp
  obtain ⟨o', c', hsl, hrd⟩ := slice_tail xbb xbo N2 cx n hq1 hxc (base := b2) HN2.out
  rw [hmv] at hsl hrd
  have HRD := Aside0.mk hrd
  clear hgw hrd hmv
  refine start_ (n := 64) (S := fun w' => w'.cell? ⟨gc, 0, none⟩ = some (.int .i64 (n : Int)) ∧ w'.cell? ⟨gc, 1, none⟩ = some (.slice Av mv cv) ∧ w'.cell? ⟨gc, 2, none⟩ = some (.slice Ap W2 cp) ∧ w'.cell? ⟨g2, 5, none⟩ = some (.slice (some ⟨xbb, xbo, none⟩) N2 cx) ∧ w'.cell? ⟨g2, 6, none⟩ = some (.slice Aa n ca) ∧ w'.cell? ⟨g2, 8, none⟩ = some (.slice Aw W2 cw)) (ds := []) #[false,false,false,false,false,false,false,false,false,false,false,false,false,false,false,false,false,false,false,false,false,false,false,false,false,false,false,false,false,false,false,false,false,false,false,false,false,false,false,false,false,false,false,false,false,false,false,false,false,false,false,false,false,false,false,false,false,false,false,false,false,false,false,false] (by kernel_rfl) rfl rfl ⟨x0, x1, x2, y5, y6, y8⟩ (fun hHeld => ?_)
  refine pure_ (i := 0) (N := some 20) (v := ?_) (a' := ?_) #[true,false,false,false,false,false,false,false,false,false,false,false,false,false,false,false,false,false,false,false,false,false,false,false,false,false,false,false,false,false,false,false,false,false,false,false,false,false,false,false,false,false,false,false,false,false,false,false,false,false,false,false,false,false,false,false,false,false,false,false,false,false,false,false] rfl rfl (by kernel_rfl) (fun _ _ _ h => h) (Or.inl ⟨by rfl, ?_⟩) ?_ ?_
  rotate_left
  · intro w'
    go_simp
    with_reducible rfl
  rotate_left
  · simp only [Act.put, List.setIfInBounds_toArray, List.set_cons_zero, List.set_cons_succ, i64_w, i32_w]
    rfl
  refine pure_ (i := 2) (N := some 22) (v := ?_) (a' := ?_) #[true,false,true,false,false,false,false,false,false,false,false,false,false,false,false,false,false,false,false,false,false,false,false,false,false,false,false,false,false,false,false,false,false,false,false,false,false,false,false,false,false,false,false,false,false,false,false,false,false,false,false,false,false,false,false,false,false,false,false,false,false,false,false,false] rfl rfl (by kernel_rfl) (fun _ _ _ h => h) (Or.inl ⟨by rfl, ?_⟩) ?_ ?_
  rotate_left
  · intro w'
    go_simp
    with_reducible rfl
  rotate_left
  · simp only [Act.put, List.setIfInBounds_toArray, List.set_cons_zero, List.set_cons_succ, i64_w, i32_w]
    rfl
  refine pure_ (i := 3) (N := some 23) (v := ?_) (a' := ?_) #[true,false,true,true,false,false,false,false,false,false,false,false,false,false,false,false,false,false,false,false,false,false,false,false,false,false,false,false,false,false,false,false,false,false,false,false,false,false,false,false,false,false,false,false,false,false,false,false,false,false,false,false,false,false,false,false,false,false,false,false,false,false,false,false] rfl rfl (by kernel_rfl) (fun _ _ _ h => h) (Or.inl ⟨by rfl, ?_⟩) ?_ ?_
  rotate_left
  · intro w'
    go_simp
    with_reducible rfl
  rotate_left
  · simp only [Act.put, List.setIfInBounds_toArray, List.set_cons_zero, List.set_cons_succ, i64_w, i32_w]
    rfl
  refine pure_ (i := 4) (N := some 24) (v := ?_) (a' := ?_) #[true,false,true,true,true,false,false,false,false,false,false,false,false,false,false,false,false,false,false,false,false,false,false,false,false,false,false,false,false,false,false,false,false,false,false,false,false,false,false,false,false,false,false,false,false,false,false,false,false,false,false,false,false,false,false,false,false,false,false,false,false,false,false,false] rfl rfl (by kernel_rfl) (fun _ _ _ h => h) (Or.inl ⟨by rfl, ?_⟩) ?_ ?_
  rotate_left
  · intro w'
    go_simp
    with_reducible rfl
  rotate_left
  · simp only [Act.put, List.setIfInBounds_toArray, List.set_cons_zero, List.set_cons_succ, i64_w, i32_w]
    rfl
  refine take_ (i := 5) (N := some 25) (v := ?_) (a' := ?_) #[true,false,true,true,true,true,false,false,false,false,false,false,false,false,false,false,false,false,false,false,false,false,false,false,false,false,false,false,false,false,false,false,false,false,false,false,false,false,false,false,false,false,false,false,false,false,false,false,false,false,false,false,false,false,false,false,false,false,false,false,false,false,false,false] rfl rfl (by kernel_rfl) (fun _ _ _ h => h) (Or.inl ⟨by rfl, ?_⟩) hHeld ?_ ?_
  rotate_left
  · rintro w' ⟨s0, s1, s2, s3, s4, s5⟩
    go_simp
    with_reducible rfl
  rotate_left
  · simp only [Act.put, List.setIfInBounds_toArray, List.set_cons_zero, List.set_cons_succ, i64_w, i32_w]
    rfl
  refine one_ (i := 1) (N := some 21) #[true,true,true,true,true,true,false,false,false,false,false,false,false,false,false,false,false,false,false,false,false,false,false,false,false,false,false,false,false,false,false,false,false,false,false,false,false,false,false,false,false,false,false,false,false,false,false,false,false,false,false,false,false,false,false,false,false,false,false,false,false,false,false,false] rfl rfl (by kernel_rfl) (by decide) (fun K hK => ?_)
  refine goes_ Try.func43 (by kernel_rfl) rfl #[.pointer (some ⟨g1, 0, none⟩)] (by rfl) rfl rfl (by (try simp only [List.map_toArray, List.map_cons, List.map_nil]); first | done | rfl) ?_
  with_reducible refine (Bytes_calls g1 b1 H B lim (n : Int) ws F1 vb vw _ (HI.out.below (below_drew HB.out)) (by rw [HN2.out]; omega)).mono ?_
  rintro e w12 ⟨v12, rfl, ho12, hb12⟩
  refine ⟨_, rfl, ?_⟩
  refine hK.out _ _ ⟨(pw_cell_below hb12 hHeld.1), (pw_cell_below hb12 hHeld.2.1), (pw_cell_below hb12 hHeld.2.2.1), (pw_cell_below hb12 hHeld.2.2.2.1), (pw_cell_below hb12 hHeld.2.2.2.2.1), (pw_cell_below hb12 hHeld.2.2.2.2.2)⟩ (fun hHeld => ?_)
  clear hK K
  refine norm_ (a' := ?_) ?_ ?_
  rotate_left
  · show Act.put _ (some 21) _ = _
    simp only [Act.put, List.setIfInBounds_toArray, List.set_cons_zero, List.set_cons_succ, i64_w, i32_w]
    rfl
  refine one_ (i := 6) (N := some 26) #[true,true,true,true,true,true,true,false,false,false,false,false,false,false,false,false,false,false,false,false,false,false,false,false,false,false,false,false,false,false,false,false,false,false,false,false,false,false,false,false,false,false,false,false,false,false,false,false,false,false,false,false,false,false,false,false,false,false,false,false,false,false,false,false] rfl rfl (by kernel_rfl) (by decide) (fun K hK => ?_)
  refine goes_ Try.func19 (by kernel_rfl) rfl #[v12, .slice (some ⟨xbb, xbo, none⟩) N2 cx] (by rfl) rfl rfl (by (try simp only [List.map_toArray, List.map_cons, List.map_nil]); first | done | rfl) ?_
  with_reducible refine (Same_calls v12 _ B B _ ho12.rd (HR.out.below (below_step (below_drew HB.out) hb12)).b.rd HBI.out.1 HBI.out.1).mono ?_
  rintro e w13 ⟨rfl, hb13⟩
  refine ⟨_, rfl, ?_⟩
  rw [decide_eq_true (show B = B from rfl)]
  refine hK.out _ _ ⟨(pw_cell_below hb13 hHeld.1), (pw_cell_below hb13 hHeld.2.1), (pw_cell_below hb13 hHeld.2.2.1), (pw_cell_below hb13 hHeld.2.2.2.1), (pw_cell_below hb13 hHeld.2.2.2.2.1), (pw_cell_below hb13 hHeld.2.2.2.2.2)⟩ (fun hHeld => ?_)
  clear hK K
  refine norm_ (a' := ?_) ?_ ?_
  rotate_left
  · show Act.put _ (some 26) _ = _
    simp only [Act.put, List.setIfInBounds_toArray, List.set_cons_zero, List.set_cons_succ, i64_w, i32_w]
    rfl
  refine pure_ (i := 7) (N := some 27) (v := ?_) (a' := ?_) #[true,true,true,true,true,true,true,true,false,false,false,false,false,false,false,false,false,false,false,false,false,false,false,false,false,false,false,false,false,false,false,false,false,false,false,false,false,false,false,false,false,false,false,false,false,false,false,false,false,false,false,false,false,false,false,false,false,false,false,false,false,false,false,false] rfl rfl (by kernel_rfl) (fun _ _ _ h => h) (Or.inl ⟨by rfl, ?_⟩) ?_ ?_
  rotate_left
  · intro w'
    go_simp
    with_reducible rfl
  rotate_left
  · simp only [Act.put, List.setIfInBounds_toArray, List.set_cons_zero, List.set_cons_succ, i64_w, i32_w]
    rfl
  refine pure_ (i := 8) (N := some 28) (v := ?_) (a' := ?_) #[true,true,true,true,true,true,true,true,true,false,false,false,false,false,false,false,false,false,false,false,false,false,false,false,false,false,false,false,false,false,false,false,false,false,false,false,false,false,false,false,false,false,false,false,false,false,false,false,false,false,false,false,false,false,false,false,false,false,false,false,false,false,false,false] rfl rfl (by kernel_rfl) (fun _ _ _ h => h) (Or.inl ⟨by rfl, ?_⟩) ?_ ?_
  rotate_left
  · intro w'
    go_simp
    with_reducible rfl
  rotate_left
  · simp only [Act.put, List.setIfInBounds_toArray, List.set_cons_zero, List.set_cons_succ, i64_w, i32_w]
    rfl
  refine pure_ (i := 9) (N := some 29) (v := ?_) (a' := ?_) #[true,true,true,true,true,true,true,true,true,true,false,false,false,false,false,false,false,false,false,false,false,false,false,false,false,false,false,false,false,false,false,false,false,false,false,false,false,false,false,false,false,false,false,false,false,false,false,false,false,false,false,false,false,false,false,false,false,false,false,false,false,false,false,false] rfl rfl (by kernel_rfl) (fun _ _ _ h => h) (Or.inl ⟨by rfl, ?_⟩) ?_ ?_
  rotate_left
  · intro w'
    go_simp
    with_reducible rfl
  rotate_left
  · simp only [Act.put, List.setIfInBounds_toArray, List.set_cons_zero, List.set_cons_succ, i64_w, i32_w]
    rfl
  refine pure_ (i := 11) (N := some 31) (v := ?_) (a' := ?_) #[true,true,true,true,true,true,true,true,true,true,false,true,false,false,false,false,false,false,false,false,false,false,false,false,false,false,false,false,false,false,false,false,false,false,false,false,false,false,false,false,false,false,false,false,false,false,false,false,false,false,false,false,false,false,false,false,false,false,false,false,false,false,false,false] rfl rfl (by kernel_rfl) (fun _ _ _ h => h) (Or.inl ⟨by rfl, ?_⟩) ?_ ?_
  rotate_left
  · intro w'
    go_simp
    with_reducible rfl
  rotate_left
  · simp only [Act.put, List.setIfInBounds_toArray, List.set_cons_zero, List.set_cons_succ, i64_w, i32_w]
    rfl
  refine pure_ (i := 12) (N := some 32) (v := ?_) (a' := ?_) #[true,true,true,true,true,true,true,true,true,true,false,true,true,false,false,false,false,false,false,false,false,false,false,false,false,false,false,false,false,false,false,false,false,false,false,false,false,false,false,false,false,false,false,false,false,false,false,false,false,false,false,false,false,false,false,false,false,false,false,false,false,false,false,false] rfl rfl (by kernel_rfl) (fun _ _ _ h => h) (Or.inl ⟨by rfl, ?_⟩) ?_ ?_
  rotate_left
  · intro w'
    go_simp
    with_reducible rfl
  rotate_left
  · simp only [Act.put, List.setIfInBounds_toArray, List.set_cons_zero, List.set_cons_succ, i64_w, i32_w]
    rfl
  refine pure_ (i := 13) (N := some 33) (v := ?_) (a' := ?_) #[true,true,true,true,true,true,true,true,true,true,false,true,true,true,false,false,false,false,false,false,false,false,false,false,false,false,false,false,false,false,false,false,false,false,false,false,false,false,false,false,false,false,false,false,false,false,false,false,false,false,false,false,false,false,false,false,false,false,false,false,false,false,false,false] rfl rfl (by kernel_rfl) (fun _ _ _ h => h) (Or.inl ⟨by rfl, ?_⟩) ?_ ?_
  rotate_left
  · intro w'
    go_simp
    with_reducible rfl
  rotate_left
  · simp only [Act.put, List.setIfInBounds_toArray, List.set_cons_zero, List.set_cons_succ, i64_w, i32_w]
    rfl
  refine take_ (i := 14) (N := some 34) (v := ?_) (a' := ?_) #[true,true,true,true,true,true,true,true,true,true,false,true,true,true,true,false,false,false,false,false,false,false,false,false,false,false,false,false,false,false,false,false,false,false,false,false,false,false,false,false,false,false,false,false,false,false,false,false,false,false,false,false,false,false,false,false,false,false,false,false,false,false,false,false] rfl rfl (by kernel_rfl) (fun _ _ _ h => h) (Or.inl ⟨by rfl, ?_⟩) hHeld ?_ ?_
  rotate_left
  · rintro w' ⟨s0, s1, s2, s3, s4, s5⟩
    go_simp
    with_reducible rfl
  rotate_left
  · simp only [Act.put, List.setIfInBounds_toArray, List.set_cons_zero, List.set_cons_succ, i64_w, i32_w]
    rfl
  refine pure_ (i := 15) (N := some 35) (v := ?_) (a' := ?_) #[true,true,true,true,true,true,true,true,true,true,false,true,true,true,true,true,false,false,false,false,false,false,false,false,false,false,false,false,false,false,false,false,false,false,false,false,false,false,false,false,false,false,false,false,false,false,false,false,false,false,false,false,false,false,false,false,false,false,false,false,false,false,false,false] rfl rfl (by kernel_rfl) (fun _ _ _ h => h) (Or.inl ⟨by rfl, ?_⟩) ?_ ?_
  rotate_left
  · intro w'
    go_simp
    with_reducible rfl
  rotate_left
  · simp only [Act.put, List.setIfInBounds_toArray, List.set_cons_zero, List.set_cons_succ, i64_w, i32_w]
    rfl
  refine one_ (i := 10) (N := some 30) #[true,true,true,true,true,true,true,true,true,true,true,true,true,true,true,true,false,false,false,false,false,false,false,false,false,false,false,false,false,false,false,false,false,false,false,false,false,false,false,false,false,false,false,false,false,false,false,false,false,false,false,false,false,false,false,false,false,false,false,false,false,false,false,false] rfl rfl (by kernel_rfl) (by decide) (fun K hK => ?_)
  refine goes_ Try.func40 (by kernel_rfl) rfl #[.pointer (some ⟨g1, 0, none⟩)] (by rfl) rfl rfl (by (try simp only [List.map_toArray, List.map_cons, List.map_nil]); first | done | rfl) ?_
  with_reducible refine (Tail_calls g1 b1 H B lim (n : Int) ws F1 vb vw _ (HI.out.below (below_step (below_step (below_drew HB.out) hb12) hb13)) N2 HN2.out).mono ?_
  rintro e w14 ⟨rfl, hw14⟩
  refine ⟨_, rfl, ?_⟩
  subst hw14
  refine hK.out _ _ ⟨hHeld.1, hHeld.2.1, hHeld.2.2.1, hHeld.2.2.2.1, hHeld.2.2.2.2.1, hHeld.2.2.2.2.2⟩ (fun hHeld => ?_)
  clear hK K
  refine norm_ (a' := ?_) ?_ ?_
  rotate_left
  · show Act.put _ (some 30) _ = _
    simp only [Act.put, List.setIfInBounds_toArray, List.set_cons_zero, List.set_cons_succ, i64_w, i32_w]
    rfl
  refine pure_ (i := 16) (N := some 36) (v := ?_) (a' := ?_) #[true,true,true,true,true,true,true,true,true,true,true,true,true,true,true,true,true,false,false,false,false,false,false,false,false,false,false,false,false,false,false,false,false,false,false,false,false,false,false,false,false,false,false,false,false,false,false,false,false,false,false,false,false,false,false,false,false,false,false,false,false,false,false,false] rfl rfl (by kernel_rfl) (fun _ _ _ h => h) (Or.inl ⟨by rfl, ?_⟩) ?_ ?_
  rotate_left
  · intro w'
    go_simp
    with_reducible rfl
  rotate_left
  · simp only [Act.put, List.setIfInBounds_toArray, List.set_cons_zero, List.set_cons_succ, i64_w, i32_w]
    rfl
  refine pure_ (i := 17) (N := some 37) (v := ?_) (a' := ?_) #[true,true,true,true,true,true,true,true,true,true,true,true,true,true,true,true,true,true,false,false,false,false,false,false,false,false,false,false,false,false,false,false,false,false,false,false,false,false,false,false,false,false,false,false,false,false,false,false,false,false,false,false,false,false,false,false,false,false,false,false,false,false,false,false] rfl rfl (by kernel_rfl) (fun _ _ _ h => h) (Or.inl ⟨by rfl, ?_⟩) ?_ ?_
  rotate_left
  · intro w'
    go_simp
    with_reducible rfl
  rotate_left
  · simp only [Act.put, List.setIfInBounds_toArray, List.set_cons_zero, List.set_cons_succ, i64_w, i32_w]
    rfl
  refine pure_ (i := 18) (N := some 38) (v := ?_) (a' := ?_) #[true,true,true,true,true,true,true,true,true,true,true,true,true,true,true,true,true,true,true,false,false,false,false,false,false,false,false,false,false,false,false,false,false,false,false,false,false,false,false,false,false,false,false,false,false,false,false,false,false,false,false,false,false,false,false,false,false,false,false,false,false,false,false,false] rfl rfl (by kernel_rfl) (fun _ _ _ h => h) (Or.inl ⟨by rfl, ?_⟩) ?_ ?_
  rotate_left
  · intro w'
    go_simp
    with_reducible rfl
  rotate_left
  · simp only [Act.put, List.setIfInBounds_toArray, List.set_cons_zero, List.set_cons_succ, i64_w, i32_w]
    rfl
  refine pure_ (i := 19) (N := some 39) (v := ?_) (a' := ?_) #[true,true,true,true,true,true,true,true,true,true,true,true,true,true,true,true,true,true,true,true,false,false,false,false,false,false,false,false,false,false,false,false,false,false,false,false,false,false,false,false,false,false,false,false,false,false,false,false,false,false,false,false,false,false,false,false,false,false,false,false,false,false,false,false] rfl rfl (by kernel_rfl) (fun _ _ _ h => h) (Or.inl ⟨by rfl, ?_⟩) ?_ ?_
  rotate_left
  · intro w'
    go_simp
    with_reducible rfl
  rotate_left
  · simp only [Act.put, List.setIfInBounds_toArray, List.set_cons_zero, List.set_cons_succ, i64_w, i32_w]
    rfl
  refine pure_ (i := 20) (N := some 40) (v := ?_) (a' := ?_) #[true,true,true,true,true,true,true,true,true,true,true,true,true,true,true,true,true,true,true,true,true,false,false,false,false,false,false,false,false,false,false,false,false,false,false,false,false,false,false,false,false,false,false,false,false,false,false,false,false,false,false,false,false,false,false,false,false,false,false,false,false,false,false,false] rfl rfl (by kernel_rfl) (fun _ _ _ h => h) (Or.inl ⟨by rfl, ?_⟩) ?_ ?_
  rotate_left
  · intro w'
    go_simp
    with_reducible rfl
  rotate_left
  · simp only [Act.put, List.setIfInBounds_toArray, List.set_cons_zero, List.set_cons_succ, i64_w, i32_w]
    rfl
  refine pure_ (i := 22) (N := some 42) (v := ?_) (a' := ?_) #[true,true,true,true,true,true,true,true,true,true,true,true,true,true,true,true,true,true,true,true,true,false,true,false,false,false,false,false,false,false,false,false,false,false,false,false,false,false,false,false,false,false,false,false,false,false,false,false,false,false,false,false,false,false,false,false,false,false,false,false,false,false,false,false] rfl rfl (by kernel_rfl) (fun _ _ _ h => h) (Or.inl ⟨by rfl, ?_⟩) ?_ ?_
  rotate_left
  · intro w'
    go_simp
    with_reducible rfl
  rotate_left
  · simp only [Act.put, List.setIfInBounds_toArray, List.set_cons_zero, List.set_cons_succ, i64_w, i32_w]
    rfl
  refine pure_ (i := 23) (N := some 43) (v := ?_) (a' := ?_) #[true,true,true,true,true,true,true,true,true,true,true,true,true,true,true,true,true,true,true,true,true,false,true,true,false,false,false,false,false,false,false,false,false,false,false,false,false,false,false,false,false,false,false,false,false,false,false,false,false,false,false,false,false,false,false,false,false,false,false,false,false,false,false,false] rfl rfl (by kernel_rfl) (fun _ _ _ h => h) (Or.inl ⟨by rfl, ?_⟩) ?_ ?_
  rotate_left
  · intro w'
    go_simp
    with_reducible rfl
  rotate_left
  · simp only [Act.put, List.setIfInBounds_toArray, List.set_cons_zero, List.set_cons_succ, i64_w, i32_w]
    rfl
  refine one_ (i := 21) (N := some 41) #[true,true,true,true,true,true,true,true,true,true,true,true,true,true,true,true,true,true,true,true,true,true,true,true,false,false,false,false,false,false,false,false,false,false,false,false,false,false,false,false,false,false,false,false,false,false,false,false,false,false,false,false,false,false,false,false,false,false,false,false,false,false,false,false] rfl rfl (by kernel_rfl) (by decide) (fun K hK => ?_)
  refine goes_ Try.func41 (by kernel_rfl) rfl #[.pointer (some ⟨g1, 0, none⟩), .int .i64 at_] (by rfl) rfl rfl (by (try simp only [List.map_toArray, List.map_cons, List.map_nil]); first | done | rfl) ?_
  with_reducible refine (CW1.out _ (below_step (below_step (below_drew HB.out) hb12) hb13)).mono ?_
  rintro e w15 ⟨rfl, hb15⟩
  refine ⟨_, rfl, ?_⟩
  refine hK.out _ _ ⟨(pw_cell_below hb15 hHeld.1), (pw_cell_below hb15 hHeld.2.1), (pw_cell_below hb15 hHeld.2.2.1), (pw_cell_below hb15 hHeld.2.2.2.1), (pw_cell_below hb15 hHeld.2.2.2.2.1), (pw_cell_below hb15 hHeld.2.2.2.2.2)⟩ (fun hHeld => ?_)
  clear hK K
  refine norm_ (a' := ?_) ?_ ?_
  rotate_left
  · show Act.put _ (some 41) _ = _
    simp only [Act.put, List.setIfInBounds_toArray, List.set_cons_zero, List.set_cons_succ, i64_w, i32_w]
    rfl
  refine one_ (i := 24) (N := some 44) #[true,true,true,true,true,true,true,true,true,true,true,true,true,true,true,true,true,true,true,true,true,true,true,true,true,false,false,false,false,false,false,false,false,false,false,false,false,false,false,false,false,false,false,false,false,false,false,false,false,false,false,false,false,false,false,false,false,false,false,false,false,false,false,false] rfl rfl (by kernel_rfl) (by decide) (fun K hK => ?_)
  refine goes_ Try.func124 (by kernel_rfl) rfl #[.pointer (some ⟨g2, 0, none⟩), .int .i64 at_] (by rfl) rfl rfl (by (try simp only [List.map_toArray, List.map_cons, List.map_nil]); first | done | rfl) ?_
  with_reducible refine (CW2.out _ (below_step (below_step (below_step (below_drew HB.out) hb12) hb13) hb15)).mono ?_
  rintro e w16 ⟨rfl, hb16⟩
  refine ⟨_, rfl, ?_⟩
  refine hK.out _ _ ⟨(pw_cell_below hb16 hHeld.1), (pw_cell_below hb16 hHeld.2.1), (pw_cell_below hb16 hHeld.2.2.1), (pw_cell_below hb16 hHeld.2.2.2.1), (pw_cell_below hb16 hHeld.2.2.2.2.1), (pw_cell_below hb16 hHeld.2.2.2.2.2)⟩ (fun hHeld => ?_)
  clear hK K
  refine norm_ (a' := ?_) ?_ ?_
  rotate_left
  · show Act.put _ (some 44) _ = _
    simp only [Act.put, List.setIfInBounds_toArray, List.set_cons_zero, List.set_cons_succ, i64_w, i32_w]
    rfl
  refine pure_ (i := 25) (N := some 45) (v := ?_) (a' := ?_) #[true,true,true,true,true,true,true,true,true,true,true,true,true,true,true,true,true,true,true,true,true,true,true,true,true,true,false,false,false,false,false,false,false,false,false,false,false,false,false,false,false,false,false,false,false,false,false,false,false,false,false,false,false,false,false,false,false,false,false,false,false,false,false,false] rfl rfl (by kernel_rfl) (fun _ _ _ h => h) (Or.inl ⟨by rfl, ?_⟩) ?_ ?_
  rotate_left
  · intro w'
    go_simp
    with_reducible rfl
  rotate_left
  · simp only [Act.put, List.setIfInBounds_toArray, List.set_cons_zero, List.set_cons_succ, i64_w, i32_w]
    rfl
  refine pure_ (i := 26) (N := some 46) (v := ?_) (a' := ?_) #[true,true,true,true,true,true,true,true,true,true,true,true,true,true,true,true,true,true,true,true,true,true,true,true,true,true,true,false,false,false,false,false,false,false,false,false,false,false,false,false,false,false,false,false,false,false,false,false,false,false,false,false,false,false,false,false,false,false,false,false,false,false,false,false] rfl rfl (by kernel_rfl) (fun _ _ _ h => h) (Or.inl ⟨by rfl, ?_⟩) ?_ ?_
  rotate_left
  · intro w'
    go_simp
    with_reducible rfl
  rotate_left
  · simp only [Act.put, List.setIfInBounds_toArray, List.set_cons_zero, List.set_cons_succ, i64_w, i32_w]
    rfl
  refine pure_ (i := 27) (N := some 47) (v := ?_) (a' := ?_) #[true,true,true,true,true,true,true,true,true,true,true,true,true,true,true,true,true,true,true,true,true,true,true,true,true,true,true,true,false,false,false,false,false,false,false,false,false,false,false,false,false,false,false,false,false,false,false,false,false,false,false,false,false,false,false,false,false,false,false,false,false,false,false,false] rfl rfl (by kernel_rfl) (fun _ _ _ h => h) (Or.inl ⟨by rfl, ?_⟩) ?_ ?_
  rotate_left
  · intro w'
    go_simp
    with_reducible rfl
  rotate_left
  · simp only [Act.put, List.setIfInBounds_toArray, List.set_cons_zero, List.set_cons_succ, i64_w, i32_w]
    rfl
  refine pure_ (i := 28) (N := some 48) (v := ?_) (a' := ?_) #[true,true,true,true,true,true,true,true,true,true,true,true,true,true,true,true,true,true,true,true,true,true,true,true,true,true,true,true,true,false,false,false,false,false,false,false,false,false,false,false,false,false,false,false,false,false,false,false,false,false,false,false,false,false,false,false,false,false,false,false,false,false,false,false] rfl rfl (by kernel_rfl) (fun _ _ _ h => h) (Or.inl ⟨by rfl, ?_⟩) ?_ ?_
  rotate_left
  · intro w'
    go_simp
    with_reducible rfl
  rotate_left
  · simp only [Act.put, List.setIfInBounds_toArray, List.set_cons_zero, List.set_cons_succ, i64_w, i32_w]
    rfl
  refine pure_ (i := 30) (N := some 50) (v := ?_) (a' := ?_) #[true,true,true,true,true,true,true,true,true,true,true,true,true,true,true,true,true,true,true,true,true,true,true,true,true,true,true,true,true,false,true,false,false,false,false,false,false,false,false,false,false,false,false,false,false,false,false,false,false,false,false,false,false,false,false,false,false,false,false,false,false,false,false,false] rfl rfl (by kernel_rfl) (fun _ _ _ h => h) (Or.inl ⟨by rfl, ?_⟩) ?_ ?_
  rotate_left
  · intro w'
    go_simp
    with_reducible rfl
  rotate_left
  · simp only [Act.put, List.setIfInBounds_toArray, List.set_cons_zero, List.set_cons_succ, i64_w, i32_w]
    rfl
  refine pure_ (i := 31) (N := some 51) (v := ?_) (a' := ?_) #[true,true,true,true,true,true,true,true,true,true,true,true,true,true,true,true,true,true,true,true,true,true,true,true,true,true,true,true,true,false,true,true,false,false,false,false,false,false,false,false,false,false,false,false,false,false,false,false,false,false,false,false,false,false,false,false,false,false,false,false,false,false,false,false] rfl rfl (by kernel_rfl) (fun _ _ _ h => h) (Or.inl ⟨by rfl, ?_⟩) ?_ ?_
  rotate_left
  · intro w'
    go_simp
    with_reducible rfl
  rotate_left
  · simp only [Act.put, List.setIfInBounds_toArray, List.set_cons_zero, List.set_cons_succ, i64_w, i32_w]
    rfl
  refine pure_ (i := 32) (N := some 52) (v := ?_) (a' := ?_) #[true,true,true,true,true,true,true,true,true,true,true,true,true,true,true,true,true,true,true,true,true,true,true,true,true,true,true,true,true,false,true,true,true,false,false,false,false,false,false,false,false,false,false,false,false,false,false,false,false,false,false,false,false,false,false,false,false,false,false,false,false,false,false,false] rfl rfl (by kernel_rfl) (fun _ _ _ h => h) (Or.inl ⟨by rfl, ?_⟩) ?_ ?_
  rotate_left
  · intro w'
    go_simp
    with_reducible rfl
  rotate_left
  · simp only [Act.put, List.setIfInBounds_toArray, List.set_cons_zero, List.set_cons_succ, i64_w, i32_w]
    rfl
  refine take_ (i := 29) (N := some 49) (v := ?_) (a' := ?_) #[true,true,true,true,true,true,true,true,true,true,true,true,true,true,true,true,true,true,true,true,true,true,true,true,true,true,true,true,true,true,true,true,true,false,false,false,false,false,false,false,false,false,false,false,false,false,false,false,false,false,false,false,false,false,false,false,false,false,false,false,false,false,false,false] rfl rfl (by kernel_rfl) (fun _ _ _ h => h) (Or.inl ⟨by rfl, ?_⟩) hHeld ?_ ?_
  rotate_left
  · rintro w' ⟨s0, s1, s2, s3, s4, s5⟩
    go_simp
    with_reducible rfl
  rotate_left
  · simp only [Act.put, List.setIfInBounds_toArray, List.set_cons_zero, List.set_cons_succ, i64_w, i32_w]
    rfl
  refine take_ (i := 33) (N := some 53) (v := ?_) (a' := ?_) #[true,true,true,true,true,true,true,true,true,true,true,true,true,true,true,true,true,true,true,true,true,true,true,true,true,true,true,true,true,true,true,true,true,true,false,false,false,false,false,false,false,false,false,false,false,false,false,false,false,false,false,false,false,false,false,false,false,false,false,false,false,false,false,false] rfl rfl (by kernel_rfl) (fun _ _ _ h => h) (Or.inl ⟨by rfl, ?_⟩) hHeld ?_ ?_
  rotate_left
  · rintro w' ⟨s0, s1, s2, s3, s4, s5⟩
    go_simp
    with_reducible rfl
  rotate_left
  · simp only [Act.put, List.setIfInBounds_toArray, List.set_cons_zero, List.set_cons_succ, i64_w, i32_w]
    rfl
  refine pure_ (i := 34) (N := some 54) (v := ?_) (a' := ?_) #[true,true,true,true,true,true,true,true,true,true,true,true,true,true,true,true,true,true,true,true,true,true,true,true,true,true,true,true,true,true,true,true,true,true,true,false,false,false,false,false,false,false,false,false,false,false,false,false,false,false,false,false,false,false,false,false,false,false,false,false,false,false,false,false] rfl rfl (by kernel_rfl) (fun _ _ _ h => h) (Or.inl ⟨by rfl, ?_⟩) ?_ ?_
  rotate_left
  · intro w'
    go_simp
    with_reducible rfl
  rotate_left
  · simp only [Act.put, List.setIfInBounds_toArray, List.set_cons_zero, List.set_cons_succ, i64_w, i32_w]
    rfl
  refine pure_ (i := 35) (N := some 55) (v := ?_) (a' := ?_) #[true,true,true,true,true,true,true,true,true,true,true,true,true,true,true,true,true,true,true,true,true,true,true,true,true,true,true,true,true,true,true,true,true,true,true,true,false,false,false,false,false,false,false,false,false,false,false,false,false,false,false,false,false,false,false,false,false,false,false,false,false,false,false,false] rfl rfl (by kernel_rfl) (fun _ _ _ h => h) (Or.inl ⟨by rfl, ?_⟩) ?_ ?_
  rotate_left
  · intro w'
    go_simp
    with_reducible rfl
  rotate_left
  · simp only [Act.put, List.setIfInBounds_toArray, List.set_cons_zero, List.set_cons_succ, i64_w, i32_w]
    rfl
  refine pure_ (i := 36) (N := some 56) (v := ?_) (a' := ?_) #[true,true,true,true,true,true,true,true,true,true,true,true,true,true,true,true,true,true,true,true,true,true,true,true,true,true,true,true,true,true,true,true,true,true,true,true,true,false,false,false,false,false,false,false,false,false,false,false,false,false,false,false,false,false,false,false,false,false,false,false,false,false,false,false] rfl rfl (by kernel_rfl) (fun _ _ _ h => h) (Or.inl ⟨by rfl, ?_⟩) ?_ ?_
  rotate_left
  · intro w'
    go_simp
    with_reducible rfl
  rotate_left
  · simp only [Act.put, List.setIfInBounds_toArray, List.set_cons_zero, List.set_cons_succ, i64_w, i32_w]
    rfl
  refine pure_ (i := 37) (N := some 57) (v := ?_) (a' := ?_) #[true,true,true,true,true,true,true,true,true,true,true,true,true,true,true,true,true,true,true,true,true,true,true,true,true,true,true,true,true,true,true,true,true,true,true,true,true,true,false,false,false,false,false,false,false,false,false,false,false,false,false,false,false,false,false,false,false,false,false,false,false,false,false,false] rfl rfl (by kernel_rfl) (fun _ _ _ h => h) (Or.inl ⟨by rfl, ?_⟩) ?_ ?_
  rotate_left
  · intro w'
    go_simp
    with_reducible rfl
  rotate_left
  · simp only [Act.put, List.setIfInBounds_toArray, List.set_cons_zero, List.set_cons_succ, i64_w, i32_w]
    rfl
  refine pure_ (i := 38) (N := some 58) (v := ?_) (a' := ?_) #[true,true,true,true,true,true,true,true,true,true,true,true,true,true,true,true,true,true,true,true,true,true,true,true,true,true,true,true,true,true,true,true,true,true,true,true,true,true,true,false,false,false,false,false,false,false,false,false,false,false,false,false,false,false,false,false,false,false,false,false,false,false,false,false] rfl rfl (by kernel_rfl) (fun _ _ _ h => h) (Or.inl ⟨by rfl, ?_⟩) ?_ ?_
  rotate_left
  · intro w'
    go_simp
    with_reducible rfl
  rotate_left
  · simp only [Act.put, List.setIfInBounds_toArray, List.set_cons_zero, List.set_cons_succ, i64_w, i32_w]
    rfl
  refine pure_ (i := 40) (N := some 60) (v := ?_) (a' := ?_) #[true,true,true,true,true,true,true,true,true,true,true,true,true,true,true,true,true,true,true,true,true,true,true,true,true,true,true,true,true,true,true,true,true,true,true,true,true,true,true,false,true,false,false,false,false,false,false,false,false,false,false,false,false,false,false,false,false,false,false,false,false,false,false,false] rfl rfl (by kernel_rfl) (fun _ _ _ h => h) (Or.inl ⟨by rfl, ?_⟩) ?_ ?_
  rotate_left
  · intro w'
    go_simp
    with_reducible rfl
  rotate_left
  · simp only [Act.put, List.setIfInBounds_toArray, List.set_cons_zero, List.set_cons_succ, i64_w, i32_w]
    rfl
  refine pure_ (i := 41) (N := some 61) (v := ?_) (a' := ?_) #[true,true,true,true,true,true,true,true,true,true,true,true,true,true,true,true,true,true,true,true,true,true,true,true,true,true,true,true,true,true,true,true,true,true,true,true,true,true,true,false,true,true,false,false,false,false,false,false,false,false,false,false,false,false,false,false,false,false,false,false,false,false,false,false] rfl rfl (by kernel_rfl) (fun _ _ _ h => h) (Or.inl ⟨by rfl, ?_⟩) ?_ ?_
  rotate_left
  · intro w'
    go_simp
    with_reducible rfl
  rotate_left
  · simp only [Act.put, List.setIfInBounds_toArray, List.set_cons_zero, List.set_cons_succ, i64_w, i32_w]
    rfl
  refine pure_ (i := 42) (N := some 62) (v := ?_) (a' := ?_) #[true,true,true,true,true,true,true,true,true,true,true,true,true,true,true,true,true,true,true,true,true,true,true,true,true,true,true,true,true,true,true,true,true,true,true,true,true,true,true,false,true,true,true,false,false,false,false,false,false,false,false,false,false,false,false,false,false,false,false,false,false,false,false,false] rfl rfl (by kernel_rfl) (fun _ _ _ h => h) (Or.inl ⟨by rfl, ?_⟩) ?_ ?_
  rotate_left
  · intro w'
    go_simp
    with_reducible rfl
  rotate_left
  · simp only [Act.put, List.setIfInBounds_toArray, List.set_cons_zero, List.set_cons_succ, i64_w, i32_w]
    rfl
  refine pure_ (i := 44) (N := some 64) (v := ?_) (a' := ?_) #[true,true,true,true,true,true,true,true,true,true,true,true,true,true,true,true,true,true,true,true,true,true,true,true,true,true,true,true,true,true,true,true,true,true,true,true,true,true,true,false,true,true,true,false,true,false,false,false,false,false,false,false,false,false,false,false,false,false,false,false,false,false,false,false] rfl rfl (by kernel_rfl) (fun _ _ _ h => h) (Or.inl ⟨by rfl, ?_⟩) ?_ ?_
  rotate_left
  · intro w'
    go_simp
    with_reducible rfl
  rotate_left
  · simp only [Act.put, List.setIfInBounds_toArray, List.set_cons_zero, List.set_cons_succ, i64_w, i32_w]
    rfl
  refine pure_ (i := 45) (N := some 65) (v := ?_) (a' := ?_) #[true,true,true,true,true,true,true,true,true,true,true,true,true,true,true,true,true,true,true,true,true,true,true,true,true,true,true,true,true,true,true,true,true,true,true,true,true,true,true,false,true,true,true,false,true,true,false,false,false,false,false,false,false,false,false,false,false,false,false,false,false,false,false,false] rfl rfl (by kernel_rfl) (fun _ _ _ h => h) (Or.inl ⟨by rfl, ?_⟩) ?_ ?_
  rotate_left
  · intro w'
    go_simp
    with_reducible rfl
  rotate_left
  · simp only [Act.put, List.setIfInBounds_toArray, List.set_cons_zero, List.set_cons_succ, i64_w, i32_w]
    rfl
  refine pure_ (i := 46) (N := some 66) (v := ?_) (a' := ?_) #[true,true,true,true,true,true,true,true,true,true,true,true,true,true,true,true,true,true,true,true,true,true,true,true,true,true,true,true,true,true,true,true,true,true,true,true,true,true,true,false,true,true,true,false,true,true,true,false,false,false,false,false,false,false,false,false,false,false,false,false,false,false,false,false] rfl rfl (by kernel_rfl) (fun _ _ _ h => h) (Or.inl ⟨by rfl, ?_⟩) ?_ ?_
  rotate_left
  · intro w'
    go_simp
    with_reducible rfl
  rotate_left
  · simp only [Act.put, List.setIfInBounds_toArray, List.set_cons_zero, List.set_cons_succ, i64_w, i32_w]
    rfl
  refine take_ (i := 39) (N := some 59) (v := ?_) (a' := ?_) #[true,true,true,true,true,true,true,true,true,true,true,true,true,true,true,true,true,true,true,true,true,true,true,true,true,true,true,true,true,true,true,true,true,true,true,true,true,true,true,true,true,true,true,false,true,true,true,false,false,false,false,false,false,false,false,false,false,false,false,false,false,false,false,false] rfl rfl (by kernel_rfl) (fun _ _ _ h => h) (Or.inl ⟨by rfl, ?_⟩) hHeld ?_ ?_
  rotate_left
  · rintro w' ⟨s0, s1, s2, s3, s4, s5⟩
    go_simp
    with_reducible rfl
  rotate_left
  · simp only [Act.put, List.setIfInBounds_toArray, List.set_cons_zero, List.set_cons_succ, i64_w, i32_w]
    rfl
  refine take_ (i := 43) (N := some 63) (v := ?_) (a' := ?_) #[true,true,true,true,true,true,true,true,true,true,true,true,true,true,true,true,true,true,true,true,true,true,true,true,true,true,true,true,true,true,true,true,true,true,true,true,true,true,true,true,true,true,true,true,true,true,true,false,false,false,false,false,false,false,false,false,false,false,false,false,false,false,false,false] rfl rfl (by kernel_rfl) (fun _ _ _ h => h) (Or.inl ⟨by rfl, ?_⟩) hHeld ?_ ?_
  rotate_left
  · rintro w' ⟨s0, s1, s2, s3, s4, s5⟩
    go_simp
    with_reducible rfl
  rotate_left
  · simp only [Act.put, List.setIfInBounds_toArray, List.set_cons_zero, List.set_cons_succ, i64_w, i32_w]
    rfl
  refine take_ (i := 47) (N := some 67) (v := ?_) (a' := ?_) #[true,true,true,true,true,true,true,true,true,true,true,true,true,true,true,true,true,true,true,true,true,true,true,true,true,true,true,true,true,true,true,true,true,true,true,true,true,true,true,true,true,true,true,true,true,true,true,true,false,false,false,false,false,false,false,false,false,false,false,false,false,false,false,false] rfl rfl (by kernel_rfl) (fun _ _ _ h => h) (Or.inl ⟨by rfl, ?_⟩) hHeld ?_ ?_
  rotate_left
  · rintro w' ⟨s0, s1, s2, s3, s4, s5⟩
    go_simp
    with_reducible rfl
  rotate_left
  · simp only [Act.put, List.setIfInBounds_toArray, List.set_cons_zero, List.set_cons_succ, i64_w, i32_w]
    rfl
  refine pure_ (i := 48) (N := some 68) (v := ?_) (a' := ?_) #[true,true,true,true,true,true,true,true,true,true,true,true,true,true,true,true,true,true,true,true,true,true,true,true,true,true,true,true,true,true,true,true,true,true,true,true,true,true,true,true,true,true,true,true,true,true,true,true,true,false,false,false,false,false,false,false,false,false,false,false,false,false,false,false] rfl rfl (by kernel_rfl) (fun _ _ _ h => h) (Or.inl ⟨by rfl, ?_⟩) ?_ ?_
  rotate_left
  · intro w'
    go_simp
    with_reducible rfl
  rotate_left
  · simp only [Act.put, List.setIfInBounds_toArray, List.set_cons_zero, List.set_cons_succ, i64_w, i32_w]
    rfl
  refine pure_ (i := 49) (N := some 69) (v := ?_) (a' := ?_) #[true,true,true,true,true,true,true,true,true,true,true,true,true,true,true,true,true,true,true,true,true,true,true,true,true,true,true,true,true,true,true,true,true,true,true,true,true,true,true,true,true,true,true,true,true,true,true,true,true,true,false,false,false,false,false,false,false,false,false,false,false,false,false,false] rfl rfl (by kernel_rfl) (fun _ _ _ h => h) (Or.inl ⟨by rfl, ?_⟩) ?_ ?_
  rotate_left
  · intro w'
    go_simp
    with_reducible rfl
  rotate_left
  · simp only [Act.put, List.setIfInBounds_toArray, List.set_cons_zero, List.set_cons_succ, i64_w, i32_w]
    rfl
  refine one_ (i := 50) (N := some 70) #[true,true,true,true,true,true,true,true,true,true,true,true,true,true,true,true,true,true,true,true,true,true,true,true,true,true,true,true,true,true,true,true,true,true,true,true,true,true,true,true,true,true,true,true,true,true,true,true,true,true,true,false,false,false,false,false,false,false,false,false,false,false,false,false] rfl rfl (by kernel_rfl) (by decide) (fun K hK => ?_)
  refine goes_ Try.func19 (by kernel_rfl) rfl #[.slice Av mv cv, .slice (some ⟨xbb, o', none⟩) mv c'] (by rfl) rfl rfl (by (try simp only [List.map_toArray, List.map_cons, List.map_nil]); first | done | rfl) ?_
  with_reducible refine (Same_calls _ _ (B.drop n) (B.drop n) _ (HVA.out.below (below_step (below_step (below_step (below_step (below_drew (Below.refl _ _)) hb12) hb13) hb15) hb16)).rd (HRD.out _ (HR.out.below (below_step (below_step (below_step (below_step (below_drew HB.out) hb12) hb13) hb15) hb16)).b) (HBI.out.1.drop _) (HBI.out.1.drop _)).mono ?_
  rintro e w17 ⟨rfl, hb17⟩
  refine ⟨_, rfl, ?_⟩
  rw [decide_eq_true (show B.drop n = B.drop n from rfl)]
  refine hK.out _ _ ⟨(pw_cell_below hb17 hHeld.1), (pw_cell_below hb17 hHeld.2.1), (pw_cell_below hb17 hHeld.2.2.1), (pw_cell_below hb17 hHeld.2.2.2.1), (pw_cell_below hb17 hHeld.2.2.2.2.1), (pw_cell_below hb17 hHeld.2.2.2.2.2)⟩ (fun hHeld => ?_)
  clear hK K
  refine norm_ (a' := ?_) ?_ ?_
  rotate_left
  · show Act.put _ (some 70) _ = _
    simp only [Act.put, List.setIfInBounds_toArray, List.set_cons_zero, List.set_cons_succ, i64_w, i32_w]
    rfl
  refine pure_ (i := 51) (N := some 71) (v := ?_) (a' := ?_) #[true,true,true,true,true,true,true,true,true,true,true,true,true,true,true,true,true,true,true,true,true,true,true,true,true,true,true,true,true,true,true,true,true,true,true,true,true,true,true,true,true,true,true,true,true,true,true,true,true,true,true,true,false,false,false,false,false,false,false,false,false,false,false,false] rfl rfl (by kernel_rfl) (fun _ _ _ h => h) (Or.inl ⟨by rfl, ?_⟩) ?_ ?_
  rotate_left
  · intro w'
    go_simp
    with_reducible rfl
  rotate_left
  · simp only [Act.put, List.setIfInBounds_toArray, List.set_cons_zero, List.set_cons_succ, i64_w, i32_w]
    rfl
  refine pure_ (i := 52) (N := some 72) (v := ?_) (a' := ?_) #[true,true,true,true,true,true,true,true,true,true,true,true,true,true,true,true,true,true,true,true,true,true,true,true,true,true,true,true,true,true,true,true,true,true,true,true,true,true,true,true,true,true,true,true,true,true,true,true,true,true,true,true,true,false,false,false,false,false,false,false,false,false,false,false] rfl rfl (by kernel_rfl) (fun _ _ _ h => h) (Or.inl ⟨by rfl, ?_⟩) ?_ ?_
  rotate_left
  · intro w'
    go_simp
    with_reducible rfl
  rotate_left
  · simp only [Act.put, List.setIfInBounds_toArray, List.set_cons_zero, List.set_cons_succ, i64_w, i32_w]
    rfl
  refine pure_ (i := 53) (N := some 73) (v := ?_) (a' := ?_) #[true,true,true,true,true,true,true,true,true,true,true,true,true,true,true,true,true,true,true,true,true,true,true,true,true,true,true,true,true,true,true,true,true,true,true,true,true,true,true,true,true,true,true,true,true,true,true,true,true,true,true,true,true,true,false,false,false,false,false,false,false,false,false,false] rfl rfl (by kernel_rfl) (fun _ _ _ h => h) (Or.inl ⟨by rfl, ?_⟩) ?_ ?_
  rotate_left
  · intro w'
    go_simp
    with_reducible rfl
  rotate_left
  · simp only [Act.put, List.setIfInBounds_toArray, List.set_cons_zero, List.set_cons_succ, i64_w, i32_w]
    rfl
  refine pure_ (i := 54) (N := some 74) (v := ?_) (a' := ?_) #[true,true,true,true,true,true,true,true,true,true,true,true,true,true,true,true,true,true,true,true,true,true,true,true,true,true,true,true,true,true,true,true,true,true,true,true,true,true,true,true,true,true,true,true,true,true,true,true,true,true,true,true,true,true,true,false,false,false,false,false,false,false,false,false] rfl rfl (by kernel_rfl) (fun _ _ _ h => h) (Or.inl ⟨by rfl, ?_⟩) ?_ ?_
  rotate_left
  · intro w'
    go_simp
    with_reducible rfl
  rotate_left
  · simp only [Act.put, List.setIfInBounds_toArray, List.set_cons_zero, List.set_cons_succ, i64_w, i32_w]
    rfl
  refine pure_ (i := 57) (N := some 77) (v := ?_) (a' := ?_) #[true,true,true,true,true,true,true,true,true,true,true,true,true,true,true,true,true,true,true,true,true,true,true,true,true,true,true,true,true,true,true,true,true,true,true,true,true,true,true,true,true,true,true,true,true,true,true,true,true,true,true,true,true,true,true,false,false,true,false,false,false,false,false,false] rfl rfl (by kernel_rfl) (fun _ _ _ h => h) (Or.inl ⟨by rfl, ?_⟩) ?_ ?_
  rotate_left
  · intro w'
    go_simp
    with_reducible rfl
  rotate_left
  · simp only [Act.put, List.setIfInBounds_toArray, List.set_cons_zero, List.set_cons_succ, i64_w, i32_w]
    rfl
  refine pure_ (i := 58) (N := some 78) (v := ?_) (a' := ?_) #[true,true,true,true,true,true,true,true,true,true,true,true,true,true,true,true,true,true,true,true,true,true,true,true,true,true,true,true,true,true,true,true,true,true,true,true,true,true,true,true,true,true,true,true,true,true,true,true,true,true,true,true,true,true,true,false,false,true,true,false,false,false,false,false] rfl rfl (by kernel_rfl) (fun _ _ _ h => h) (Or.inl ⟨by rfl, ?_⟩) ?_ ?_
  rotate_left
  · intro w'
    go_simp
    with_reducible rfl
  rotate_left
  · simp only [Act.put, List.setIfInBounds_toArray, List.set_cons_zero, List.set_cons_succ, i64_w, i32_w]
    rfl
  refine pure_ (i := 59) (N := some 79) (v := ?_) (a' := ?_) #[true,true,true,true,true,true,true,true,true,true,true,true,true,true,true,true,true,true,true,true,true,true,true,true,true,true,true,true,true,true,true,true,true,true,true,true,true,true,true,true,true,true,true,true,true,true,true,true,true,true,true,true,true,true,true,false,false,true,true,true,false,false,false,false] rfl rfl (by kernel_rfl) (fun _ _ _ h => h) (Or.inl ⟨by rfl, ?_⟩) ?_ ?_
  rotate_left
  · intro w'
    go_simp
    with_reducible rfl
  rotate_left
  · simp only [Act.put, List.setIfInBounds_toArray, List.set_cons_zero, List.set_cons_succ, i64_w, i32_w]
    rfl
  refine take_ (i := 55) (N := some 75) (v := ?_) (a' := ?_) #[true,true,true,true,true,true,true,true,true,true,true,true,true,true,true,true,true,true,true,true,true,true,true,true,true,true,true,true,true,true,true,true,true,true,true,true,true,true,true,true,true,true,true,true,true,true,true,true,true,true,true,true,true,true,true,true,false,true,true,true,false,false,false,false] rfl rfl (by kernel_rfl) (fun _ _ _ h => h) (Or.inl ⟨by rfl, ?_⟩) hHeld ?_ ?_
  rotate_left
  · rintro w' ⟨s0, s1, s2, s3, s4, s5⟩
    go_simp
    with_reducible rfl
  rotate_left
  · simp only [Act.put, List.setIfInBounds_toArray, List.set_cons_zero, List.set_cons_succ, i64_w, i32_w]
    rfl
  refine pure_ (i := 56) (N := some 76) (v := ?_) (a' := ?_) #[true,true,true,true,true,true,true,true,true,true,true,true,true,true,true,true,true,true,true,true,true,true,true,true,true,true,true,true,true,true,true,true,true,true,true,true,true,true,true,true,true,true,true,true,true,true,true,true,true,true,true,true,true,true,true,true,true,true,true,true,false,false,false,false] rfl rfl (by kernel_rfl) (fun _ _ _ h => h) (Or.inl ⟨by rfl, ?_⟩) ?_ ?_
  rotate_left
  · intro w'
    go_simp
    with_reducible rfl
  rotate_left
  · simp only [Act.put, List.setIfInBounds_toArray, List.set_cons_zero, List.set_cons_succ, i64_w, i32_w]
    rfl
  refine take_ (i := 60) (N := some 80) (v := ?_) (a' := ?_) #[true,true,true,true,true,true,true,true,true,true,true,true,true,true,true,true,true,true,true,true,true,true,true,true,true,true,true,true,true,true,true,true,true,true,true,true,true,true,true,true,true,true,true,true,true,true,true,true,true,true,true,true,true,true,true,true,true,true,true,true,true,false,false,false] rfl rfl (by kernel_rfl) (fun _ _ _ h => h) (Or.inl ⟨by rfl, ?_⟩) hHeld ?_ ?_
  rotate_left
  · rintro w' ⟨s0, s1, s2, s3, s4, s5⟩
    go_simp
    with_reducible rfl
  rotate_left
  · simp only [Act.put, List.setIfInBounds_toArray, List.set_cons_zero, List.set_cons_succ, i64_w, i32_w]
    rfl
  refine pure_ (i := 61) (N := some 81) (v := ?_) (a' := ?_) #[true,true,true,true,true,true,true,true,true,true,true,true,true,true,true,true,true,true,true,true,true,true,true,true,true,true,true,true,true,true,true,true,true,true,true,true,true,true,true,true,true,true,true,true,true,true,true,true,true,true,true,true,true,true,true,true,true,true,true,true,true,true,false,false] rfl rfl (by kernel_rfl) (fun _ _ _ h => h) (Or.inl ⟨by rfl, ?_⟩) ?_ ?_
  rotate_left
  · intro w'
    go_simp
    with_reducible rfl
  rotate_left
  · simp only [Act.put, List.setIfInBounds_toArray, List.set_cons_zero, List.set_cons_succ, i64_w, i32_w]
    rfl
  refine pure_ (i := 62) (N := some 82) (v := ?_) (a' := ?_) #[true,true,true,true,true,true,true,true,true,true,true,true,true,true,true,true,true,true,true,true,true,true,true,true,true,true,true,true,true,true,true,true,true,true,true,true,true,true,true,true,true,true,true,true,true,true,true,true,true,true,true,true,true,true,true,true,true,true,true,true,true,true,true,false] rfl rfl (by kernel_rfl) (fun _ _ _ h => h) (Or.inl ⟨by rfl, ?_⟩) ?_ ?_
  rotate_left
  · intro w'
    go_simp
    with_reducible rfl
  rotate_left
  · simp only [Act.put, List.setIfInBounds_toArray, List.set_cons_zero, List.set_cons_succ, i64_w, i32_w]
    rfl
  refine pure_ (i := 63) (N := some 83) (v := ?_) (a' := ?_) #[true,true,true,true,true,true,true,true,true,true,true,true,true,true,true,true,true,true,true,true,true,true,true,true,true,true,true,true,true,true,true,true,true,true,true,true,true,true,true,true,true,true,true,true,true,true,true,true,true,true,true,true,true,true,true,true,true,true,true,true,true,true,true,true] rfl rfl (by kernel_rfl) (fun _ _ _ h => h) (Or.inl ⟨by rfl, ?_⟩) ?_ ?_
  rotate_left
  · intro w'
    go_simp
    with_reducible rfl
  rotate_left
  · simp only [Act.put, List.setIfInBounds_toArray, List.set_cons_zero, List.set_cons_succ, i64_w, i32_w]
    rfl
  refine done_ (by kernel_rfl) ?_
  have HBX := Aside0.mk (below_step (below_step (below_step (below_step (below_step (below_drew (Below.refl w11.heap.size w11)) hb12) hb13) hb15) hb16) hb17)
  clear hb12 hb13 hb15 hb16 hb17 ho12 CW1 CW2 q1 q2 q3 q4 hsl HRD x0 x1 x2 y5 y6 y8
  go_upto_block 0 with (fail)
  go_cut [] (fun wx => Aside0 (Below w11.heap.size w11 wx))
  case first => as_aux_lemma =>
    go_wp2_with fail
    go_loopw [8] (fun v8 w' => ∃ i : Nat, i ≤ W2 ∧ v8 = .int .i64 i ∧ Aside0 (Below w11.heap.size w11 w')) (fun v8 _ => W2 - (intOf v8).toNat)
    case atStart => exact ⟨0, by omega, rfl, HBX⟩
    case round =>
      obtain ⟨i, hi, rfl, HBK⟩ := hrel
      have x2 : wr.cell? ⟨gc, 2, none⟩ = some (.slice Ap W2 cp) := blk_cell (blk_below HZC.out HBK.out) 2
      by_cases c2 : i < W2
      · have hrm := HR.out.below (below_step HB.out HBK.out)
        have y5 : wr.cell? ⟨g2, 5, none⟩ = some (.slice (some ⟨xbb, xbo, none⟩) N2 cx) := blk_cell hrm.blk 5
        have y8 : wr.cell? ⟨g2, 8, none⟩ = some (.slice Aw W2 cw) := blk_cell hrm.blk 8
        obtain ⟨adw, eW, hcw⟩ := rdE_at (hrm.w.rdE 0) i (by rw [HW2.out]; exact c2)
        obtain ⟨ad, eA, h0, h1⟩ := (HVP.out.below HBK.out).cells7 i (by rw [HPP.out.1, HW2.out]; exact c2)
        obtain ⟨hp1, hp2⟩ := HPP.out.2 i (by rw [HW2.out]; exact c2)
        have hx := HXR.out (ws.getD i 0) (by rw [List.getD_eq_getElem?_getD, List.getElem?_eq_getElem (by rw [HW2.out]; exact c2)]; exact List.getElem_mem _)
        rw [HN2.out] at hx
        cases eW
        cases eA
        rw [hp1] at h0
        obtain ⟨j, hj⟩ : ∃ j : Nat, ws.getD i 0 = (j : Int) := Int.eq_ofNat_of_zero_le (by omega)
        rw [hj] at h0 hx hp2 hcw
        rw [Int.toNat_natCast] at hp2
        obtain ⟨hx1, hx2⟩ := hx
        have HD8 := Aside0.mk (lay8_len B j (by rw [HN2.out]; omega))
        obtain ⟨Aq, cq, e2, _, _⟩ := hp2.sl HD8.out
        rw [e2] at h1 hp2
        have HQ := Aside0.mk (fun (W : World) (hb : Below wr.heap.size wr W) => (hp2.below (below_step HBA.out HBK.out)).rd.below hb)
        have HMD := Aside0.mk (fun (W : World) (hb : Below wr.heap.size wr W) => (OwnO.mid (hrm.below hb).b j 8 (by omega)).rd)
        have hsl := slice_lh xbb xbo N2 cx j (by omega) hxc
        have q5 : ((j : Int) != (j : Int)) = false := by simp
        have had2 : wrap64 ((j : Int) + 8) = (j : Int) + 8 := by simp only [wrap64]; omega
        have had : IntKind.i64.wrap ((j : Int) + 8) = (j : Int) + 8 := by clear had2; rw [IntKind.wrap_i64]; omega
        have HAD := Aside0.mk (And.intro had had2)
        clear had had2 hj hp1 hp2 e2 hrm
        go_upto_region 8 with fail
        obtain ⟨had, had2⟩ := HAD.out
        refine start_ (n := 26) (S := fun w' => w'.cell? ⟨gc, 2, none⟩ = some (.slice (some ad) W2 cp) ∧ w'.cell? (ad.add (i * 2)) = some (.int .i64 (j : Int)) ∧ w'.cell? ⟨(ad.add (i * 2)).block, (ad.add (i * 2)).off + 1, none⟩ = some (.slice Aq 8 cq) ∧ w'.cell? ⟨g2, 5, none⟩ = some (.slice (some ⟨xbb, xbo, none⟩) N2 cx)) (ds := []) #[false,false,false,false,false,false,false,false,false,false,false,false,false,false,false,false,false,false,false,false,false,false,false,false,false,false] (by kernel_rfl) rfl rfl ⟨x2, h0, h1, y5⟩ (fun hHeld => ?_)
        refine pure_ (i := 0) (N := some 98) (v := ?_) (a' := ?_) #[true,false,false,false,false,false,false,false,false,false,false,false,false,false,false,false,false,false,false,false,false,false,false,false,false,false] rfl rfl (by kernel_rfl) (fun _ _ _ h => h) (Or.inl ⟨by rfl, ?_⟩) ?_ ?_
        rotate_left
        · intro w'
          go_simp
          with_reducible rfl
        rotate_left
        · simp only [Act.put, List.setIfInBounds_toArray, List.set_cons_zero, List.set_cons_succ, i64_w, i32_w]
          rfl
        refine pure_ (i := 2) (N := some 100) (v := ?_) (a' := ?_) #[true,false,true,false,false,false,false,false,false,false,false,false,false,false,false,false,false,false,false,false,false,false,false,false,false,false] rfl rfl (by kernel_rfl) (fun _ _ _ h => h) (Or.inl ⟨by rfl, ?_⟩) ?_ ?_
        rotate_left
        · intro w'
          go_simp
          with_reducible rfl
        rotate_left
        · simp only [Act.put, List.setIfInBounds_toArray, List.set_cons_zero, List.set_cons_succ, i64_w, i32_w]
          rfl
        refine pure_ (i := 6) (N := some 104) (v := ?_) (a' := ?_) #[true,false,true,false,false,false,true,false,false,false,false,false,false,false,false,false,false,false,false,false,false,false,false,false,false,false] rfl rfl (by kernel_rfl) (fun _ _ _ h => h) (Or.inl ⟨by rfl, ?_⟩) ?_ ?_
        rotate_left
        · intro w'
          go_simp
          with_reducible rfl
        rotate_left
        · simp only [Act.put, List.setIfInBounds_toArray, List.set_cons_zero, List.set_cons_succ, i64_w, i32_w]
          rfl
        refine take_ (i := 1) (N := some 99) (v := ?_) (a' := ?_) #[true,true,true,false,false,false,true,false,false,false,false,false,false,false,false,false,false,false,false,false,false,false,false,false,false,false] rfl rfl (by kernel_rfl) (fun _ _ _ h => h) (Or.inl ⟨by rfl, ?_⟩) hHeld ?_ ?_
        rotate_left
        · rintro w' ⟨s0, s1, s2, s3⟩
          go_simp
          with_reducible rfl
        rotate_left
        · simp only [Act.put, List.setIfInBounds_toArray, List.set_cons_zero, List.set_cons_succ, i64_w, i32_w]
          rfl
        refine pure_ (i := 3) (N := some 101) (v := ?_) (a' := ?_) #[true,true,true,true,false,false,true,false,false,false,false,false,false,false,false,false,false,false,false,false,false,false,false,false,false,false] rfl rfl (by kernel_rfl) (fun _ _ _ h => h) (Or.inl ⟨by rfl, ?_⟩) ?_ ?_
        rotate_left
        · intro w'
          go_simp
          with_reducible rfl
        rotate_left
        · simp only [Act.put, List.setIfInBounds_toArray, List.set_cons_zero, List.set_cons_succ, i64_w, i32_w]
          rfl
        refine pure_ (i := 4) (N := some 102) (v := ?_) (a' := ?_) #[true,true,true,true,true,false,true,false,false,false,false,false,false,false,false,false,false,false,false,false,false,false,false,false,false,false] rfl rfl (by kernel_rfl) (fun _ _ _ h => h) (Or.inl ⟨by rfl, ?_⟩) ?_ ?_
        rotate_left
        · intro w'
          go_simp
          with_reducible rfl
        rotate_left
        · simp only [Act.put, List.setIfInBounds_toArray, List.set_cons_zero, List.set_cons_succ, i64_w, i32_w]
          rfl
        refine take_ (i := 5) (N := some 103) (v := ?_) (a' := ?_) #[true,true,true,true,true,true,true,false,false,false,false,false,false,false,false,false,false,false,false,false,false,false,false,false,false,false] rfl rfl (by kernel_rfl) (fun _ _ _ h => h) (Or.inl ⟨by rfl, ?_⟩) hHeld ?_ ?_
        rotate_left
        · rintro w' ⟨s0, s1, s2, s3⟩
          go_simp
          with_reducible rfl
        rotate_left
        · simp only [Act.put, List.setIfInBounds_toArray, List.set_cons_zero, List.set_cons_succ, i64_w, i32_w]
          rfl
        refine pure_ (i := 7) (N := some 105) (v := ?_) (a' := ?_) #[true,true,true,true,true,true,true,true,false,false,false,false,false,false,false,false,false,false,false,false,false,false,false,false,false,false] rfl rfl (by kernel_rfl) (fun _ _ _ h => h) (Or.inl ⟨by rfl, ?_⟩) ?_ ?_
        rotate_left
        · intro w'
          go_simp
          with_reducible rfl
        rotate_left
        · simp only [Act.put, List.setIfInBounds_toArray, List.set_cons_zero, List.set_cons_succ, i64_w, i32_w]
          rfl
        refine pure_ (i := 8) (N := some 106) (v := ?_) (a' := ?_) #[true,true,true,true,true,true,true,true,true,false,false,false,false,false,false,false,false,false,false,false,false,false,false,false,false,false] rfl rfl (by kernel_rfl) (fun _ _ _ h => h) (Or.inl ⟨by rfl, ?_⟩) ?_ ?_
        rotate_left
        · intro w'
          go_simp
          with_reducible rfl
        rotate_left
        · simp only [Act.put, List.setIfInBounds_toArray, List.set_cons_zero, List.set_cons_succ, i64_w, i32_w]
          rfl
        refine pure_ (i := 9) (N := some 107) (v := ?_) (a' := ?_) #[true,true,true,true,true,true,true,true,true,true,false,false,false,false,false,false,false,false,false,false,false,false,false,false,false,false] rfl rfl (by kernel_rfl) (fun _ _ _ h => h) (Or.inl ⟨by rfl, ?_⟩) ?_ ?_
        rotate_left
        · intro w'
          go_simp
          with_reducible rfl
        rotate_left
        · simp only [Act.put, List.setIfInBounds_toArray, List.set_cons_zero, List.set_cons_succ, i64_w, i32_w]
          rfl
        refine pure_ (i := 11) (N := some 109) (v := ?_) (a' := ?_) #[true,true,true,true,true,true,true,true,true,true,false,true,false,false,false,false,false,false,false,false,false,false,false,false,false,false] rfl rfl (by kernel_rfl) (fun _ _ _ h => h) (Or.inl ⟨by rfl, ?_⟩) ?_ ?_
        rotate_left
        · intro w'
          go_simp
          with_reducible rfl
        rotate_left
        · simp only [Act.put, List.setIfInBounds_toArray, List.set_cons_zero, List.set_cons_succ, i64_w, i32_w]
          rfl
        refine pure_ (i := 15) (N := some 113) (v := ?_) (a' := ?_) #[true,true,true,true,true,true,true,true,true,true,false,true,false,false,false,true,false,false,false,false,false,false,false,false,false,false] rfl rfl (by kernel_rfl) (fun _ _ _ h => h) (Or.inl ⟨by rfl, ?_⟩) ?_ ?_
        rotate_left
        · intro w'
          go_simp
          with_reducible rfl
        rotate_left
        · simp only [Act.put, List.setIfInBounds_toArray, List.set_cons_zero, List.set_cons_succ, i64_w, i32_w]
          rfl
        refine pure_ (i := 16) (N := some 114) (v := ?_) (a' := ?_) #[true,true,true,true,true,true,true,true,true,true,false,true,false,false,false,true,true,false,false,false,false,false,false,false,false,false] rfl rfl (by kernel_rfl) (fun _ _ _ h => h) (Or.inl ⟨by rfl, ?_⟩) ?_ ?_
        rotate_left
        · intro w'
          go_simp
          with_reducible rfl
        rotate_left
        · simp only [Act.put, List.setIfInBounds_toArray, List.set_cons_zero, List.set_cons_succ, i64_w, i32_w]
          rfl
        refine pure_ (i := 17) (N := some 115) (v := ?_) (a' := ?_) #[true,true,true,true,true,true,true,true,true,true,false,true,false,false,false,true,true,true,false,false,false,false,false,false,false,false] rfl rfl (by kernel_rfl) (fun _ _ _ h => h) (Or.inl ⟨by rfl, ?_⟩) ?_ ?_
        rotate_left
        · intro w'
          go_simp
          with_reducible rfl
        rotate_left
        · simp only [Act.put, List.setIfInBounds_toArray, List.set_cons_zero, List.set_cons_succ, i64_w, i32_w]
          rfl
        refine pure_ (i := 19) (N := some 117) (v := ?_) (a' := ?_) #[true,true,true,true,true,true,true,true,true,true,false,true,false,false,false,true,true,true,false,true,false,false,false,false,false,false] rfl rfl (by kernel_rfl) (fun _ _ _ h => h) (Or.inl ⟨by rfl, ?_⟩) ?_ ?_
        rotate_left
        · intro w'
          go_simp
          with_reducible rfl
        rotate_left
        · simp only [Act.put, List.setIfInBounds_toArray, List.set_cons_zero, List.set_cons_succ, i64_w, i32_w]
          rfl
        refine pure_ (i := 20) (N := some 118) (v := ?_) (a' := ?_) #[true,true,true,true,true,true,true,true,true,true,false,true,false,false,false,true,true,true,false,true,true,false,false,false,false,false] rfl rfl (by kernel_rfl) (fun _ _ _ h => h) (Or.inl ⟨by rfl, ?_⟩) ?_ ?_
        rotate_left
        · intro w'
          go_simp
          with_reducible rfl
        rotate_left
        · simp only [Act.put, List.setIfInBounds_toArray, List.set_cons_zero, List.set_cons_succ, i64_w, i32_w]
          rfl
        refine pure_ (i := 21) (N := some 119) (v := ?_) (a' := ?_) #[true,true,true,true,true,true,true,true,true,true,false,true,false,false,false,true,true,true,false,true,true,true,false,false,false,false] rfl rfl (by kernel_rfl) (fun _ _ _ h => h) (Or.inl ⟨by rfl, ?_⟩) ?_ ?_
        rotate_left
        · intro w'
          go_simp
          with_reducible rfl
        rotate_left
        · simp only [Act.put, List.setIfInBounds_toArray, List.set_cons_zero, List.set_cons_succ, i64_w, i32_w]
          rfl
        refine take_ (i := 10) (N := some 108) (v := ?_) (a' := ?_) #[true,true,true,true,true,true,true,true,true,true,true,true,false,false,false,true,true,true,false,true,true,true,false,false,false,false] rfl rfl (by kernel_rfl) (fun _ _ _ h => h) (Or.inl ⟨by rfl, ?_⟩) hHeld ?_ ?_
        rotate_left
        · rintro w' ⟨s0, s1, s2, s3⟩
          go_simp
          with_reducible rfl
        rotate_left
        · simp only [Act.put, List.setIfInBounds_toArray, List.set_cons_zero, List.set_cons_succ, i64_w, i32_w]
          rfl
        refine pure_ (i := 12) (N := some 110) (v := ?_) (a' := ?_) #[true,true,true,true,true,true,true,true,true,true,true,true,true,false,false,true,true,true,false,true,true,true,false,false,false,false] rfl rfl (by kernel_rfl) (fun _ _ _ h => h) (Or.inl ⟨by rfl, ?_⟩) ?_ ?_
        rotate_left
        · intro w'
          go_simp
          with_reducible rfl
        rotate_left
        · simp only [Act.put, List.setIfInBounds_toArray, List.set_cons_zero, List.set_cons_succ, i64_w, i32_w]
          rfl
        refine pure_ (i := 13) (N := some 111) (v := ?_) (a' := ?_) #[true,true,true,true,true,true,true,true,true,true,true,true,true,true,false,true,true,true,false,true,true,true,false,false,false,false] rfl rfl (by kernel_rfl) (fun _ _ _ h => h) (Or.inl ⟨by rfl, ?_⟩) ?_ ?_
        rotate_left
        · intro w'
          go_simp
          with_reducible rfl
        rotate_left
        · simp only [Act.put, List.setIfInBounds_toArray, List.set_cons_zero, List.set_cons_succ, i64_w, i32_w]
          rfl
        refine take_ (i := 14) (N := some 112) (v := ?_) (a' := ?_) #[true,true,true,true,true,true,true,true,true,true,true,true,true,true,true,true,true,true,false,true,true,true,false,false,false,false] rfl rfl (by kernel_rfl) (fun _ _ _ h => h) (Or.inl ⟨by rfl, ?_⟩) hHeld ?_ ?_
        rotate_left
        · rintro w' ⟨s0, s1, s2, s3⟩
          go_simp
          with_reducible rfl
        rotate_left
        · simp only [Act.put, List.setIfInBounds_toArray, List.set_cons_zero, List.set_cons_succ, i64_w, i32_w]
          rfl
        refine take_ (i := 18) (N := some 116) (v := ?_) (a' := ?_) #[true,true,true,true,true,true,true,true,true,true,true,true,true,true,true,true,true,true,true,true,true,true,false,false,false,false] rfl rfl (by kernel_rfl) (fun _ _ _ h => h) (Or.inl ⟨by rfl, ?_⟩) hHeld ?_ ?_
        rotate_left
        · rintro w' ⟨s0, s1, s2, s3⟩
          go_simp
          with_reducible rfl
        rotate_left
        · simp only [Act.put, List.setIfInBounds_toArray, List.set_cons_zero, List.set_cons_succ, i64_w, i32_w]
          rfl
        refine pure_ (i := 22) (N := some 120) (v := ?_) (a' := ?_) #[true,true,true,true,true,true,true,true,true,true,true,true,true,true,true,true,true,true,true,true,true,true,true,false,false,false] rfl rfl (by kernel_rfl) (fun _ _ _ h => h) (Or.inl ⟨by rfl, ?_⟩) ?_ ?_
        rotate_left
        · intro w'
          go_simp
          with_reducible rfl
        rotate_left
        · simp only [Act.put, List.setIfInBounds_toArray, List.set_cons_zero, List.set_cons_succ, i64_w, i32_w]
          rfl
        refine one_ (i := 23) (N := some 121) #[true,true,true,true,true,true,true,true,true,true,true,true,true,true,true,true,true,true,true,true,true,true,true,true,false,false] rfl rfl (by kernel_rfl) (by decide) (fun K hK => ?_)
        refine goes_ Try.func19 (by kernel_rfl) rfl #[.slice Aq 8 cq, .slice (some ⟨xbb, xbo + j, none⟩) 8 (cx - j)] (by rfl) rfl rfl (by (try simp only [List.map_toArray, List.map_cons, List.map_nil]); first | done | rfl) ?_
        with_reducible refine (Same_calls _ _ ((B.drop j).take 8) ((B.drop j).take 8) _ (HQ.out _ (below_drew (Below.refl _ _))) (HMD.out _ (below_drew (Below.refl _ _))) ((HBI.out.1.drop _).take _) ((HBI.out.1.drop _).take _)).mono ?_
        rintro e w3 ⟨rfl, hb3⟩
        refine ⟨_, rfl, ?_⟩
        rw [decide_eq_true (show (B.drop j).take 8 = (B.drop j).take 8 from rfl)]
        refine hK.out _ _ ⟨(pw_cell_below hb3 hHeld.1), (pw_cell_below hb3 hHeld.2.1), (pw_cell_below hb3 hHeld.2.2.1), (pw_cell_below hb3 hHeld.2.2.2)⟩ (fun hHeld => ?_)
        clear hK K
        refine norm_ (a' := ?_) ?_ ?_
        rotate_left
        · show Act.put _ (some 121) _ = _
          simp only [Act.put, List.setIfInBounds_toArray, List.set_cons_zero, List.set_cons_succ, i64_w, i32_w]
          rfl
        refine pure_ (i := 24) (N := some 122) (v := ?_) (a' := ?_) #[true,true,true,true,true,true,true,true,true,true,true,true,true,true,true,true,true,true,true,true,true,true,true,true,true,false] rfl rfl (by kernel_rfl) (fun _ _ _ h => h) (Or.inl ⟨by rfl, ?_⟩) ?_ ?_
        rotate_left
        · intro w'
          go_simp
          with_reducible rfl
        rotate_left
        · simp only [Act.put, List.setIfInBounds_toArray, List.set_cons_zero, List.set_cons_succ, i64_w, i32_w]
          rfl
        refine pure_ (i := 25) (N := some 123) (v := ?_) (a' := ?_) #[true,true,true,true,true,true,true,true,true,true,true,true,true,true,true,true,true,true,true,true,true,true,true,true,true,true] rfl rfl (by kernel_rfl) (fun _ _ _ h => h) (Or.inl ⟨by rfl, ?_⟩) ?_ ?_
        rotate_left
        · intro w'
          go_simp
          with_reducible rfl
        rotate_left
        · simp only [Act.put, List.setIfInBounds_toArray, List.set_cons_zero, List.set_cons_succ, i64_w, i32_w]
          rfl
        refine done_ (by kernel_rfl) ?_
        have HB3 := Aside0.mk (below_step (below_drew HBK.out) hb3)
        clear had had2 hb3 hsl h0 h1 x2 y5 y8 hcw q5
        go_wp2_with fail
        go_roundw
        case rel => exact ⟨i + 1, by omega, by go_num, HB3⟩
        case measure => simp [intOf] <;> omega
      · obtain rfl : i = W2 := by omega
        go_wp2_with fail
        go_meet
        exact HBK
  case rest => as_aux_lemma =>
  clear HBX
  have HBW := Aside0.mk (below_step HB.out hcut.out)
  clear hcut HB HBA HZC HVA HVP HPP HXR HDL hnm
  have hle := oKd_le H B at_
  obtain ⟨pw, hpw⟩ : ∃ y, IntKind.u64.wrap at_ = y := ⟨_, rfl⟩
  have hp01 : 0 ≤ pw ∧ pw ≤ 18446744073709551615 := by
    rcases wrap_at a0 a1 with ⟨_, e⟩ | ⟨_, e, e'⟩ <;> omega
  obtain ⟨hp0, hp1⟩ := hp01
  have hba : obB H B at_ = true → 0 ≤ at_ := fun h => (obB_yes h).1
  obtain ⟨k, hk⟩ : ∃ y, oKd H B at_ = y := ⟨_, rfl⟩
  obtain ⟨L1, hL1⟩ : ∃ y, oWs H B at_ = y := ⟨_, rfl⟩
  obtain ⟨L2, hL2⟩ : ∃ y, oRw H B at_ = y := ⟨_, rfl⟩
  obtain ⟨L3, hL3⟩ : ∃ y, oIt H B at_ = y := ⟨_, rfl⟩
  obtain ⟨bb, hbb⟩ : ∃ y, obB H B at_ = y := ⟨_, rfl⟩
  have HIS := Aside0.mk (oRw_isB H HBI.out.1 at_)
  have HLE := Aside0.mk (show B.length ≤ 100000 by rw [HN2.out]; omega)
  have HOB := Aside0.mk (fun (w : World) (u1 u2 u3 : Value) hu => ob_row (w := w) (H := H) (B := B) (a := at_) (u1 := u1) (u2 := u2) (u3 := u3) hu)
  have HAT := Aside0.mk (fun (w : World) (u1 u2 u3 : Value) hu => at_row (w := w) (H := H) (B := B) (a := at_) (u1 := u1) (u2 := u2) (u3 := u3) a0 a1 HLE.out hpw hk hu)
  have HAN := Aside0.mk (fun (u1 u2 u3 : Value) (k' : Int) (hk' : k' = k % 4 + 1) => at_none (H := H) (B := B) (a := at_) (u1 := u1) (u2 := u2) (u3 := u3) a0 a1 HLE.out hpw (hk'.trans (by rw [hk])))
  simp only [ObRow, hk, hL1, hL2, hL3, hbb] at HOB HAT HIS hle hba
  have HPW := Aside0.mk hpw
  have HBE := Aside0.mk hbb
  have HK := Aside0.mk hk
  clear hk hL1 hL2 hL3 hbb
  go_wp2_with fail
  refine (Object_calls g1 b1 H B lim (n : Int) ws F1 vb vw wc (HI.out.below HBW.out) HRR.out at_ HBI.out.1 HLE.out a0).mono ?_
  rintro e w20 ⟨⟨u1, u2, u3, rfl, hu⟩, hb⟩
  replace HBW := Aside0.mk (below_step HBW.out hb)
  obtain ⟨v, hv, A1, c1, A2, c2, A3, c3, rfl, r1, r2, r3⟩ := HOB.out _ _ _ _ (fun h => hu (HBE.out.trans h))
  rw [hv]
  clear hb hv hu u1 u2 u3
  have HZX := Aside0.mk (blk_new w20 (.cells #[.int .i64 k, .slice A1 L1.length c1, .slice A2 L2.length c2, .slice A3 L3.length c3] 51))
  have HBX := Aside0.mk (below_alloc (Below.refl w20.heap.size w20) (.cells #[.int .i64 k, .slice A1 L1.length c1, .slice A2 L2.length c2, .slice A3 L3.length c3] 51))
  go_upto_region 11 with fail
  obtain ⟨gO, hgc⟩ : ∃ g, w20.heap.size = g := ⟨_, rfl⟩
  rw [hgc] at HZX
  first | rw [hgc] | skip
  obtain ⟨w21, hw11⟩ : ∃ W, w20.alloc (.cells #[.int .i64 k, .slice A1 L1.length c1, .slice A2 L2.length c2, .slice A3 L3.length c3] 51) = W := ⟨_, rfl⟩
  rw [hw11] at HZX HBX ⊢
  clear hgc hw11
  have HR1 := Aside0.mk (And.intro (r1.below HBX.out) (And.intro (r2.below HBX.out) (r3.below HBX.out)))
  have HZO := HZX
  have HBB := Aside0.mk (Below.refl w21.heap.size w21)
  replace HBW := Aside0.mk (below_step HBW.out HBX.out)
  clear r1 r2 r3 HBX HZX
  go_wp2_with fail
  refine (RObject_calls g2 b2 H B Was lim ws F2 _ _ _ w21 (HR.out.below HBW.out) HRR.out at_ HBI.out.1 HLE.out a0).mono ?_
  rintro e w22 ⟨⟨u1, u2, u3, rfl, hu⟩, hb⟩
  replace HBB := Aside0.mk (below_step HBB.out hb)
  obtain ⟨v, hv, B1, d1, B2, d2, B3, d3, rfl, r1, r2, r3⟩ := HOB.out _ _ _ _ (fun h => hu (HBE.out.trans h))
  rw [hv]
  clear hb hv hu u1 u2 u3
  have HZX := Aside0.mk (blk_new w22 (.cells #[.int .i64 k, .slice B1 L1.length d1, .slice B2 L2.length d2, .slice B3 L3.length d3] 48))
  have HBX := Aside0.mk (below_alloc (Below.refl w22.heap.size w22) (.cells #[.int .i64 k, .slice B1 L1.length d1, .slice B2 L2.length d2, .slice B3 L3.length d3] 48))
  go_upto_region 12 with fail
  obtain ⟨gP, hgc⟩ : ∃ g, w22.heap.size = g := ⟨_, rfl⟩
  rw [hgc] at HZX
  first | rw [hgc] | skip
  obtain ⟨w23, hw11⟩ : ∃ W, w22.alloc (.cells #[.int .i64 k, .slice B1 L1.length d1, .slice B2 L2.length d2, .slice B3 L3.length d3] 48) = W := ⟨_, rfl⟩
  rw [hw11] at HZX HBX ⊢
  clear hgc hw11
  have HR2 := Aside0.mk (And.intro (r1.below HBX.out) (And.intro (r2.below HBX.out) (r3.below HBX.out)))
  replace HBB := Aside0.mk (below_step HBB.out HBX.out)
  have HZP := HZX
  have HBP := Aside0.mk (Below.refl w23.heap.size w23)
  clear r1 r2 r3 HBX HZX
  have x0 : w23.cell? ⟨gP, 0, none⟩ = some (.int .i64 k) := blk_cell HZP.out 0
  have hpw := HPW.out
  go_wp2_with fail
  clear x0 hpw
  refine (At_calls g1 b1 H B lim (n : Int) ws F1 vb vw w23 (HI.out.below (below_step HBW.out HBB.out)) HRR.out N2 HN2.out pw k HBI.out.1 (by omega) hp0 hp1).mono ?_
  rintro e w24 ⟨⟨u1, u2, u3, rfl, hu⟩, hb⟩
  replace HBP := Aside0.mk (below_step HBP.out hb)
  obtain ⟨v, hv, E1, f1, E2, f2, E3, f3, rfl, r1, r2, r3⟩ := HAT.out _ _ _ _ hu
  rw [hv]
  clear hb hv hu u1 u2 u3
  have HZX := Aside0.mk (blk_new w24 (.cells #[.int .i64 k, .slice E1 L1.length f1, .slice E2 L2.length f2, .slice E3 L3.length f3] 51))
  have HBX := Aside0.mk (below_alloc (Below.refl w24.heap.size w24) (.cells #[.int .i64 k, .slice E1 L1.length f1, .slice E2 L2.length f2, .slice E3 L3.length f3] 51))
  go_upto_region 13 with fail
  obtain ⟨gQ, hgc⟩ : ∃ g, w24.heap.size = g := ⟨_, rfl⟩
  rw [hgc] at HZX
  first | rw [hgc] | skip
  obtain ⟨w25, hw11⟩ : ∃ W, w24.alloc (.cells #[.int .i64 k, .slice E1 L1.length f1, .slice E2 L2.length f2, .slice E3 L3.length f3] 51) = W := ⟨_, rfl⟩
  rw [hw11] at HZX HBX ⊢
  clear hgc hw11
  have HR3 := Aside0.mk (And.intro (r1.below HBX.out) (And.intro (r2.below HBX.out) (r3.below HBX.out)))
  replace HBP := Aside0.mk (below_step HBP.out HBX.out)
  have HZQ := HZX
  have HBQ := Aside0.mk (Below.refl w25.heap.size w25)
  clear r1 r2 r3 HBX HZX
  obtain ⟨hk0, hk1⟩ := hle
  obtain ⟨k4, hk4⟩ : ∃ y, k % 4 + 1 = y := ⟨_, rfl⟩
  have HK4 := Aside0.mk hk4.symm
  have hm1 : k.tmod 4 = k % 4 := Int.tmod_eq_emod_of_nonneg hk0
  have hm2 : wrap64 (k % 4 + 1) = k4 := by simp only [wrap64]; omega
  have hm3 : IntKind.i64.wrap (k % 4 + 1) = k4 := by clear hm2; rw [IntKind.wrap_i64]; omega
  clear hk4
  have x0 : w25.cell? ⟨gP, 0, none⟩ = some (.int .i64 k) := blk_cell (blk_below HZP.out HBP.out) 0
  have hpw := HPW.out
  go_wp2_with fail
  clear x0 hpw
  with_reducible refine (At_calls g1 b1 H B lim (n : Int) ws F1 vb vw w25 (HI.out.below (below_step (below_step HBW.out HBB.out) HBP.out)) HRR.out N2 HN2.out pw k4 HBI.out.1 (by omega) hp0 hp1).mono ?_
  rintro e w26 ⟨⟨u1, u2, u3, rfl, hu⟩, hb⟩
  replace HBQ := Aside0.mk (below_step HBQ.out hb)
  rw [HAN.out u1 u2 u3 k4 HK4.out]
  clear hb hu u1 u2 u3
  have HZX := Aside0.mk (blk_new w26 (.cells #[.int .i64 0, .slice none 0 0, .slice none 0 0, .slice none 0 0] 51))
  have HBX := Aside0.mk (below_alloc (Below.refl w26.heap.size w26) (.cells #[.int .i64 0, .slice none 0 0, .slice none 0 0, .slice none 0 0] 51))
  go_upto_region 14 with fail
  obtain ⟨gN, hgc⟩ : ∃ g, w26.heap.size = g := ⟨_, rfl⟩
  rw [hgc] at HZX
  first | rw [hgc] | skip
  obtain ⟨w27, hw11⟩ : ∃ W, w26.alloc (.cells #[.int .i64 0, .slice none 0 0, .slice none 0 0, .slice none 0 0] 51) = W := ⟨_, rfl⟩
  rw [hw11] at HZX HBX ⊢
  clear hgc hw11
  replace HBQ := Aside0.mk (below_step HBQ.out HBX.out)
  clear HBX HZX
  replace HBW := Aside0.mk (below_step (below_step (below_step HBW.out HBB.out) HBP.out) HBQ.out)
  replace HZO := Aside0.mk (blk_below HZO.out (below_step (below_step HBB.out HBP.out) HBQ.out))
  replace HZP := Aside0.mk (blk_below HZP.out (below_step HBP.out HBQ.out))
  replace HZQ := Aside0.mk (blk_below HZQ.out HBQ.out)
  obtain ⟨s1, s2, s3⟩ := HR1.out
  replace HR1 := Aside0.mk (fun (w' : World) (hb : Below w27.heap.size w27 w') => have hb' := below_step (below_step (below_step HBB.out HBP.out) HBQ.out) hb; And.intro (s1.below hb') (And.intro (s2.below hb') (s3.below hb')))
  clear s1 s2 s3
  obtain ⟨s1, s2, s3⟩ := HR2.out
  replace HR2 := Aside0.mk (have hb' := below_step HBP.out HBQ.out; And.intro (s1.below hb') (And.intro (s2.below hb') (s3.below hb')))
  clear s1 s2 s3
  obtain ⟨s1, s2, s3⟩ := HR3.out
  replace HR3 := Aside0.mk (fun (w' : World) (hb : Below w27.heap.size w27 w') => have hb' := below_step HBQ.out hb; And.intro (s1.below hb') (And.intro (s2.below hb') (s3.below hb')))
  clear s1 s2 s3 HBB HBP HBQ HOB HAT HAN HK HBE HPW HLE HI HR HRR HBI HN HN2 HW2 hp0 hp1
  have x0 : (w27).cell? ⟨gO, 0, none⟩ = some (.int .i64 k) := blk_cell HZO.out 0
  have x1 : (w27).cell? ⟨gO, 1, none⟩ = some (.slice A1 L1.length c1) := blk_cell HZO.out 1
  have x2 : (w27).cell? ⟨gO, 2, none⟩ = some (.slice A2 L2.length c2) := blk_cell HZO.out 2
  have x3 : (w27).cell? ⟨gO, 3, none⟩ = some (.slice A3 L3.length c3) := blk_cell HZO.out 3
  have y0 : (w27).cell? ⟨gP, 0, none⟩ = some (.int .i64 k) := blk_cell HZP.out 0
  have y1 : (w27).cell? ⟨gP, 1, none⟩ = some (.slice B1 L1.length d1) := blk_cell HZP.out 1
  have y2 : (w27).cell? ⟨gP, 2, none⟩ = some (.slice B2 L2.length d2) := blk_cell HZP.out 2
  have y3 : (w27).cell? ⟨gP, 3, none⟩ = some (.slice B3 L3.length d3) := blk_cell HZP.out 3
  cases bb with
  | true => as_aux_lemma =>
    have hba' : decide (0 ≤ at_) = true := decide_eq_true (hba rfl)
    go_wp2_with fail
    with_reducible refine (ref_oSame_calls k k L1 L2 L3 L1 L2 L3 A1 A2 A3 B1 B2 B3 c1 c2 c3 d1 d2 d3 w27 (HR1.out _ (Below.refl _ _)).1 (HR1.out _ (Below.refl _ _)).2.1 (HR1.out _ (Below.refl _ _)).2.2 HR2.out.1 HR2.out.2.1 HR2.out.2.2 HIS.out HIS.out).mono ?_
    rintro e w28 ⟨rfl, hb⟩
    rw [sameO_yes k rfl rfl rfl]
    clear x0 x1 x2 x3 y0 y1 y2 y3
    have x0 : (w28).cell? ⟨gO, 0, none⟩ = some (.int .i64 k) := blk_cell (blk_below HZO.out hb) 0
    have x1 : (w28).cell? ⟨gO, 1, none⟩ = some (.slice A1 L1.length c1) := blk_cell (blk_below HZO.out hb) 1
    have x2 : (w28).cell? ⟨gO, 2, none⟩ = some (.slice A2 L2.length c2) := blk_cell (blk_below HZO.out hb) 2
    have x3 : (w28).cell? ⟨gO, 3, none⟩ = some (.slice A3 L3.length c3) := blk_cell (blk_below HZO.out hb) 3
    have y0 : (w28).cell? ⟨gQ, 0, none⟩ = some (.int .i64 k) := blk_cell (blk_below HZQ.out hb) 0
    have y1 : (w28).cell? ⟨gQ, 1, none⟩ = some (.slice E1 L1.length f1) := blk_cell (blk_below HZQ.out hb) 1
    have y2 : (w28).cell? ⟨gQ, 2, none⟩ = some (.slice E2 L2.length f2) := blk_cell (blk_below HZQ.out hb) 2
    have y3 : (w28).cell? ⟨gQ, 3, none⟩ = some (.slice E3 L3.length f3) := blk_cell (blk_below HZQ.out hb) 3
    go_wp2_with fail
    with_reducible refine (obj_Same_calls k k L1 L2 L3 L1 L2 L3 A1 A2 A3 E1 E2 E3 c1 c2 c3 f1 f2 f3 w28 (HR1.out _ hb).1 (HR1.out _ hb).2.1 (HR1.out _ hb).2.2 (HR3.out _ hb).1 (HR3.out _ hb).2.1 (HR3.out _ hb).2.2 HIS.out HIS.out).mono ?_
    rintro e w29 ⟨rfl, hb2⟩
    rw [sameO_yes k rfl rfl rfl]
    go_wp2_with fail
    go_ret
    exact ⟨rfl, below_step (below_step HBW.out hb) hb2⟩
  | false => as_aux_lemma =>
    go_wp2_with fail
    with_reducible refine (ref_oSame_calls k k L1 L2 L3 L1 L2 L3 A1 A2 A3 B1 B2 B3 c1 c2 c3 d1 d2 d3 w27 (HR1.out _ (Below.refl _ _)).1 (HR1.out _ (Below.refl _ _)).2.1 (HR1.out _ (Below.refl _ _)).2.2 HR2.out.1 HR2.out.2.1 HR2.out.2.2 HIS.out HIS.out).mono ?_
    rintro e w28 ⟨rfl, hb⟩
    rw [sameO_yes k rfl rfl rfl]
    clear x0 x1 x2 x3 y0 y1 y2 y3
    go_wp2_with fail
    go_ret
    exact ⟨rfl, below_step HBW.out hb⟩
end Go.Proofs.Ytigdchfjcfljjaa
end
section
/- ImagePlays: the law. -/
namespace Go.Proofs.Ytigdchfjcfljjaa
open Go.RowKit Go.Proofs.YtigdchfjcfljjaaW.PrintWords Go.Proofs.YtigdchfjcfljjaaW.PrintLast Go.Proofs.YtigdchfjcfljjaaW.PrintMore
attribute [local go_sem] max2_int min2_int max_two min_two max_three min_three max_four min_four
theorem enc0_len (d q : Int) (d0 : 1 ≤ d) (q0 : 1 ≤ q) : ((encZ magicL [5, 6, d, q, 0] ++ List.replicate (obN ⟨5, 6, d, q, 0⟩ - 64).toNat 0).length : Int) = obN ⟨5, 6, d, q, 0⟩ := by
  have h : (encZ magicL [5, 6, d, q, 0]).length = 64 := by rw [encZ, List.length_append, encC_len, List.length_replicate]; rfl
  rw [List.length_append, List.length_replicate, h, obN]
  simp only
  omega
theorem enc0_gd (d q lm : Int) (d0 : 1 ≤ d) (d1 : d ≤ 8) (q0 : 1 ≤ q) (q1 : q ≤ 8) (l0 : 0 ≤ lm) (l1 : lm ≤ 65535) : Gd lm (encZ magicL [5, 6, d, q, 0] ++ List.replicate (obN ⟨5, 6, d, q, 0⟩ - 64).toNat 0) (encZ magicL [5, 6, d, q, 0] ++ List.replicate (obN ⟨5, 6, d, q, 0⟩ - 64).toNat 0) [] 0 := by
  have hl := enc0_len d q d0 q0
  have ho : obN ⟨5, 6, d, q, 0⟩ = 256 + 8 * d + 8 * q := rfl
  have hb : isB (encZ magicL [5, 6, d, q, 0] ++ List.replicate (obN ⟨5, 6, d, q, 0⟩ - 64).toNat 0) := (encZ_isB magic_isB _).app (zeros_isB _)
  exact ⟨⟨hb, hb⟩, ⟨by omega, Nat.le_refl _, by omega⟩, ⟨by omega, by omega⟩, fun x hx => by simp at hx, Nat.le_refl _, List.take_length, l0, l1⟩
set_option maxHeartbeats 8000000 in
set_option maxRecDepth 100000 in
theorem ImagePlays_main (a b lm : Int) (A0 : Option Addr) (n0 c0 : Nat) (l : List Ac) (at_ : Int) (w : World) (a0 : 0 ≤ a) (a1 : a ≤ 255) (b0 : 0 ≤ b) (b1 : b ≤ 255) (l0 : 0 ≤ lm) (l1 : lm ≤ 65535) (h0 : AcRow w A0 n0 c0 l) (t0 : -9223372036854775808 ≤ at_) (t1 : at_ ≤ 9223372036854775807) : Calls Try.prog 8 #[.int .u8 a, .int .u8 b, .int .u16 lm, .slice A0 n0 c0, .int .i64 at_] w fun e w' => e = .returned (.bool true) ∧ Below w.heap.size w w' := by
  have H0 := Aside0.mk h0
  have hn0 : n0 ≤ 9223372036854775807 := h0.2.1
  have hc0 : n0 ≤ c0 := h0.2.2.1
  obtain ⟨d, hd⟩ : ∃ d, 1 + a % 8 = d := ⟨_, rfl⟩
  obtain ⟨q, hq⟩ : ∃ d, 1 + b % 8 = d := ⟨_, rfl⟩
  have d0 : 1 ≤ d := by omega
  have d1 : d ≤ 8 := by omega
  have q0 : 1 ≤ q := by omega
  have q1 : q ≤ 8 := by omega
  have CH := Aside0.mk (fun w => heads_calls a b d q w a0 a1 b0 b1 hd hq)
  have HHR := Aside0.mk (show hR d q = true by simp [hR]; omega)
  have hlw : IntKind.i64.wrap lm = lm := by rw [IntKind.wrap_i64]; omega
  have HLW := Aside0.mk hlw
  have CN1 := Aside0.mk (fun (T : Nat) (w1 : World) (hT : CrcT w1 T) => by have := New_yes ⟨5, 6, d, q, 0⟩ T lm w1 hT HHR.out (by dsimp only; omega) (by dsimp only; omega) (by dsimp only; omega) (by dsimp only; omega) (by dsimp only; omega) (by dsimp only; omega) (by omega); dsimp only at this; exact this)
  have CN2 := Aside0.mk (fun (w1 : World) => by have := RNew_yes ⟨5, 6, d, q, 0⟩ lm w1 HHR.out (by dsimp only; omega) (by dsimp only; omega) (by dsimp only; omega) (by dsimp only; omega) (by dsimp only; omega) (by dsimp only; omega) (by omega); dsimp only at this; exact this)
  have HGD := Aside0.mk (enc0_gd d q lm d0 d1 q0 q1 l0 l1)
  have HLN := Aside0.mk (enc0_len d q d0 q0)
  obtain ⟨B0, hB0⟩ : ∃ x, (encZ magicL [5, 6, d, q, 0] ++ List.replicate (obN ⟨5, 6, d, q, 0⟩ - 64).toNat 0) = x := ⟨_, rfl⟩
  rw [hB0] at CN1 CN2 HGD HLN
  clear h0 hlw hB0 hd hq
  go_enter Try.func8, Try.ntmps8
  go_wp2_with fail
  refine (img_awake_calls _).mono ?_
  rintro e w1 ⟨rfl, hb⟩
  have HB := Aside0.mk hb
  clear hb
  go_wp2_with fail
  refine (CH.out _).mono ?_
  rintro e w2 ⟨rfl, hb⟩
  replace HB := Aside0.mk (below_step HB.out hb)
  clear hb
  have HX := Aside0.mk (blk_alloc (blk_new w2 (.cells #[.int .u64 5, .int .u64 6, .int .i64 d, .int .i64 q, .int .u64 0] 59)) (.cells #[.int .u64 5, .int .u64 6, .int .i64 d, .int .i64 q, .int .u64 0] 60))
  have HY := Aside0.mk (show ((w2.alloc (.cells #[.int .u64 5, .int .u64 6, .int .i64 d, .int .i64 q, .int .u64 0] 59)).alloc (.cells #[.int .u64 5, .int .u64 6, .int .i64 d, .int .i64 q, .int .u64 0] 60)).heap[w2.heap.size + 1]? = some (.cells #[.int .u64 5, .int .u64 6, .int .i64 d, .int .i64 q, .int .u64 0] 60 (0, 0)) by have := blk_new (w2.alloc (.cells #[.int .u64 5, .int .u64 6, .int .i64 d, .int .i64 q, .int .u64 0] 59)) (.cells #[.int .u64 5, .int .u64 6, .int .i64 d, .int .i64 q, .int .u64 0] 60); simpa using this)
  replace HB := Aside0.mk (below_alloc (below_alloc HB.out (.cells #[.int .u64 5, .int .u64 6, .int .i64 d, .int .i64 q, .int .u64 0] 59)) (.cells #[.int .u64 5, .int .u64 6, .int .i64 d, .int .i64 q, .int .u64 0] 60))
  go_upto_region 4 with fail
  obtain ⟨gx, hgx⟩ : ∃ g, w2.heap.size = g := ⟨_, rfl⟩
  obtain ⟨gy, hgy⟩ : ∃ g, gx + 1 = g := ⟨_, rfl⟩
  rw [hgx] at HX
  rw [hgx, hgy] at HY
  rw [hgx, hgy]
  obtain ⟨w3, hw3⟩ : ∃ w3, (w2.alloc (.cells #[.int .u64 5, .int .u64 6, .int .i64 d, .int .i64 q, .int .u64 0] 59)).alloc (.cells #[.int .u64 5, .int .u64 6, .int .i64 d, .int .i64 q, .int .u64 0] 60) = w3 := ⟨_, rfl⟩
  rw [hw3] at HX HY HB ⊢
  clear hgx hgy hw3
  have x0 := blk_cell HX.out 0
  have y0 := blk_cell HY.out 0
  have x1 := blk_cell HX.out 1
  have y1 := blk_cell HY.out 1
  have x2 := blk_cell HX.out 2
  have y2 := blk_cell HY.out 2
  have x3 := blk_cell HX.out 3
  have y3 := blk_cell HY.out 3
  have x4 := blk_cell HX.out 4
  have y4 := blk_cell HY.out 4
  have hlw := HLW.out
  refine start_ (n := 11) (S := fun w' => w'.cell? ⟨gx, 0, none⟩ = some (.int .u64 5) ∧ w'.cell? ⟨gx, 1, none⟩ = some (.int .u64 6) ∧ w'.cell? ⟨gx, 2, none⟩ = some (.int .i64 d) ∧ w'.cell? ⟨gx, 3, none⟩ = some (.int .i64 q) ∧ w'.cell? ⟨gx, 4, none⟩ = some (.int .u64 0) ∧ w'.cell? ⟨gy, 0, none⟩ = some (.int .u64 5) ∧ w'.cell? ⟨gy, 1, none⟩ = some (.int .u64 6) ∧ w'.cell? ⟨gy, 2, none⟩ = some (.int .i64 d) ∧ w'.cell? ⟨gy, 3, none⟩ = some (.int .i64 q) ∧ w'.cell? ⟨gy, 4, none⟩ = some (.int .u64 0)) (ds := []) #[false,false,false,false,false,false,false,false,false,false,false] (by kernel_rfl) rfl rfl ⟨x0, x1, x2, x3, x4, y0, y1, y2, y3, y4⟩ (fun hHeld => ?_)
  refine pure_ (i := 2) (N := some 26) (v := ?_) (a' := ?_) #[false,false,true,false,false,false,false,false,false,false,false] rfl rfl (by kernel_rfl) (fun _ _ _ h => h) (Or.inl ⟨by rfl, ?_⟩) ?_ ?_
  rotate_left
  · intro w'
    go_simp
    with_reducible rfl
  rotate_left
  · simp only [Act.put, List.setIfInBounds_toArray, List.set_cons_zero, List.set_cons_succ, i64_w, i32_w]
    rfl
  refine pure_ (i := 3) (N := some 27) (v := ?_) (a' := ?_) #[false,false,true,true,false,false,false,false,false,false,false] rfl rfl (by kernel_rfl) (fun _ _ _ h => h) (Or.inl ⟨by rfl, ?_⟩) ?_ ?_
  rotate_left
  · intro w'
    go_simp
    with_reducible rfl
  rotate_left
  · simp only [Act.put, List.setIfInBounds_toArray, List.set_cons_zero, List.set_cons_succ, i64_w, i32_w]
    rfl
  refine pure_ (i := 6) (N := some 30) (v := ?_) (a' := ?_) #[false,false,true,true,false,false,true,false,false,false,false] rfl rfl (by kernel_rfl) (fun _ _ _ h => h) (Or.inl ⟨by rfl, ?_⟩) ?_ ?_
  rotate_left
  · intro w'
    go_simp
    with_reducible rfl
  rotate_left
  · simp only [Act.put, List.setIfInBounds_toArray, List.set_cons_zero, List.set_cons_succ, i64_w, i32_w]
    rfl
  refine pure_ (i := 7) (N := some 31) (v := ?_) (a' := ?_) #[false,false,true,true,false,false,true,true,false,false,false] rfl rfl (by kernel_rfl) (fun _ _ _ h => h) (Or.inl ⟨by rfl, ?_⟩) ?_ ?_
  rotate_left
  · intro w'
    go_simp
    with_reducible rfl
  rotate_left
  · simp only [Act.put, List.setIfInBounds_toArray, List.set_cons_zero, List.set_cons_succ, i64_w, i32_w]
    rfl
  refine take_ (i := 1) (N := some 25) (v := ?_) (a' := ?_) #[false,true,true,true,false,false,true,true,false,false,false] rfl rfl (by kernel_rfl) (fun _ _ _ h => h) (Or.inl ⟨by rfl, ?_⟩) hHeld ?_ ?_
  rotate_left
  · rintro w' ⟨s0, s1, s2, s3, s4, s5, s6, s7, s8, s9⟩
    go_simp
    with_reducible rfl
  rotate_left
  · simp only [Act.put, List.setIfInBounds_toArray, List.set_cons_zero, List.set_cons_succ, i64_w, i32_w]
    rfl
  refine take_ (i := 5) (N := some 29) (v := ?_) (a' := ?_) #[false,true,true,true,false,true,true,true,false,false,false] rfl rfl (by kernel_rfl) (fun _ _ _ h => h) (Or.inl ⟨by rfl, ?_⟩) hHeld ?_ ?_
  rotate_left
  · rintro w' ⟨s0, s1, s2, s3, s4, s5, s6, s7, s8, s9⟩
    go_simp
    with_reducible rfl
  rotate_left
  · simp only [Act.put, List.setIfInBounds_toArray, List.set_cons_zero, List.set_cons_succ, i64_w, i32_w]
    rfl
  refine one_ (i := 0) (N := some 24) #[true,true,true,true,false,true,true,true,false,false,false] rfl rfl (by kernel_rfl) (by decide) (fun K hK => ?_)
  refine goes_ Try.func22 (by kernel_rfl) rfl #[] (by rfl) rfl rfl (by (try simp only [List.map_toArray, List.map_cons, List.map_nil]); first | done | rfl) ?_
  with_reducible refine (crc_Make_calls _).mono ?_
  rintro e w4 ⟨rfl, hT4, hb4⟩
  refine ⟨_, rfl, ?_⟩
  refine hK.out _ _ ⟨(pw_cell_below hb4 hHeld.1), (pw_cell_below hb4 hHeld.2.1), (pw_cell_below hb4 hHeld.2.2.1), (pw_cell_below hb4 hHeld.2.2.2.1), (pw_cell_below hb4 hHeld.2.2.2.2.1), (pw_cell_below hb4 hHeld.2.2.2.2.2.1), (pw_cell_below hb4 hHeld.2.2.2.2.2.2.1), (pw_cell_below hb4 hHeld.2.2.2.2.2.2.2.1), (pw_cell_below hb4 hHeld.2.2.2.2.2.2.2.2.1), (pw_cell_below hb4 hHeld.2.2.2.2.2.2.2.2.2)⟩ (fun hHeld => ?_)
  clear hK K
  refine norm_ (a' := ?_) ?_ ?_
  rotate_left
  · show Act.put _ (some 24) _ = _
    simp only [Act.put, List.setIfInBounds_toArray, List.set_cons_zero, List.set_cons_succ, i64_w, i32_w]
    rfl
  refine one_ (i := 4) (N := some 28) #[true,true,true,true,true,true,true,true,false,false,false] rfl rfl (by kernel_rfl) (by decide) (fun K hK => ?_)
  refine goes_ Try.func47 (by kernel_rfl) rfl #[.pointer (some ⟨w3.drew.heap.size, 0, none⟩), .agg #[.int .u64 5, .int .u64 6, .int .i64 d, .int .i64 q, .int .u64 0], .int .i64 lm] (by rfl) rfl rfl (by (try simp only [List.map_toArray, List.map_cons, List.map_nil]); first | done | rfl) ?_
  with_reducible refine (CN1.out _ _ hT4).mono ?_
  rintro e w5 ⟨g1, rfl, ⟨vb, hI5⟩, hb5⟩
  refine ⟨_, rfl, ?_⟩
  refine hK.out _ _ ⟨(pw_cell_below hb5 hHeld.1), (pw_cell_below hb5 hHeld.2.1), (pw_cell_below hb5 hHeld.2.2.1), (pw_cell_below hb5 hHeld.2.2.2.1), (pw_cell_below hb5 hHeld.2.2.2.2.1), (pw_cell_below hb5 hHeld.2.2.2.2.2.1), (pw_cell_below hb5 hHeld.2.2.2.2.2.2.1), (pw_cell_below hb5 hHeld.2.2.2.2.2.2.2.1), (pw_cell_below hb5 hHeld.2.2.2.2.2.2.2.2.1), (pw_cell_below hb5 hHeld.2.2.2.2.2.2.2.2.2)⟩ (fun hHeld => ?_)
  clear hK K
  refine norm_ (a' := ?_) ?_ ?_
  rotate_left
  · show Act.put _ (some 28) _ = _
    simp only [Act.put, List.setIfInBounds_toArray, List.set_cons_zero, List.set_cons_succ, i64_w, i32_w]
    rfl
  refine one_ (i := 8) (N := some 32) #[true,true,true,true,true,true,true,true,true,false,false] rfl rfl (by kernel_rfl) (by decide) (fun K hK => ?_)
  refine goes_ Try.func48 (by kernel_rfl) rfl #[.agg #[.int .u64 5, .int .u64 6, .int .i64 d, .int .i64 q, .int .u64 0], .int .i64 lm] (by rfl) rfl rfl (by (try simp only [List.map_toArray, List.map_cons, List.map_nil]); first | done | rfl) ?_
  with_reducible refine (CN2.out _).mono ?_
  rintro e w6 ⟨g2, rfl, ⟨xb, xa, b2, hb2, hR6⟩, hb6⟩
  refine ⟨_, rfl, ?_⟩
  refine hK.out _ _ ⟨(pw_cell_below hb6 hHeld.1), (pw_cell_below hb6 hHeld.2.1), (pw_cell_below hb6 hHeld.2.2.1), (pw_cell_below hb6 hHeld.2.2.2.1), (pw_cell_below hb6 hHeld.2.2.2.2.1), (pw_cell_below hb6 hHeld.2.2.2.2.2.1), (pw_cell_below hb6 hHeld.2.2.2.2.2.2.1), (pw_cell_below hb6 hHeld.2.2.2.2.2.2.2.1), (pw_cell_below hb6 hHeld.2.2.2.2.2.2.2.2.1), (pw_cell_below hb6 hHeld.2.2.2.2.2.2.2.2.2)⟩ (fun hHeld => ?_)
  clear hK K
  refine norm_ (a' := ?_) ?_ ?_
  rotate_left
  · show Act.put _ (some 32) _ = _
    simp only [Act.put, List.setIfInBounds_toArray, List.set_cons_zero, List.set_cons_succ, i64_w, i32_w]
    rfl
  refine pure_ (i := 9) (N := some 13) (v := ?_) (a' := ?_) #[true,true,true,true,true,true,true,true,true,true,false] rfl rfl (by kernel_rfl) (fun _ _ _ h => h) (Or.inl ⟨by rfl, ?_⟩) ?_ ?_
  rotate_left
  · intro w'
    go_simp
    with_reducible rfl
  rotate_left
  · simp only [Act.put, List.setIfInBounds_toArray, List.set_cons_zero, List.set_cons_succ, i64_w, i32_w]
    rfl
  refine pure_ (i := 10) (N := some 14) (v := ?_) (a' := ?_) #[true,true,true,true,true,true,true,true,true,true,true] rfl rfl (by kernel_rfl) (fun _ _ _ h => h) (Or.inl ⟨by rfl, ?_⟩) ?_ ?_
  rotate_left
  · intro w'
    go_simp
    with_reducible rfl
  rotate_left
  · simp only [Act.put, List.setIfInBounds_toArray, List.set_cons_zero, List.set_cons_succ, i64_w, i32_w]
    rfl
  refine done_ (by kernel_rfl) ?_
  have HB4 := Aside0.mk (below_step (below_drew (Below.refl w3.heap.size w3)) hb4)
  have HSN := Aside0.mk (show Sn w3 w6 g1 w4.heap.size g2 b2 ⟨5, 6, d, q, 0⟩ lm 0 B0 B0 [] (fun k => w4.heap.size ≤ k ∧ k < w5.heap.size) (fun k => b2 ≤ k ∧ k < w6.heap.size) from
    ⟨⟨⟨vb, _, by rw [HLN.out]; exact hI5.below hb6⟩, ⟨xb, xa, _, hR6⟩, fun k h1 h2 => Nat.lt_irrefl _ (Nat.lt_of_lt_of_le h1.2 (Nat.le_trans hb2 h2.1)), HGD.out⟩, ⟨HB4.out.size, Nat.le_trans HB4.out.size (Nat.le_trans hb5.size hb2)⟩, below_step (below_step HB4.out hb5) hb6⟩)
  obtain ⟨p1, hp1⟩ : ∃ b, w4.heap.size = b := ⟨_, rfl⟩
  rw [hp1] at HSN
  clear hp1 hT4 hb4 hI5 hb5 hb2 hR6 hb6 HB4 CN1 CN2 HY x0 x1 x2 x3 x4 y0 y1 y2 y3 y4 hlw HLN HGD CH
  have HBS := Aside0.mk HB.out.size
  go_upto_block 0 with (fail)
  go_cut [] (fun wx => ∃ m B Was ws F1 F2, Aside0 (Sn w3 wx g1 p1 g2 b2 ⟨5, 6, d, q, 0⟩ lm m B Was ws F1 F2))
  case first => as_aux_lemma =>
    go_wp2_with fail
    go_loopw [15] (fun v9 w' => ∃ i : Nat, i ≤ n0 ∧ i ≤ 25 ∧ v9 = .int .i64 i ∧ ∃ B Was ws F1 F2, Aside0 (Sn w3 w' g1 p1 g2 b2 ⟨5, 6, d, q, 0⟩ lm i B Was ws F1 F2)) (fun v9 _ => 25 - (intOf v9).toNat)
    case atStart => exact ⟨0, by omega, by omega, rfl, _, _, _, _, _, HSN⟩
    case round =>
      obtain ⟨i, hi, hi2, rfl, B, Was, ws, F1, F2, HS⟩ := hrel
      by_cases c2 : i < n0
      · by_cases c3 : i < 25
        · obtain ⟨ad, eA, hat⟩ := H0.out.2.2.2 (by omega)
          obtain ⟨x, hx⟩ : ∃ x, l[i]? = some x := ⟨_, List.getElem?_eq_getElem (show i < l.length by rw [H0.out.1]; exact c2)⟩
          have HA := Aside0.mk (hat i x hx)
          cases eA
          clear hat hx
          have HWW := Aside0.mk (below_step HB.out HS.out.bel)
          have hz0 := pw_cell_below HWW.out HA.out.c0
          have hz1 := pw_cell_below HWW.out HA.out.c1
          have hz2 := pw_cell_below HWW.out HA.out.c2
          have hz3 := pw_cell_below HWW.out HA.out.c3
          have hz4 := pw_cell_below HWW.out HA.out.c4
          have hz5 := pw_cell_below HWW.out HA.out.c5
          have hz6 := pw_cell_below HWW.out HA.out.c6
          go_wp2_with fail
          refine (alight_calls x.kind x.at_ x.nn x.kd x.A1 x.A2 x.A3 x.ws_.length x.raw.length x.it.length x.c1 x.c2 x.c3 _).mono ?_
          rintro e wl ⟨rfl, hb⟩
          replace HS := Aside0.mk (HS.out.below hb)
          replace HWW := Aside0.mk (below_step HB.out HS.out.bel)
          clear hb hz0 hz1 hz2 hz3 hz4 hz5 hz6
          cases hlt : lightA x.ws_.length x.raw.length x.it.length with
          | false =>
            clear hlt
            go_wp2_with fail
            refine (img_awake_calls _).mono ?_
            rintro e w9 ⟨rfl, hb⟩
            have HE := Aside0.mk (below_step HWW.out hb)
            clear hb
            go_wp2_with fail
            go_ret
            exact ⟨rfl, HE.out⟩
          | true =>
            have HAC := Aside0.mk ((HA.out.acr hlt).to HWW.out)
            clear hlt
            have hz0 := pw_cell_below HWW.out HA.out.c0
            have hz1 := pw_cell_below HWW.out HA.out.c1
            have hz2 := pw_cell_below HWW.out HA.out.c2
            have hz3 := pw_cell_below HWW.out HA.out.c3
            have hz4 := pw_cell_below HWW.out HA.out.c4
            have hz5 := pw_cell_below HWW.out HA.out.c5
            have hz6 := pw_cell_below HWW.out HA.out.c6
            go_wp2_with fail
            refine (does_calls g1 p1 g2 b2 ⟨5, 6, d, q, 0⟩ lm B Was ws i F1 F2 x.kind x.at_ x.nn x.kd x.ws_ x.raw x.it x.A1 x.A2 x.A3 x.c1 x.c2 x.c3 wl HS.out.1 w.heap.size ⟨Nat.le_trans HBS.out HS.out.2.1.1, Nat.le_trans HBS.out HS.out.2.1.2⟩ HAC.out (by omega) HA.out.ab.1 HA.out.ab.2).mono ?_
            rintro e w7 ⟨rfl, hs⟩
            obtain ⟨B', Was', ws', F1', F2', hs2, _, _, _, _⟩ := HS.out.turn hs
            have HS2 := Aside0.mk hs2
            clear hs hs2 hz0 hz1 hz2 hz3 hz4 hz5 hz6
            go_wp2_with fail
            refine (shows_calls g1 p1 g2 b2 ⟨5, 6, d, q, 0⟩ lm B' Was' ws' (i + 1) F1' F2' w7 HS2.out.1 HHR.out (by omega) at_ t0 t1).mono ?_
            rintro e w8 ⟨rfl, hb⟩
            replace HS2 := Aside0.mk (HS2.out.below hb)
            clear hb
            go_wp2_with fail
            refine ⟨?_, ?measure⟩
            · repeat apply Exists.intro
              refine ⟨⟨i + 1, by omega, by omega, by go_num, _, _, _, _, _, HS2⟩, rfl⟩
            case measure => simp [intOf] <;> omega
        · obtain rfl : i = 25 := by omega
          go_wp2_with fail
          go_meet
          exact ⟨_, _, _, _, _, _, HS⟩
      · go_wp2_with fail
        go_meet
        exact ⟨_, _, _, _, _, _, HS⟩
  case rest =>
  obtain ⟨m, B, Was, ws, F1, F2, HS⟩ := hcut
  obtain ⟨⟨⟨vb, vw, hI⟩, _, _, _⟩, _, hB⟩ := id HS.out
  have HI := Aside0.mk hI
  have HBW := Aside0.mk hB
  have HXC := Aside0.mk (blk_below HX.out hB)
  clear hI hB
  have x0 := blk_cell HXC.out 0
  have x1 := blk_cell HXC.out 1
  have x2 := blk_cell HXC.out 2
  have x3 := blk_cell HXC.out 3
  have x4 := blk_cell HXC.out 4
  go_upto_region 12 with fail
  have e1 : (d == d) = true := by simp
  have e2 : (q == q) = true := by simp
  refine start_ (n := 8) (S := fun w' => w'.cell? ⟨gx, 0, none⟩ = some (.int .u64 5) ∧ w'.cell? ⟨gx, 1, none⟩ = some (.int .u64 6) ∧ w'.cell? ⟨gx, 2, none⟩ = some (.int .i64 d) ∧ w'.cell? ⟨gx, 3, none⟩ = some (.int .i64 q) ∧ w'.cell? ⟨gx, 4, none⟩ = some (.int .u64 0)) (ds := []) #[false,false,false,false,false,false,false,false] (by kernel_rfl) rfl rfl ⟨x0, x1, x2, x3, x4⟩ (fun hHeld => ?_)
  refine pure_ (i := 0) (N := some 65) (v := ?_) (a' := ?_) #[true,false,false,false,false,false,false,false] rfl rfl (by kernel_rfl) (fun _ _ _ h => h) (Or.inl ⟨by rfl, ?_⟩) ?_ ?_
  rotate_left
  · intro w'
    go_simp
    with_reducible rfl
  rotate_left
  · simp only [Act.put, List.setIfInBounds_toArray, List.set_cons_zero, List.set_cons_succ, i64_w, i32_w]
    rfl
  refine take_ (i := 2) (N := some 67) (v := ?_) (a' := ?_) #[true,false,true,false,false,false,false,false] rfl rfl (by kernel_rfl) (fun _ _ _ h => h) (Or.inl ⟨by rfl, ?_⟩) hHeld ?_ ?_
  rotate_left
  · rintro w' ⟨s0, s1, s2, s3, s4⟩
    go_simp
    with_reducible rfl
  rotate_left
  · simp only [Act.put, List.setIfInBounds_toArray, List.set_cons_zero, List.set_cons_succ, i64_w, i32_w]
    rfl
  refine one_ (i := 1) (N := some 66) #[true,true,true,false,false,false,false,false] rfl rfl (by kernel_rfl) (by decide) (fun K hK => ?_)
  refine goes_ Try.func45 (by kernel_rfl) rfl #[.pointer (some ⟨g1, 0, none⟩)] (by rfl) rfl rfl (by (try simp only [List.map_toArray, List.map_cons, List.map_nil]); first | done | rfl) ?_
  with_reducible refine (Head_calls g1 p1 ⟨5, 6, d, q, 0⟩ B lm (Was.length : Int) ws F1 vb vw _ (HI.out.below (below_drew (Below.refl _ _)))).mono ?_
  rintro e w11 ⟨rfl, hb11⟩
  refine ⟨_, rfl, ?_⟩
  refine hK.out _ _ ⟨(pw_cell_below hb11 hHeld.1), (pw_cell_below hb11 hHeld.2.1), (pw_cell_below hb11 hHeld.2.2.1), (pw_cell_below hb11 hHeld.2.2.2.1), (pw_cell_below hb11 hHeld.2.2.2.2)⟩ (fun hHeld => ?_)
  clear hK K
  refine norm_ (a' := ?_) ?_ ?_
  rotate_left
  · show Act.put _ (some 66) _ = _
    simp only [Act.put, List.setIfInBounds_toArray, List.set_cons_zero, List.set_cons_succ, i64_w, i32_w]
    rfl
  refine pure_ (i := 3) (N := some 68) (v := ?_) (a' := ?_) #[true,true,true,true,false,false,false,false] rfl rfl (by kernel_rfl) (fun _ _ _ h => h) (Or.inl ⟨by rfl, ?_⟩) ?_ ?_
  rotate_left
  · intro w'
    go_simp
    with_reducible rfl
  rotate_left
  · simp only [Act.put, List.setIfInBounds_toArray, List.set_cons_zero, List.set_cons_succ, i64_w, i32_w]
    rfl
  refine pure_ (i := 4) (N := some 69) (v := ?_) (a' := ?_) #[true,true,true,true,true,false,false,false] rfl rfl (by kernel_rfl) (fun _ _ _ h => h) (Or.inl ⟨by rfl, ?_⟩) ?_ ?_
  rotate_left
  · intro w'
    go_simp
    with_reducible rfl
  rotate_left
  · simp only [Act.put, List.setIfInBounds_toArray, List.set_cons_zero, List.set_cons_succ, i64_w, i32_w]
    rfl
  refine one_ (i := 5) (N := some 70) #[true,true,true,true,true,true,false,false] rfl rfl (by kernel_rfl) (by decide) (fun K hK => ?_)
  refine goes_ Try.func35 (by kernel_rfl) rfl #[] (by rfl) rfl rfl (by (try simp only [List.map_toArray, List.map_cons, List.map_nil]); first | done | rfl) ?_
  with_reducible refine (img_awake_calls _).mono ?_
  rintro e w12 ⟨rfl, hb12⟩
  refine ⟨_, rfl, ?_⟩
  refine hK.out _ _ ⟨(pw_cell_below hb12 hHeld.1), (pw_cell_below hb12 hHeld.2.1), (pw_cell_below hb12 hHeld.2.2.1), (pw_cell_below hb12 hHeld.2.2.2.1), (pw_cell_below hb12 hHeld.2.2.2.2)⟩ (fun hHeld => ?_)
  clear hK K
  refine norm_ (a' := ?_) ?_ ?_
  rotate_left
  · show Act.put _ (some 70) _ = _
    simp only [Act.put, List.setIfInBounds_toArray, List.set_cons_zero, List.set_cons_succ, i64_w, i32_w]
    rfl
  refine pure_ (i := 6) (N := some 71) (v := ?_) (a' := ?_) #[true,true,true,true,true,true,true,false] rfl rfl (by kernel_rfl) (fun _ _ _ h => h) (Or.inl ⟨by rfl, ?_⟩) ?_ ?_
  rotate_left
  · intro w'
    go_simp
    with_reducible rfl
  rotate_left
  · simp only [Act.put, List.setIfInBounds_toArray, List.set_cons_zero, List.set_cons_succ, i64_w, i32_w]
    rfl
  refine pure_ (i := 7) (N := some 10) (v := ?_) (a' := ?_) #[true,true,true,true,true,true,true,true] rfl rfl (by kernel_rfl) (fun _ _ _ h => h) (Or.inl ⟨by rfl, ?_⟩) ?_ ?_
  rotate_left
  · intro w'
    go_simp
    with_reducible rfl
  rotate_left
  · simp only [Act.put, List.setIfInBounds_toArray, List.set_cons_zero, List.set_cons_succ, i64_w, i32_w]
    rfl
  refine done_ (by kernel_rfl) ?_
  have HE := Aside0.mk (below_step (below_step (below_step HB.out HBW.out) (below_step (below_drew (Below.refl _ _)) hb11)) hb12)
  go_wp2_with fail
  go_ret
  exact ⟨rfl, HE.out⟩
theorem ImagePlays_walk (a b lm : Int) (A0 : Option Addr) (n0 c0 : Nat) (l : List Ac) (at_ : Int) (w : World) (wa : (Lit.int .u8 a).wf = true) (wb : (Lit.int .u8 b).wf = true) (wl : (Lit.int .u16 lm).wf = true) (h0 : AcRow w A0 n0 c0 l) (wt : (Lit.int .i64 at_).wf = true) : Calls Try.prog 8 #[.int .u8 a, .int .u8 b, .int .u16 lm, .slice A0 n0 c0, .int .i64 at_] w fun e w' => e = .returned (.bool true) ∧ Below w.heap.size w w' :=
  have hl := bounds_u16 wl
  ImagePlays_main a b lm A0 n0 c0 l at_ w (bounds_u8 wa).1 (bounds_u8 wa).2 (bounds_u8 wb).1 (bounds_u8 wb).2 hl.1 hl.2 h0 (bounds_i64 wt).1 (bounds_i64 wt).2
end Go.Proofs.Ytigdchfjcfljjaa
end
