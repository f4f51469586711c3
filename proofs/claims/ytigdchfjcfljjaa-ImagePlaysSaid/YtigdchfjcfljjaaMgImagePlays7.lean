import Derived.Test.YtigdchfjcfljjaaMgImagePlays6
import Derived.Test.YtigdchfjcfljjaaMgImagePlays1
import Derived.ProofKit
import Derived.Deep.Slices
import Derived.Deep.Fields
import Derived.ChangeSame
import Derived.Test.YtigdchfjcfljjaaMgImagePlays2
import Derived.Test.YtigdchfjcfljjaaMgImagePlays5
set_option linter.unusedVariables false
set_option linter.unusedSimpArgs false
section
/- Images: an act, done to both. -/
namespace Go.Proofs.Ytigdchfjcfljjaa
open Go.RowKit Go.Proofs.YtigdchfjcfljjaaW.PrintWords Go.Proofs.YtigdchfjcfljjaaW.PrintLast Go.Proofs.YtigdchfjcfljjaaW.PrintMore
attribute [local go_sem] max2_int min2_int max_two min_two max_three min_three max_four min_four
theorem ImS.kp {W W' : World} {g base : Nat} {H : Hd} {B ws : List Int} {lim fr : Int} {F : Nat → Prop} (h : ImS W W' g base H B lim fr ws F) : Kp F W W' := h.2
theorem RmS.kp {W W' : World} {g base : Nat} {H : Hd} {B Was ws : List Int} {lim : Int} {F : Nat → Prop} (h : RmS W W' g base H B Was lim ws F) : Kp F W W' := h.2
theorem below_kp {base : Nat} {w w0 w1 : World} {S : Nat → Prop} (h : Below base w w0) (hk : Kp S w0 w1) (hs : base ≤ w.heap.size) (hS : ∀ k, S k → base ≤ k) : Below base w w1 :=
  ⟨hk.os.trans h.os, hk.tape.trans h.tape, hk.output.trans h.output, Nat.le_trans h.size hk.size, fun k hlt => (hk.block k (Nat.lt_of_lt_of_le hlt (Nat.le_trans hs h.size)) (fun hh => absurd (hS k hh) (Nat.not_le_of_lt hlt))).trans (h.block k hlt)⟩
/-- Both images, alike. -/
def Pr (W : World) (g1 b1 g2 b2 : Nat) (H : Hd) (lim : Int) (B Was ws : List Int) (m : Nat) (F1 F2 : Nat → Prop) : Prop :=
  (∃ vb vw, Im W g1 b1 H B lim (Was.length : Int) ws F1 vb vw) ∧ (∃ vb va vw, Rm W g2 b2 H B Was lim ws F2 vb va vw) ∧ (∀ k, F1 k → ¬ F2 k) ∧ Gd lim B Was ws m
def PrS (w w' : World) (g1 b1 g2 b2 : Nat) (H : Hd) (lim : Int) (Was : List Int) (m : Nat) (F1 F2 : Nat → Prop) (keep : Prop) : Prop :=
  ∃ B' Was' ws' F1' F2', Pr w' g1 b1 g2 b2 H lim B' Was' ws' (m + 1) F1' F2' ∧ (∀ k, F1' k → ext F1 w w' k) ∧ (∀ k, F2' k → ext F2 w w' k) ∧ Kp (fun k => F1 k ∨ F2 k) w w' ∧ (keep → Was' = Was)
def AcR (w : World) (base : Nat) (nn : Int) (ws_ raw it : List Int) (A1 A2 A3 : Option Addr) (c1 c2 c3 : Nat) : Prop :=
  (∀ w1, Below base w w1 → Rd w1 .u64 (.slice A1 ws_.length c1) ws_ ∧ Rd w1 .u8 (.slice A2 raw.length c2) raw ∧ Rd w1 .u64 (.slice A3 it.length c3) it) ∧ isW ws_ ∧ isB raw ∧ isW it ∧ (ws_.length ≤ 10 ∧ raw.length ≤ 300 ∧ it.length ≤ 80) ∧ (0 ≤ nn ∧ nn ≤ 18446744073709551615)
theorem Pr.rm {w w0 w1 w2 : World} {g2 b2 : Nat} {H : Hd} {lim : Int} {B Was ws : List Int} {F1 F2 : Nat → Prop} {vb va vw : Value} (hd : ∀ k, F1 k → ¬ F2 k) (h : Rm w g2 b2 H B Was lim ws F2 vb va vw) (hb0 : Below w.heap.size w w0) (hk : Kp F1 w0 w1) (hb1 : Below w1.heap.size w1 w2) : Rm w2 g2 b2 H B Was lim ws F2 vb va vw :=
  ((h.below hb0).kp hk (fun k h2 h1 => hd k h1 h2)).below hb1
theorem PrS.of {w w0 w1 w2 w3 : World} {g1 b1 g2 b2 : Nat} {H : Hd} {lim : Int} {B Was ws B' Was' ws' : List Int} {m : Nat} {F1 F2 : Nat → Prop} {keep : Prop} (h : Pr w g1 b1 g2 b2 H lim B Was ws m F1 F2) (hb0 : Below w.heap.size w w0) (h1 : ImS w0 w1 g1 b1 H B' lim (Was'.length : Int) ws' F1) (hb1 : Below w1.heap.size w1 w2)
    (h2 : RmS w2 w3 g2 b2 H B' Was' lim ws' F2) (hG : Gd lim B' Was' ws' (m + 1)) (hkeep : keep → Was' = Was) : PrS w w3 g1 b1 g2 b2 H lim Was m F1 F2 keep := by
  obtain ⟨⟨vb, vw, hI⟩, ⟨xb, xa, xw, hR⟩, hd, _⟩ := h
  obtain ⟨⟨vb', vw', hI'⟩, hk1⟩ := h1
  obtain ⟨⟨xb', xa', xw', hR'⟩, hk2⟩ := h2
  have s0 := hb0.size
  have s1 := hk1.size
  have s2 := hb1.size
  have s3 := hk2.size
  have f1 : ∀ k, F1 k → k < w.heap.size := fun k hk => hI.lt hk
  have f2 : ∀ k, F2 k → k < w.heap.size := fun k hk => hR.lt hk
  refine ⟨B', Was', ws', ext F1 w0 w1, ext F2 w2 w3, ⟨⟨vb', vw', ?_⟩, ⟨xb', xa', xw', hR'⟩, ?_, hG⟩, ?_, ?_, ?_, hkeep⟩
  · exact (hI'.below hb1).kp hk2 (fun k hk h2 => by
      rcases hk with hk | hk
      · exact hd k hk h2
      · have := f2 k h2
        omega)
  · rintro k (hk | hk) (h2 | h2)
    · exact hd k hk h2
    · have := f1 k hk
      omega
    · have := f2 k h2
      omega
    · omega
  · rintro k (hk | hk)
    · exact .inl hk
    · exact .inr ⟨by omega, by omega⟩
  · rintro k (hk | hk)
    · exact .inl hk
    · exact .inr ⟨by omega, by omega⟩
  · have e1 : Kp (fun k => F1 k ∨ F2 k) w w2 := ((Kp.of_below hb0 _).trans (hk1.mono (fun k hk => .inl hk)) (fun k hk => .inl hk)).below hb1
    exact e1.trans (hk2.mono (fun k hk => .inr hk)) (fun k hk => .inl hk)
set_option maxHeartbeats 8000000 in
set_option maxRecDepth 100000 in
theorem does_else (g1 b1 g2 b2 : Nat) (H : Hd) (lim : Int) (B Was ws : List Int) (m : Nat) (F1 F2 : Nat → Prop) (kind at_ nn kd : Int) (ws_ raw it : List Int) (A1 A2 A3 : Option Addr) (c1 c2 c3 : Nat) (w : World) (hP : Pr w g1 b1 g2 b2 H lim B Was ws m F1 F2) (base : Nat) (hb12 : base ≤ b1 ∧ base ≤ b2) (hA : AcR w base nn ws_ raw it A1 A2 A3 c1 c2 c3) (hm : m ≤ 1000) (a0 : -9223372036854775808 ≤ at_) (a1 : at_ ≤ 9223372036854775807) (h0 : kind ≠ 0) (h1 : kind ≠ 1) (h2 : kind ≠ 2) (h3 : kind ≠ 3) : Calls Try.prog 50 #[.pointer (some ⟨g1, 0, none⟩), .pointer (some ⟨g2, 0, none⟩), .agg #[.int .i64 kind, .int .i64 at_, .int .u64 nn, .int .i64 kd, .slice A1 ws_.length c1, .slice A2 raw.length c2, .slice A3 it.length c3]] w fun e w' => e = .returned (.bool true) ∧ PrS w w' g1 b1 g2 b2 H lim Was m F1 F2 (kind ≠ 2 ∧ kind ≠ 3) := by
  have e0 : (kind == 0) = false := by simpa using h0
  have e1 : (kind == 1) = false := by simpa using h1
  have e2 : (kind == 2) = false := by simpa using h2
  have e3 : (kind == 3) = false := by simpa using h3
  obtain ⟨⟨vb, vw, hI⟩, ⟨xb, xa, xw, hR⟩, hd, hG⟩ := id hP
  obtain ⟨rr, iw, ib, ii, ⟨q1, q2, q3⟩, n0, n1⟩ := hA
  have HP := Aside0.mk hP
  have HI := Aside0.mk hI
  have HRM := Aside0.mk hR
  have HD := Aside0.mk hd
  have HG := Aside0.mk hG
  have HB := Aside0.mk (below_alloc (Below.refl w.heap.size w) (.cells #[.int .i64 kind, .int .i64 at_, .int .u64 nn, .int .i64 kd, .slice A1 ws_.length c1, .slice A2 raw.length c2, .slice A3 it.length c3] 81))
  have HZ := Aside0.mk (blk_new w (.cells #[.int .i64 kind, .int .i64 at_, .int .u64 nn, .int .i64 kd, .slice A1 ws_.length c1, .slice A2 raw.length c2, .slice A3 it.length c3] 81))
  have HF1 := Aside0.mk (fun k hk => hI.lt (k := k) hk)
  have HF2 := Aside0.mk (fun k hk => hR.lt (k := k) hk)
  have hBl : B.length ≤ 100000 := Nat.le_trans hG.2.1.2.2 (by decide)
  have hwl : ws.length ≤ 1000000 := Nat.le_trans hG.2.2.2.2.1 (Nat.le_trans hm (by decide))
  obtain ⟨t, ht⟩ : ∃ t : Nat, B.length = 8 * t := ⟨B.length / 8, by have := hG.2.2.1.1; omega⟩
  have ht0 : 25 ≤ t := by have := hG.2.1; omega
  have ht1 : t ≤ 8750 := by have := hG.2.1; omega
  obtain ⟨U, hU⟩ : ∃ U, IntKind.u64.wrap at_ = U := ⟨_, rfl⟩
  have hU0 : 0 ≤ U := by rw [← hU, IntKind.wrap_u64]; omega
  obtain ⟨V, hV⟩ : ∃ V, U % (t : Int) = V := ⟨_, rfl⟩
  have hV0 : 0 ≤ V := by rw [← hV]; exact Int.emod_nonneg _ (by omega)
  have hV1 : V < t := by rw [← hV]; exact Int.emod_lt_of_pos _ (by omega)
  have hVt : U.tmod (t : Int) = V := by rw [Int.tmod_eq_emod_of_nonneg hU0, hV]
  obtain ⟨ap, hap⟩ : ∃ a, 8 * V = a := ⟨_, rfl⟩
  obtain ⟨cc, hcc⟩ : ∃ c, setC B ap = c := ⟨_, rfl⟩
  have bcc : (cc == cc) = true := by simp
  have C1 := Aside0.mk (fun (w1 : World) (hb : Below w.heap.size w w1) => Set_any g1 b1 H B lim _ ws F1 vb vw w1 (hI.below hb) hG.1.1 hBl ap nn n0 n1 hwl)
  have C2 := Aside0.mk (fun (w1 : World) (h : Rm w1 g2 b2 H B Was lim ws F2 xb xa xw) => RSet_any g2 b2 H B Was lim ws F2 xb xa xw w1 h hG.1.1 hBl _ rfl ap nn n0 n1 hwl)
  rw [hcc] at C1 C2
  have HG2 := Aside0.mk (hG.set ap nn)
  obtain ⟨Ab, cb, ev, _, _⟩ := hR.b.sl ht
  have HEV := Aside0.mk ev
  have hRb : Rm w g2 b2 H B Was lim ws F2 (.slice Ab (8 * t) cb) xa xw := by rw [← ev]; exact hR
  have HRB := Aside0.mk hRb
  have hdv : ((8 * t : Nat) : Int).tdiv 8 = (t : Int) := by rw [Int.tdiv_eq_ediv_of_nonneg (by omega)]; omega
  have hdv2 : ((8 * t : Nat) : Int) / 8 = (t : Int) := by omega
  have hdv3 : (8 * (t : Int)).tdiv 8 = (t : Int) := by rw [Int.tdiv_eq_ediv_of_nonneg (by omega)]; omega
  have hdv4 : (8 * (t : Int)) / 8 = (t : Int) := by omega
  have hw1 : IntKind.u64.wrap (t : Int) = (t : Int) := by rw [IntKind.wrap_u64]; omega
  have hw2 : IntKind.i64.wrap (t : Int) = (t : Int) := by rw [IntKind.wrap_i64]; omega
  have hw3 : IntKind.i64.wrap V = V := by rw [IntKind.wrap_i64]; omega
  have hw4 : IntKind.u64.wrap V = V := by rw [IntKind.wrap_u64]; omega
  have hw5 : IntKind.i64.wrap (8 * V) = ap := by rw [IntKind.wrap_i64]; omega
  have hw6 : wrap64 (8 * V) = ap := by simp only [wrap64]; omega
  have ht2 : ((t : Int) == 0) = false := by rw [beq_eq_false_iff_ne]; omega
  have htn : ¬ t = 0 := by omega
  have HAD := Aside0.mk (And.intro hw1 (And.intro hw2 (And.intro hw3 (And.intro hw4 (And.intro hw5 hw6)))))
  clear hw1 hw2 hw3 hw4 hw5 hw6
  clear hP hI hR hd hG rr iw ib ii q1 q2 q3 n0 n1 hm hBl hwl hcc a0 a1 hRb ev hV hap
  go_enter Try.func50, Try.ntmps50
  go_upto_region 1 with fail
  obtain ⟨w0, hw0⟩ : ∃ w0, w.alloc (.cells #[.int .i64 kind, .int .i64 at_, .int .u64 nn, .int .i64 kd, .slice A1 ws_.length c1, .slice A2 raw.length c2, .slice A3 it.length c3] 81) = w0 := ⟨_, rfl⟩
  rw [hw0] at HZ HB ⊢
  clear hw0
  have z0 : (w0).cell? ⟨w.heap.size, 0, none⟩ = some (.int .i64 kind) := blk_cell HZ.out 0
  have z1 : (w0).cell? ⟨w.heap.size, 1, none⟩ = some (.int .i64 at_) := blk_cell HZ.out 1
  have z2 : (w0).cell? ⟨w.heap.size, 2, none⟩ = some (.int .u64 nn) := blk_cell HZ.out 2
  have z3 : (w0).cell? ⟨w.heap.size, 3, none⟩ = some (.int .i64 kd) := blk_cell HZ.out 3
  have z4 : (w0).cell? ⟨w.heap.size, 4, none⟩ = some (.slice A1 ws_.length c1) := blk_cell HZ.out 4
  have z5 : (w0).cell? ⟨w.heap.size, 5, none⟩ = some (.slice A2 raw.length c2) := blk_cell HZ.out 5
  have z6 : (w0).cell? ⟨w.heap.size, 6, none⟩ = some (.slice A3 it.length c3) := blk_cell HZ.out 6
  have y5 : w0.cell? ⟨g2, 5, none⟩ = some (.slice Ab (8 * t) cb) := blk_cell (HRB.out.below HB.out).blk 5
  go_upto_region 2 with fail
  obtain ⟨hw1, hw2, hw3, hw4, hw5, hw6⟩ := HAD.out
  refine start_ (n := 14) (S := fun w' => w'.cell? ⟨w.heap.size, 1, none⟩ = some (.int .i64 at_) ∧ w'.cell? ⟨g2, 5, none⟩ = some (.slice Ab (8 * t) cb)) (ds := []) #[false,false,false,false,false,false,false,false,false,false,false,false,false,false] (by kernel_rfl) rfl rfl ⟨z1, y5⟩ (fun hHeld => ?_)
  refine pure_ (i := 0) (N := some 14) (v := ?_) (a' := ?_) #[true,false,false,false,false,false,false,false,false,false,false,false,false,false] rfl rfl (by kernel_rfl) (fun _ _ _ h => h) (Or.inl ⟨by rfl, ?_⟩) ?_ ?_
  rotate_left
  · intro w'
    go_simp
    with_reducible rfl
  rotate_left
  · simp only [Act.put, List.setIfInBounds_toArray, List.set_cons_zero, List.set_cons_succ, i64_w, i32_w]
    rfl
  refine pure_ (i := 3) (N := some 17) (v := ?_) (a' := ?_) #[true,false,false,true,false,false,false,false,false,false,false,false,false,false] rfl rfl (by kernel_rfl) (fun _ _ _ h => h) (Or.inl ⟨by rfl, ?_⟩) ?_ ?_
  rotate_left
  · intro w'
    go_simp
    with_reducible rfl
  rotate_left
  · simp only [Act.put, List.setIfInBounds_toArray, List.set_cons_zero, List.set_cons_succ, i64_w, i32_w]
    rfl
  refine pure_ (i := 4) (N := some 18) (v := ?_) (a' := ?_) #[true,false,false,true,true,false,false,false,false,false,false,false,false,false] rfl rfl (by kernel_rfl) (fun _ _ _ h => h) (Or.inl ⟨by rfl, ?_⟩) ?_ ?_
  rotate_left
  · intro w'
    go_simp
    with_reducible rfl
  rotate_left
  · simp only [Act.put, List.setIfInBounds_toArray, List.set_cons_zero, List.set_cons_succ, i64_w, i32_w]
    rfl
  refine pure_ (i := 5) (N := some 19) (v := ?_) (a' := ?_) #[true,false,false,true,true,true,false,false,false,false,false,false,false,false] rfl rfl (by kernel_rfl) (fun _ _ _ h => h) (Or.inl ⟨by rfl, ?_⟩) ?_ ?_
  rotate_left
  · intro w'
    go_simp
    with_reducible rfl
  rotate_left
  · simp only [Act.put, List.setIfInBounds_toArray, List.set_cons_zero, List.set_cons_succ, i64_w, i32_w]
    rfl
  refine take_ (i := 1) (N := some 15) (v := ?_) (a' := ?_) #[true,true,false,true,true,true,false,false,false,false,false,false,false,false] rfl rfl (by kernel_rfl) (fun _ _ _ h => h) (Or.inl ⟨by rfl, ?_⟩) hHeld ?_ ?_
  rotate_left
  · rintro w' ⟨s0, s1⟩
    go_simp
    with_reducible rfl
  rotate_left
  · simp only [Act.put, List.setIfInBounds_toArray, List.set_cons_zero, List.set_cons_succ, i64_w, i32_w]
    rfl
  refine pure_ (i := 2) (N := some 16) (v := ?_) (a' := ?_) #[true,true,true,true,true,true,false,false,false,false,false,false,false,false] rfl rfl (by kernel_rfl) (fun _ _ _ h => h) (Or.inl ⟨by rfl, ?_⟩) ?_ ?_
  rotate_left
  · intro w'
    go_simp
    with_reducible rfl
  rotate_left
  · simp only [Act.put, List.setIfInBounds_toArray, List.set_cons_zero, List.set_cons_succ, i64_w, i32_w]
    rfl
  refine take_ (i := 6) (N := some 20) (v := ?_) (a' := ?_) #[true,true,true,true,true,true,true,false,false,false,false,false,false,false] rfl rfl (by kernel_rfl) (fun _ _ _ h => h) (Or.inl ⟨by rfl, ?_⟩) hHeld ?_ ?_
  rotate_left
  · rintro w' ⟨s0, s1⟩
    go_simp
    with_reducible rfl
  rotate_left
  · simp only [Act.put, List.setIfInBounds_toArray, List.set_cons_zero, List.set_cons_succ, i64_w, i32_w]
    rfl
  refine pure_ (i := 7) (N := some 21) (v := ?_) (a' := ?_) #[true,true,true,true,true,true,true,true,false,false,false,false,false,false] rfl rfl (by kernel_rfl) (fun _ _ _ h => h) (Or.inl ⟨by rfl, ?_⟩) ?_ ?_
  rotate_left
  · intro w'
    go_simp
    with_reducible rfl
  rotate_left
  · simp only [Act.put, List.setIfInBounds_toArray, List.set_cons_zero, List.set_cons_succ, i64_w, i32_w]
    rfl
  refine pure_ (i := 8) (N := some 22) (v := ?_) (a' := ?_) #[true,true,true,true,true,true,true,true,true,false,false,false,false,false] rfl rfl (by kernel_rfl) (fun _ _ _ h => h) (Or.inl ⟨by rfl, ?_⟩) ?_ ?_
  rotate_left
  · intro w'
    go_simp
    with_reducible rfl
  rotate_left
  · simp only [Act.put, List.setIfInBounds_toArray, List.set_cons_zero, List.set_cons_succ, i64_w, i32_w]
    rfl
  refine pure_ (i := 9) (N := some 23) (v := ?_) (a' := ?_) #[true,true,true,true,true,true,true,true,true,true,false,false,false,false] rfl rfl (by kernel_rfl) (fun _ _ _ h => h) (Or.inl ⟨by rfl, ?_⟩) ?_ ?_
  rotate_left
  · intro w'
    go_simp
    with_reducible rfl
  rotate_left
  · simp only [Act.put, List.setIfInBounds_toArray, List.set_cons_zero, List.set_cons_succ, i64_w, i32_w]
    rfl
  refine pure_ (i := 10) (N := some 24) (v := ?_) (a' := ?_) #[true,true,true,true,true,true,true,true,true,true,true,false,false,false] rfl rfl (by kernel_rfl) (fun _ _ _ h => h) (Or.inl ⟨by rfl, ?_⟩) ?_ ?_
  rotate_left
  · intro w'
    go_simp
    with_reducible rfl
  rotate_left
  · simp only [Act.put, List.setIfInBounds_toArray, List.set_cons_zero, List.set_cons_succ, i64_w, i32_w]
    rfl
  refine pure_ (i := 11) (N := some 25) (v := ?_) (a' := ?_) #[true,true,true,true,true,true,true,true,true,true,true,true,false,false] rfl rfl (by kernel_rfl) (fun _ _ _ h => h) (Or.inl ⟨by rfl, ?_⟩) ?_ ?_
  rotate_left
  · intro w'
    go_simp
    with_reducible rfl
  rotate_left
  · simp only [Act.put, List.setIfInBounds_toArray, List.set_cons_zero, List.set_cons_succ, i64_w, i32_w]
    rfl
  refine pure_ (i := 12) (N := some 26) (v := ?_) (a' := ?_) #[true,true,true,true,true,true,true,true,true,true,true,true,true,false] rfl rfl (by kernel_rfl) (fun _ _ _ h => h) (Or.inl ⟨by rfl, ?_⟩) ?_ ?_
  rotate_left
  · intro w'
    go_simp
    with_reducible rfl
  rotate_left
  · simp only [Act.put, List.setIfInBounds_toArray, List.set_cons_zero, List.set_cons_succ, i64_w, i32_w]
    rfl
  refine pure_ (i := 13) (N := some 11) (v := ?_) (a' := ?_) #[true,true,true,true,true,true,true,true,true,true,true,true,true,true] rfl rfl (by kernel_rfl) (fun _ _ _ h => h) (Or.inl ⟨by rfl, ?_⟩) ?_ ?_
  rotate_left
  · intro w'
    go_simp
    with_reducible rfl
  rotate_left
  · simp only [Act.put, List.setIfInBounds_toArray, List.set_cons_zero, List.set_cons_succ, i64_w, i32_w]
    rfl
  refine done_ (by kernel_rfl) ?_
  clear hw1 hw2 hw3 hw4 hw5 hw6 z0 z1 z2 z3 z4 z5 z6 y5
  replace HZ := Aside0.mk (blk_drew HZ.out)
  replace HB := Aside0.mk (below_drew HB.out)
  obtain ⟨w5, hw5⟩ : ∃ W, w0.drew = W := ⟨_, rfl⟩
  rw [hw5] at HZ HB ⊢
  clear hw5
  have z0 : (w5).cell? ⟨w.heap.size, 0, none⟩ = some (.int .i64 kind) := blk_cell HZ.out 0
  have z1 : (w5).cell? ⟨w.heap.size, 1, none⟩ = some (.int .i64 at_) := blk_cell HZ.out 1
  have z2 : (w5).cell? ⟨w.heap.size, 2, none⟩ = some (.int .u64 nn) := blk_cell HZ.out 2
  have z3 : (w5).cell? ⟨w.heap.size, 3, none⟩ = some (.int .i64 kd) := blk_cell HZ.out 3
  have z4 : (w5).cell? ⟨w.heap.size, 4, none⟩ = some (.slice A1 ws_.length c1) := blk_cell HZ.out 4
  have z5 : (w5).cell? ⟨w.heap.size, 5, none⟩ = some (.slice A2 raw.length c2) := blk_cell HZ.out 5
  have z6 : (w5).cell? ⟨w.heap.size, 6, none⟩ = some (.slice A3 it.length c3) := blk_cell HZ.out 6
  go_upto_region 3 with fail
  refine start_ (n := 12) (S := fun w' => w'.cell? ⟨w.heap.size, 2, none⟩ = some (.int .u64 nn)) (ds := []) #[false,false,false,false,false,false,false,false,false,false,false,false] (by kernel_rfl) rfl rfl (z2) (fun hHeld => ?_)
  refine pure_ (i := 0) (N := some 27) (v := ?_) (a' := ?_) #[true,false,false,false,false,false,false,false,false,false,false,false] rfl rfl (by kernel_rfl) (fun _ _ _ h => h) (Or.inl ⟨by rfl, ?_⟩) ?_ ?_
  rotate_left
  · intro w'
    go_simp
    with_reducible rfl
  rotate_left
  · simp only [Act.put, List.setIfInBounds_toArray, List.set_cons_zero, List.set_cons_succ, i64_w, i32_w]
    rfl
  refine pure_ (i := 1) (N := some 28) (v := ?_) (a' := ?_) #[true,true,false,false,false,false,false,false,false,false,false,false] rfl rfl (by kernel_rfl) (fun _ _ _ h => h) (Or.inl ⟨by rfl, ?_⟩) ?_ ?_
  rotate_left
  · intro w'
    go_simp
    with_reducible rfl
  rotate_left
  · simp only [Act.put, List.setIfInBounds_toArray, List.set_cons_zero, List.set_cons_succ, i64_w, i32_w]
    rfl
  refine pure_ (i := 2) (N := some 29) (v := ?_) (a' := ?_) #[true,true,true,false,false,false,false,false,false,false,false,false] rfl rfl (by kernel_rfl) (fun _ _ _ h => h) (Or.inl ⟨by rfl, ?_⟩) ?_ ?_
  rotate_left
  · intro w'
    go_simp
    with_reducible rfl
  rotate_left
  · simp only [Act.put, List.setIfInBounds_toArray, List.set_cons_zero, List.set_cons_succ, i64_w, i32_w]
    rfl
  refine pure_ (i := 5) (N := some 32) (v := ?_) (a' := ?_) #[true,true,true,false,false,true,false,false,false,false,false,false] rfl rfl (by kernel_rfl) (fun _ _ _ h => h) (Or.inl ⟨by rfl, ?_⟩) ?_ ?_
  rotate_left
  · intro w'
    go_simp
    with_reducible rfl
  rotate_left
  · simp only [Act.put, List.setIfInBounds_toArray, List.set_cons_zero, List.set_cons_succ, i64_w, i32_w]
    rfl
  refine pure_ (i := 6) (N := some 33) (v := ?_) (a' := ?_) #[true,true,true,false,false,true,true,false,false,false,false,false] rfl rfl (by kernel_rfl) (fun _ _ _ h => h) (Or.inl ⟨by rfl, ?_⟩) ?_ ?_
  rotate_left
  · intro w'
    go_simp
    with_reducible rfl
  rotate_left
  · simp only [Act.put, List.setIfInBounds_toArray, List.set_cons_zero, List.set_cons_succ, i64_w, i32_w]
    rfl
  refine pure_ (i := 7) (N := some 34) (v := ?_) (a' := ?_) #[true,true,true,false,false,true,true,true,false,false,false,false] rfl rfl (by kernel_rfl) (fun _ _ _ h => h) (Or.inl ⟨by rfl, ?_⟩) ?_ ?_
  rotate_left
  · intro w'
    go_simp
    with_reducible rfl
  rotate_left
  · simp only [Act.put, List.setIfInBounds_toArray, List.set_cons_zero, List.set_cons_succ, i64_w, i32_w]
    rfl
  refine take_ (i := 3) (N := some 30) (v := ?_) (a' := ?_) #[true,true,true,true,false,true,true,true,false,false,false,false] rfl rfl (by kernel_rfl) (fun _ _ _ h => h) (Or.inl ⟨by rfl, ?_⟩) hHeld ?_ ?_
  rotate_left
  · intro w' s0
    go_simp
    with_reducible rfl
  rotate_left
  · simp only [Act.put, List.setIfInBounds_toArray, List.set_cons_zero, List.set_cons_succ, i64_w, i32_w]
    rfl
  refine take_ (i := 8) (N := some 35) (v := ?_) (a' := ?_) #[true,true,true,true,false,true,true,true,true,false,false,false] rfl rfl (by kernel_rfl) (fun _ _ _ h => h) (Or.inl ⟨by rfl, ?_⟩) hHeld ?_ ?_
  rotate_left
  · intro w' s0
    go_simp
    with_reducible rfl
  rotate_left
  · simp only [Act.put, List.setIfInBounds_toArray, List.set_cons_zero, List.set_cons_succ, i64_w, i32_w]
    rfl
  refine one_ (i := 4) (N := some 31) #[true,true,true,true,true,true,true,true,true,false,false,false] rfl rfl (by kernel_rfl) (by decide) (fun K hK => ?_)
  refine goes_ Try.func42 (by kernel_rfl) rfl #[.pointer (some ⟨g1, 0, none⟩), .int .i64 ap, .int .u64 nn] (by rfl) rfl rfl (by (try simp only [List.map_toArray, List.map_cons, List.map_nil]); first | done | rfl) ?_
  with_reducible refine (C1.out _ (below_drew HB.out)).mono ?_
  rintro e w1 ⟨rfl, hs1⟩
  refine ⟨_, rfl, ?_⟩
  have hz1 := hs1.kp.blk (blk_drew HZ.out) (fun h => Nat.lt_irrefl _ (HF1.out _ h))
  refine hK.out _ _ ((blk_cell hz1 2)) (fun hHeld => ?_)
  clear hK K
  refine norm_ (a' := ?_) ?_ ?_
  rotate_left
  · show Act.put _ (some 31) _ = _
    simp only [Act.put, List.setIfInBounds_toArray, List.set_cons_zero, List.set_cons_succ, i64_w, i32_w]
    rfl
  refine one_ (i := 9) (N := some 36) #[true,true,true,true,true,true,true,true,true,true,false,false] rfl rfl (by kernel_rfl) (by decide) (fun K hK => ?_)
  refine goes_ Try.func121 (by kernel_rfl) rfl #[.pointer (some ⟨g2, 0, none⟩), .int .i64 ap, .int .u64 nn] (by rfl) rfl rfl (by (try simp only [List.map_toArray, List.map_cons, List.map_nil]); first | done | rfl) ?_
  with_reducible refine (C2.out _ (Pr.rm HD.out HRM.out (below_drew HB.out) hs1.kp (Below.refl _ _))).mono ?_
  rintro e w2 ⟨rfl, hs2⟩
  refine ⟨_, rfl, ?_⟩
  refine hK.out _ _ ((blk_cell (hs2.kp.blk hz1 (fun h => Nat.lt_irrefl _ (HF2.out _ h))) 2)) (fun hHeld => ?_)
  clear hK K
  refine norm_ (a' := ?_) ?_ ?_
  rotate_left
  · show Act.put _ (some 36) _ = _
    simp only [Act.put, List.setIfInBounds_toArray, List.set_cons_zero, List.set_cons_succ, i64_w, i32_w]
    rfl
  refine pure_ (i := 10) (N := some 37) (v := ?_) (a' := ?_) #[true,true,true,true,true,true,true,true,true,true,true,false] rfl rfl (by kernel_rfl) (fun _ _ _ h => h) (Or.inl ⟨by rfl, ?_⟩) ?_ ?_
  rotate_left
  · intro w'
    go_simp
    with_reducible rfl
  rotate_left
  · simp only [Act.put, List.setIfInBounds_toArray, List.set_cons_zero, List.set_cons_succ, i64_w, i32_w]
    rfl
  refine pure_ (i := 11) (N := some 6) (v := ?_) (a' := ?_) #[true,true,true,true,true,true,true,true,true,true,true,true] rfl rfl (by kernel_rfl) (fun _ _ _ h => h) (Or.inl ⟨by rfl, ?_⟩) ?_ ?_
  rotate_left
  · intro w'
    go_simp
    with_reducible rfl
  rotate_left
  · simp only [Act.put, List.setIfInBounds_toArray, List.set_cons_zero, List.set_cons_succ, i64_w, i32_w]
    rfl
  refine done_ (by kernel_rfl) ?_
  have HE := Aside0.mk (PrS.of (keep := kind ≠ 2 ∧ kind ≠ 3) HP.out (below_drew HB.out) hs1 (Below.refl _ _) hs2 HG2.out (fun _ => rfl))
  clear hs1 hs2 hz1 z0 z1 z2 z3 z4 z5 z6
  go_wp2_with fail
  go_ret
  exact ⟨rfl, HE.out⟩
set_option maxHeartbeats 8000000 in
set_option maxRecDepth 100000 in
theorem does_set (g1 b1 g2 b2 : Nat) (H : Hd) (lim : Int) (B Was ws : List Int) (m : Nat) (F1 F2 : Nat → Prop) (kind at_ nn kd : Int) (ws_ raw it : List Int) (A1 A2 A3 : Option Addr) (c1 c2 c3 : Nat) (w : World) (hP : Pr w g1 b1 g2 b2 H lim B Was ws m F1 F2) (base : Nat) (hb12 : base ≤ b1 ∧ base ≤ b2) (hA : AcR w base nn ws_ raw it A1 A2 A3 c1 c2 c3) (hm : m ≤ 1000) (a0 : -9223372036854775808 ≤ at_) (a1 : at_ ≤ 9223372036854775807) (hk : kind = 0) : Calls Try.prog 50 #[.pointer (some ⟨g1, 0, none⟩), .pointer (some ⟨g2, 0, none⟩), .agg #[.int .i64 0, .int .i64 at_, .int .u64 nn, .int .i64 kd, .slice A1 ws_.length c1, .slice A2 raw.length c2, .slice A3 it.length c3]] w fun e w' => e = .returned (.bool true) ∧ PrS w w' g1 b1 g2 b2 H lim Was m F1 F2 ((0 : Int) ≠ 2 ∧ (0 : Int) ≠ 3) := by
  subst hk
  obtain ⟨⟨vb, vw, hI⟩, ⟨xb, xa, xw, hR⟩, hd, hG⟩ := id hP
  obtain ⟨rr, iw, ib, ii, ⟨q1, q2, q3⟩, n0, n1⟩ := hA
  have HP := Aside0.mk hP
  have HI := Aside0.mk hI
  have HRM := Aside0.mk hR
  have HD := Aside0.mk hd
  have HG := Aside0.mk hG
  have HB := Aside0.mk (below_alloc (Below.refl w.heap.size w) (.cells #[.int .i64 0, .int .i64 at_, .int .u64 nn, .int .i64 kd, .slice A1 ws_.length c1, .slice A2 raw.length c2, .slice A3 it.length c3] 81))
  have HZ := Aside0.mk (blk_new w (.cells #[.int .i64 0, .int .i64 at_, .int .u64 nn, .int .i64 kd, .slice A1 ws_.length c1, .slice A2 raw.length c2, .slice A3 it.length c3] 81))
  have HF1 := Aside0.mk (fun k hk => hI.lt (k := k) hk)
  have HF2 := Aside0.mk (fun k hk => hR.lt (k := k) hk)
  have hBl : B.length ≤ 100000 := Nat.le_trans hG.2.1.2.2 (by decide)
  have hwl : ws.length ≤ 1000000 := Nat.le_trans hG.2.2.2.2.1 (Nat.le_trans hm (by decide))
  obtain ⟨cc, hcc⟩ : ∃ c, setC B at_ = c := ⟨_, rfl⟩
  have bcc : (cc == cc) = true := by simp
  have C1 := Aside0.mk (fun (w1 : World) (hb : Below w.heap.size w w1) => Set_any g1 b1 H B lim _ ws F1 vb vw w1 (hI.below hb) hG.1.1 hBl at_ nn n0 n1 hwl)
  have C2 := Aside0.mk (fun (w1 : World) (h : Rm w1 g2 b2 H B Was lim ws F2 xb xa xw) => RSet_any g2 b2 H B Was lim ws F2 xb xa xw w1 h hG.1.1 hBl _ rfl at_ nn n0 n1 hwl)
  rw [hcc] at C1 C2
  have HG2 := Aside0.mk (hG.set at_ nn)
  clear hP hI hR hd hG rr iw ib ii q1 q2 q3 n0 n1 hm hBl hwl hcc a0 a1
  go_enter Try.func50, Try.ntmps50
  go_upto_region 1 with fail
  obtain ⟨w0, hw0⟩ : ∃ w0, w.alloc (.cells #[.int .i64 0, .int .i64 at_, .int .u64 nn, .int .i64 kd, .slice A1 ws_.length c1, .slice A2 raw.length c2, .slice A3 it.length c3] 81) = w0 := ⟨_, rfl⟩
  rw [hw0] at HZ HB ⊢
  clear hw0
  have z0 : (w0).cell? ⟨w.heap.size, 0, none⟩ = some (.int .i64 0) := blk_cell HZ.out 0
  have z1 : (w0).cell? ⟨w.heap.size, 1, none⟩ = some (.int .i64 at_) := blk_cell HZ.out 1
  have z2 : (w0).cell? ⟨w.heap.size, 2, none⟩ = some (.int .u64 nn) := blk_cell HZ.out 2
  have z3 : (w0).cell? ⟨w.heap.size, 3, none⟩ = some (.int .i64 kd) := blk_cell HZ.out 3
  have z4 : (w0).cell? ⟨w.heap.size, 4, none⟩ = some (.slice A1 ws_.length c1) := blk_cell HZ.out 4
  have z5 : (w0).cell? ⟨w.heap.size, 5, none⟩ = some (.slice A2 raw.length c2) := blk_cell HZ.out 5
  have z6 : (w0).cell? ⟨w.heap.size, 6, none⟩ = some (.slice A3 it.length c3) := blk_cell HZ.out 6
  go_upto_region 5 with fail
  refine start_ (n := 14) (S := fun w' => w'.cell? ⟨w.heap.size, 1, none⟩ = some (.int .i64 at_) ∧ w'.cell? ⟨w.heap.size, 2, none⟩ = some (.int .u64 nn)) (ds := []) #[false,false,false,false,false,false,false,false,false,false,false,false,false,false] (by kernel_rfl) rfl rfl ⟨z1, z2⟩ (fun hHeld => ?_)
  refine pure_ (i := 0) (N := some 40) (v := ?_) (a' := ?_) #[true,false,false,false,false,false,false,false,false,false,false,false,false,false] rfl rfl (by kernel_rfl) (fun _ _ _ h => h) (Or.inl ⟨by rfl, ?_⟩) ?_ ?_
  rotate_left
  · intro w'
    go_simp
    with_reducible rfl
  rotate_left
  · simp only [Act.put, List.setIfInBounds_toArray, List.set_cons_zero, List.set_cons_succ, i64_w, i32_w]
    rfl
  refine pure_ (i := 1) (N := some 41) (v := ?_) (a' := ?_) #[true,true,false,false,false,false,false,false,false,false,false,false,false,false] rfl rfl (by kernel_rfl) (fun _ _ _ h => h) (Or.inl ⟨by rfl, ?_⟩) ?_ ?_
  rotate_left
  · intro w'
    go_simp
    with_reducible rfl
  rotate_left
  · simp only [Act.put, List.setIfInBounds_toArray, List.set_cons_zero, List.set_cons_succ, i64_w, i32_w]
    rfl
  refine pure_ (i := 3) (N := some 43) (v := ?_) (a' := ?_) #[true,true,false,true,false,false,false,false,false,false,false,false,false,false] rfl rfl (by kernel_rfl) (fun _ _ _ h => h) (Or.inl ⟨by rfl, ?_⟩) ?_ ?_
  rotate_left
  · intro w'
    go_simp
    with_reducible rfl
  rotate_left
  · simp only [Act.put, List.setIfInBounds_toArray, List.set_cons_zero, List.set_cons_succ, i64_w, i32_w]
    rfl
  refine pure_ (i := 6) (N := some 46) (v := ?_) (a' := ?_) #[true,true,false,true,false,false,true,false,false,false,false,false,false,false] rfl rfl (by kernel_rfl) (fun _ _ _ h => h) (Or.inl ⟨by rfl, ?_⟩) ?_ ?_
  rotate_left
  · intro w'
    go_simp
    with_reducible rfl
  rotate_left
  · simp only [Act.put, List.setIfInBounds_toArray, List.set_cons_zero, List.set_cons_succ, i64_w, i32_w]
    rfl
  refine pure_ (i := 7) (N := some 47) (v := ?_) (a' := ?_) #[true,true,false,true,false,false,true,true,false,false,false,false,false,false] rfl rfl (by kernel_rfl) (fun _ _ _ h => h) (Or.inl ⟨by rfl, ?_⟩) ?_ ?_
  rotate_left
  · intro w'
    go_simp
    with_reducible rfl
  rotate_left
  · simp only [Act.put, List.setIfInBounds_toArray, List.set_cons_zero, List.set_cons_succ, i64_w, i32_w]
    rfl
  refine pure_ (i := 9) (N := some 49) (v := ?_) (a' := ?_) #[true,true,false,true,false,false,true,true,false,true,false,false,false,false] rfl rfl (by kernel_rfl) (fun _ _ _ h => h) (Or.inl ⟨by rfl, ?_⟩) ?_ ?_
  rotate_left
  · intro w'
    go_simp
    with_reducible rfl
  rotate_left
  · simp only [Act.put, List.setIfInBounds_toArray, List.set_cons_zero, List.set_cons_succ, i64_w, i32_w]
    rfl
  refine take_ (i := 2) (N := some 42) (v := ?_) (a' := ?_) #[true,true,true,true,false,false,true,true,false,true,false,false,false,false] rfl rfl (by kernel_rfl) (fun _ _ _ h => h) (Or.inl ⟨by rfl, ?_⟩) hHeld ?_ ?_
  rotate_left
  · rintro w' ⟨s0, s1⟩
    go_simp
    with_reducible rfl
  rotate_left
  · simp only [Act.put, List.setIfInBounds_toArray, List.set_cons_zero, List.set_cons_succ, i64_w, i32_w]
    rfl
  refine take_ (i := 4) (N := some 44) (v := ?_) (a' := ?_) #[true,true,true,true,true,false,true,true,false,true,false,false,false,false] rfl rfl (by kernel_rfl) (fun _ _ _ h => h) (Or.inl ⟨by rfl, ?_⟩) hHeld ?_ ?_
  rotate_left
  · rintro w' ⟨s0, s1⟩
    go_simp
    with_reducible rfl
  rotate_left
  · simp only [Act.put, List.setIfInBounds_toArray, List.set_cons_zero, List.set_cons_succ, i64_w, i32_w]
    rfl
  refine take_ (i := 8) (N := some 48) (v := ?_) (a' := ?_) #[true,true,true,true,true,false,true,true,true,true,false,false,false,false] rfl rfl (by kernel_rfl) (fun _ _ _ h => h) (Or.inl ⟨by rfl, ?_⟩) hHeld ?_ ?_
  rotate_left
  · rintro w' ⟨s0, s1⟩
    go_simp
    with_reducible rfl
  rotate_left
  · simp only [Act.put, List.setIfInBounds_toArray, List.set_cons_zero, List.set_cons_succ, i64_w, i32_w]
    rfl
  refine take_ (i := 10) (N := some 50) (v := ?_) (a' := ?_) #[true,true,true,true,true,false,true,true,true,true,true,false,false,false] rfl rfl (by kernel_rfl) (fun _ _ _ h => h) (Or.inl ⟨by rfl, ?_⟩) hHeld ?_ ?_
  rotate_left
  · rintro w' ⟨s0, s1⟩
    go_simp
    with_reducible rfl
  rotate_left
  · simp only [Act.put, List.setIfInBounds_toArray, List.set_cons_zero, List.set_cons_succ, i64_w, i32_w]
    rfl
  refine one_ (i := 5) (N := some 45) #[true,true,true,true,true,true,true,true,true,true,true,false,false,false] rfl rfl (by kernel_rfl) (by decide) (fun K hK => ?_)
  refine goes_ Try.func42 (by kernel_rfl) rfl #[.pointer (some ⟨g1, 0, none⟩), .int .i64 at_, .int .u64 nn] (by rfl) rfl rfl (by (try simp only [List.map_toArray, List.map_cons, List.map_nil]); first | done | rfl) ?_
  with_reducible refine (C1.out _ (below_drew HB.out)).mono ?_
  rintro e w1 ⟨rfl, hs1⟩
  refine ⟨_, rfl, ?_⟩
  have hz1 := hs1.kp.blk (blk_drew HZ.out) (fun h => Nat.lt_irrefl _ (HF1.out _ h))
  refine hK.out _ _ ⟨(blk_cell hz1 1), (blk_cell hz1 2)⟩ (fun hHeld => ?_)
  clear hK K
  refine norm_ (a' := ?_) ?_ ?_
  rotate_left
  · show Act.put _ (some 45) _ = _
    simp only [Act.put, List.setIfInBounds_toArray, List.set_cons_zero, List.set_cons_succ, i64_w, i32_w]
    rfl
  refine one_ (i := 11) (N := some 51) #[true,true,true,true,true,true,true,true,true,true,true,true,false,false] rfl rfl (by kernel_rfl) (by decide) (fun K hK => ?_)
  refine goes_ Try.func121 (by kernel_rfl) rfl #[.pointer (some ⟨g2, 0, none⟩), .int .i64 at_, .int .u64 nn] (by rfl) rfl rfl (by (try simp only [List.map_toArray, List.map_cons, List.map_nil]); first | done | rfl) ?_
  with_reducible refine (C2.out _ (Pr.rm HD.out HRM.out (below_drew HB.out) hs1.kp (Below.refl _ _))).mono ?_
  rintro e w2 ⟨rfl, hs2⟩
  refine ⟨_, rfl, ?_⟩
  refine hK.out _ _ ⟨(blk_cell (hs2.kp.blk hz1 (fun h => Nat.lt_irrefl _ (HF2.out _ h))) 1), (blk_cell (hs2.kp.blk hz1 (fun h => Nat.lt_irrefl _ (HF2.out _ h))) 2)⟩ (fun hHeld => ?_)
  clear hK K
  refine norm_ (a' := ?_) ?_ ?_
  rotate_left
  · show Act.put _ (some 51) _ = _
    simp only [Act.put, List.setIfInBounds_toArray, List.set_cons_zero, List.set_cons_succ, i64_w, i32_w]
    rfl
  refine pure_ (i := 12) (N := some 52) (v := ?_) (a' := ?_) #[true,true,true,true,true,true,true,true,true,true,true,true,true,false] rfl rfl (by kernel_rfl) (fun _ _ _ h => h) (Or.inl ⟨by rfl, ?_⟩) ?_ ?_
  rotate_left
  · intro w'
    go_simp
    with_reducible rfl
  rotate_left
  · simp only [Act.put, List.setIfInBounds_toArray, List.set_cons_zero, List.set_cons_succ, i64_w, i32_w]
    rfl
  refine pure_ (i := 13) (N := some 6) (v := ?_) (a' := ?_) #[true,true,true,true,true,true,true,true,true,true,true,true,true,true] rfl rfl (by kernel_rfl) (fun _ _ _ h => h) (Or.inl ⟨by rfl, ?_⟩) ?_ ?_
  rotate_left
  · intro w'
    go_simp
    with_reducible rfl
  rotate_left
  · simp only [Act.put, List.setIfInBounds_toArray, List.set_cons_zero, List.set_cons_succ, i64_w, i32_w]
    rfl
  refine done_ (by kernel_rfl) ?_
  have HE := Aside0.mk (PrS.of (keep := (0 : Int) ≠ 2 ∧ (0 : Int) ≠ 3) HP.out (below_drew HB.out) hs1 (Below.refl _ _) hs2 HG2.out (fun _ => rfl))
  clear hs1 hs2 hz1 z0 z1 z2 z3 z4 z5 z6
  go_wp2_with fail
  go_ret
  exact ⟨rfl, HE.out⟩
set_option maxHeartbeats 8000000 in
set_option maxRecDepth 100000 in
theorem does_put (g1 b1 g2 b2 : Nat) (H : Hd) (lim : Int) (B Was ws : List Int) (m : Nat) (F1 F2 : Nat → Prop) (kind at_ nn kd : Int) (ws_ raw it : List Int) (A1 A2 A3 : Option Addr) (c1 c2 c3 : Nat) (w : World) (hP : Pr w g1 b1 g2 b2 H lim B Was ws m F1 F2) (base : Nat) (hb12 : base ≤ b1 ∧ base ≤ b2) (hA : AcR w base nn ws_ raw it A1 A2 A3 c1 c2 c3) (hm : m ≤ 1000) (a0 : -9223372036854775808 ≤ at_) (a1 : at_ ≤ 9223372036854775807) (hk : kind = 1) : Calls Try.prog 50 #[.pointer (some ⟨g1, 0, none⟩), .pointer (some ⟨g2, 0, none⟩), .agg #[.int .i64 1, .int .i64 at_, .int .u64 nn, .int .i64 kd, .slice A1 ws_.length c1, .slice A2 raw.length c2, .slice A3 it.length c3]] w fun e w' => e = .returned (.bool true) ∧ PrS w w' g1 b1 g2 b2 H lim Was m F1 F2 ((1 : Int) ≠ 2 ∧ (1 : Int) ≠ 3) := by
  subst hk
  obtain ⟨⟨vb, vw, hI⟩, ⟨xb, xa, xw, hR⟩, hd, hG⟩ := id hP
  obtain ⟨rr, iw, ib, ii, ⟨q1, q2, q3⟩, n0, n1⟩ := hA
  have HP := Aside0.mk hP
  have HI := Aside0.mk hI
  have HRM := Aside0.mk hR
  have HD := Aside0.mk hd
  have HG := Aside0.mk hG
  have HB := Aside0.mk (below_alloc (Below.refl w.heap.size w) (.cells #[.int .i64 1, .int .i64 at_, .int .u64 nn, .int .i64 kd, .slice A1 ws_.length c1, .slice A2 raw.length c2, .slice A3 it.length c3] 81))
  have HZ := Aside0.mk (blk_new w (.cells #[.int .i64 1, .int .i64 at_, .int .u64 nn, .int .i64 kd, .slice A1 ws_.length c1, .slice A2 raw.length c2, .slice A3 it.length c3] 81))
  have HF1 := Aside0.mk (fun k hk => hI.lt (k := k) hk)
  have HF2 := Aside0.mk (fun k hk => hR.lt (k := k) hk)
  have hBl : B.length ≤ 100000 := Nat.le_trans hG.2.1.2.2 (by decide)
  have hwl : ws.length ≤ 1000000 := Nat.le_trans hG.2.2.2.2.1 (Nat.le_trans hm (by decide))
  obtain ⟨pc, hpc⟩ : ∃ c, putC B lim kd ws_ raw it = c := ⟨_, rfl⟩
  obtain ⟨pa, hpa⟩ : ∃ c, putA B lim kd ws_ raw it = c := ⟨_, rfl⟩
  have bpc : (pc == pc) = true := by simp
  have bpa : (pa == pa) = true := by simp
  have hlm : 0 ≤ lim ∧ lim ≤ 1048576 := by have := hG.2.2.2.2.2.2; omega
  have hbs : base ≤ w.heap.size := Nat.le_trans hb12.1 hI.bs
  have hfb : ∀ k, F1 k → base ≤ k := fun k hk => Nat.le_trans hb12.1 (hI.ge hk)
  have HBW := Aside0.mk (fun (w0 w1 : World) (hb0 : Below w.heap.size w w0) (hk1 : Kp F1 w0 w1) => (below_kp (hb0.mono hbs) hk1 hbs hfb : Below base w w1))
  have C1 := Aside0.mk (fun (w1 : World) (hb : Below w.heap.size w w1) => Put_any g1 b1 H B lim _ ws F1 vb vw w1 (hI.below hb) hBl hlm kd ws_ raw it A1 A2 A3 c1 c2 c3 (rr w1 (hb.mono hbs)).1 (rr w1 (hb.mono hbs)).2.1 (rr w1 (hb.mono hbs)).2.2 iw ib ii (by omega) (by omega) (by omega))
  have C2 := Aside0.mk (fun (w1 : World) (h : Rm w1 g2 b2 H B Was lim ws F2 xb xa xw) (hb : Below base w w1) => RPut_any g2 b2 H B Was lim ws F2 xb xa xw w1 h hBl hlm kd ws_ raw it A1 A2 A3 c1 c2 c3 (rr w1 hb).1 (rr w1 hb).2.1 (rr w1 hb).2.2 iw ib ii (by omega) (by omega) (by omega))
  rw [hpc, hpa] at C1 C2
  clear hpc hpa hlm hbs hfb
  have HG2 := Aside0.mk (hG.put kd ws_ raw it ib)
  clear hP hI hR hd hG rr iw ib ii q1 q2 q3 n0 n1 hm hBl hwl a0 a1
  go_enter Try.func50, Try.ntmps50
  go_upto_region 1 with fail
  obtain ⟨w0, hw0⟩ : ∃ w0, w.alloc (.cells #[.int .i64 1, .int .i64 at_, .int .u64 nn, .int .i64 kd, .slice A1 ws_.length c1, .slice A2 raw.length c2, .slice A3 it.length c3] 81) = w0 := ⟨_, rfl⟩
  rw [hw0] at HZ HB ⊢
  clear hw0
  have z0 : (w0).cell? ⟨w.heap.size, 0, none⟩ = some (.int .i64 1) := blk_cell HZ.out 0
  have z1 : (w0).cell? ⟨w.heap.size, 1, none⟩ = some (.int .i64 at_) := blk_cell HZ.out 1
  have z2 : (w0).cell? ⟨w.heap.size, 2, none⟩ = some (.int .u64 nn) := blk_cell HZ.out 2
  have z3 : (w0).cell? ⟨w.heap.size, 3, none⟩ = some (.int .i64 kd) := blk_cell HZ.out 3
  have z4 : (w0).cell? ⟨w.heap.size, 4, none⟩ = some (.slice A1 ws_.length c1) := blk_cell HZ.out 4
  have z5 : (w0).cell? ⟨w.heap.size, 5, none⟩ = some (.slice A2 raw.length c2) := blk_cell HZ.out 5
  have z6 : (w0).cell? ⟨w.heap.size, 6, none⟩ = some (.slice A3 it.length c3) := blk_cell HZ.out 6
  go_wp2_with fail
  refine (C1.out _ HB.out).mono ?_
  rintro e w1 ⟨rfl, hs1⟩
  have HS1 := Aside0.mk hs1
  have HZ1 := Aside0.mk (hs1.kp.blk HZ.out (fun h => Nat.lt_irrefl _ (HF1.out _ h)))
  clear hs1 z0 z1 z2 z3 z4 z5 z6
  have z0 : (w1).cell? ⟨w.heap.size, 0, none⟩ = some (.int .i64 1) := blk_cell HZ1.out 0
  have z1 : (w1).cell? ⟨w.heap.size, 1, none⟩ = some (.int .i64 at_) := blk_cell HZ1.out 1
  have z2 : (w1).cell? ⟨w.heap.size, 2, none⟩ = some (.int .u64 nn) := blk_cell HZ1.out 2
  have z3 : (w1).cell? ⟨w.heap.size, 3, none⟩ = some (.int .i64 kd) := blk_cell HZ1.out 3
  have z4 : (w1).cell? ⟨w.heap.size, 4, none⟩ = some (.slice A1 ws_.length c1) := blk_cell HZ1.out 4
  have z5 : (w1).cell? ⟨w.heap.size, 5, none⟩ = some (.slice A2 raw.length c2) := blk_cell HZ1.out 5
  have z6 : (w1).cell? ⟨w.heap.size, 6, none⟩ = some (.slice A3 it.length c3) := blk_cell HZ1.out 6
  go_wp2_with fail
  refine (C2.out _ (Pr.rm HD.out HRM.out HB.out HS1.out.kp (Below.refl _ _)) (HBW.out _ _ HB.out HS1.out.kp)).mono ?_
  rintro e w2 ⟨rfl, hs2⟩
  have HE := Aside0.mk (PrS.of (keep := (1 : Int) ≠ 2 ∧ (1 : Int) ≠ 3) HP.out HB.out HS1.out (Below.refl _ _) hs2 HG2.out (fun _ => rfl))
  clear hs2 z0 z1 z2 z3 z4 z5 z6
  go_wp2_with fail
  go_ret
  exact ⟨rfl, HE.out⟩
set_option maxHeartbeats 8000000 in
set_option maxRecDepth 100000 in
theorem does_done (g1 b1 g2 b2 : Nat) (H : Hd) (lim : Int) (B Was ws : List Int) (m : Nat) (F1 F2 : Nat → Prop) (kind at_ nn kd : Int) (ws_ raw it : List Int) (A1 A2 A3 : Option Addr) (c1 c2 c3 : Nat) (w : World) (hP : Pr w g1 b1 g2 b2 H lim B Was ws m F1 F2) (base : Nat) (hb12 : base ≤ b1 ∧ base ≤ b2) (hA : AcR w base nn ws_ raw it A1 A2 A3 c1 c2 c3) (hm : m ≤ 1000) (a0 : -9223372036854775808 ≤ at_) (a1 : at_ ≤ 9223372036854775807) (hk : kind = 2) : Calls Try.prog 50 #[.pointer (some ⟨g1, 0, none⟩), .pointer (some ⟨g2, 0, none⟩), .agg #[.int .i64 2, .int .i64 at_, .int .u64 nn, .int .i64 kd, .slice A1 ws_.length c1, .slice A2 raw.length c2, .slice A3 it.length c3]] w fun e w' => e = .returned (.bool true) ∧ PrS w w' g1 b1 g2 b2 H lim Was m F1 F2 ((2 : Int) ≠ 2 ∧ (2 : Int) ≠ 3) := by
  subst hk
  obtain ⟨⟨vb, vw, hI⟩, ⟨xb, xa, xw, hR⟩, hd, hG⟩ := id hP
  obtain ⟨rr, iw, ib, ii, ⟨q1, q2, q3⟩, n0, n1⟩ := hA
  have HP := Aside0.mk hP
  have HI := Aside0.mk hI
  have HRM := Aside0.mk hR
  have HD := Aside0.mk hd
  have HG := Aside0.mk hG
  have HB := Aside0.mk (below_alloc (Below.refl w.heap.size w) (.cells #[.int .i64 2, .int .i64 at_, .int .u64 nn, .int .i64 kd, .slice A1 ws_.length c1, .slice A2 raw.length c2, .slice A3 it.length c3] 81))
  have HZ := Aside0.mk (blk_new w (.cells #[.int .i64 2, .int .i64 at_, .int .u64 nn, .int .i64 kd, .slice A1 ws_.length c1, .slice A2 raw.length c2, .slice A3 it.length c3] 81))
  have HF1 := Aside0.mk (fun k hk => hI.lt (k := k) hk)
  have HF2 := Aside0.mk (fun k hk => hR.lt (k := k) hk)
  have hBl : B.length ≤ 100000 := Nat.le_trans hG.2.1.2.2 (by decide)
  have hwl : ws.length ≤ 1000000 := Nat.le_trans hG.2.2.2.2.1 (Nat.le_trans hm (by decide))
  have C1 := Aside0.mk (fun (w1 : World) (hb : Below w.heap.size w w1) => Done_calls g1 b1 H B lim _ ws F1 vb vw w1 (hI.below hb) _ rfl)
  have C2 := Aside0.mk (fun (w1 : World) (h : Rm w1 g2 b2 H B Was lim ws F2 xb xa xw) => RDone_calls g2 b2 H B Was lim ws F2 xb xa xw w1 h _ rfl (Nat.le_trans hBl (by decide)))
  have HG2 := Aside0.mk (hG.done)
  clear hP hI hR hd hG rr iw ib ii q1 q2 q3 n0 n1 hm hBl hwl a0 a1
  go_enter Try.func50, Try.ntmps50
  go_upto_region 1 with fail
  obtain ⟨w0, hw0⟩ : ∃ w0, w.alloc (.cells #[.int .i64 2, .int .i64 at_, .int .u64 nn, .int .i64 kd, .slice A1 ws_.length c1, .slice A2 raw.length c2, .slice A3 it.length c3] 81) = w0 := ⟨_, rfl⟩
  rw [hw0] at HZ HB ⊢
  clear hw0
  have z0 : (w0).cell? ⟨w.heap.size, 0, none⟩ = some (.int .i64 2) := blk_cell HZ.out 0
  have z1 : (w0).cell? ⟨w.heap.size, 1, none⟩ = some (.int .i64 at_) := blk_cell HZ.out 1
  have z2 : (w0).cell? ⟨w.heap.size, 2, none⟩ = some (.int .u64 nn) := blk_cell HZ.out 2
  have z3 : (w0).cell? ⟨w.heap.size, 3, none⟩ = some (.int .i64 kd) := blk_cell HZ.out 3
  have z4 : (w0).cell? ⟨w.heap.size, 4, none⟩ = some (.slice A1 ws_.length c1) := blk_cell HZ.out 4
  have z5 : (w0).cell? ⟨w.heap.size, 5, none⟩ = some (.slice A2 raw.length c2) := blk_cell HZ.out 5
  have z6 : (w0).cell? ⟨w.heap.size, 6, none⟩ = some (.slice A3 it.length c3) := blk_cell HZ.out 6
  go_wp2_with fail
  refine (C1.out _ HB.out).mono ?_
  rintro e w1 ⟨rfl, hs1⟩
  have HS1 := Aside0.mk hs1
  have HZ1 := Aside0.mk (hs1.kp.blk HZ.out (fun h => Nat.lt_irrefl _ (HF1.out _ h)))
  clear hs1 z0 z1 z2 z3 z4 z5 z6
  have z0 : (w1).cell? ⟨w.heap.size, 0, none⟩ = some (.int .i64 2) := blk_cell HZ1.out 0
  have z1 : (w1).cell? ⟨w.heap.size, 1, none⟩ = some (.int .i64 at_) := blk_cell HZ1.out 1
  have z2 : (w1).cell? ⟨w.heap.size, 2, none⟩ = some (.int .u64 nn) := blk_cell HZ1.out 2
  have z3 : (w1).cell? ⟨w.heap.size, 3, none⟩ = some (.int .i64 kd) := blk_cell HZ1.out 3
  have z4 : (w1).cell? ⟨w.heap.size, 4, none⟩ = some (.slice A1 ws_.length c1) := blk_cell HZ1.out 4
  have z5 : (w1).cell? ⟨w.heap.size, 5, none⟩ = some (.slice A2 raw.length c2) := blk_cell HZ1.out 5
  have z6 : (w1).cell? ⟨w.heap.size, 6, none⟩ = some (.slice A3 it.length c3) := blk_cell HZ1.out 6
  go_wp2_with fail
  refine (C2.out _ (Pr.rm HD.out HRM.out HB.out HS1.out.kp (Below.refl _ _))).mono ?_
  rintro e w2 ⟨rfl, hs2⟩
  have HE := Aside0.mk (PrS.of (keep := (2 : Int) ≠ 2 ∧ (2 : Int) ≠ 3) HP.out HB.out HS1.out (Below.refl _ _) hs2 HG2.out (fun h => absurd rfl h.1))
  clear hs2 z0 z1 z2 z3 z4 z5 z6
  go_wp2_with fail
  go_ret
  exact ⟨rfl, HE.out⟩
set_option maxHeartbeats 8000000 in
set_option maxRecDepth 100000 in
theorem does_back (g1 b1 g2 b2 : Nat) (H : Hd) (lim : Int) (B Was ws : List Int) (m : Nat) (F1 F2 : Nat → Prop) (kind at_ nn kd : Int) (ws_ raw it : List Int) (A1 A2 A3 : Option Addr) (c1 c2 c3 : Nat) (w : World) (hP : Pr w g1 b1 g2 b2 H lim B Was ws m F1 F2) (base : Nat) (hb12 : base ≤ b1 ∧ base ≤ b2) (hA : AcR w base nn ws_ raw it A1 A2 A3 c1 c2 c3) (hm : m ≤ 1000) (a0 : -9223372036854775808 ≤ at_) (a1 : at_ ≤ 9223372036854775807) (hk : kind = 3) : Calls Try.prog 50 #[.pointer (some ⟨g1, 0, none⟩), .pointer (some ⟨g2, 0, none⟩), .agg #[.int .i64 3, .int .i64 at_, .int .u64 nn, .int .i64 kd, .slice A1 ws_.length c1, .slice A2 raw.length c2, .slice A3 it.length c3]] w fun e w' => e = .returned (.bool true) ∧ PrS w w' g1 b1 g2 b2 H lim Was m F1 F2 ((3 : Int) ≠ 2 ∧ (3 : Int) ≠ 3) := by
  subst hk
  obtain ⟨⟨vb, vw, hI⟩, ⟨xb, xa, xw, hR⟩, hd, hG⟩ := id hP
  obtain ⟨rr, iw, ib, ii, ⟨q1, q2, q3⟩, n0, n1⟩ := hA
  have HP := Aside0.mk hP
  have HI := Aside0.mk hI
  have HRM := Aside0.mk hR
  have HD := Aside0.mk hd
  have HG := Aside0.mk hG
  have HB := Aside0.mk (below_alloc (Below.refl w.heap.size w) (.cells #[.int .i64 3, .int .i64 at_, .int .u64 nn, .int .i64 kd, .slice A1 ws_.length c1, .slice A2 raw.length c2, .slice A3 it.length c3] 81))
  have HZ := Aside0.mk (blk_new w (.cells #[.int .i64 3, .int .i64 at_, .int .u64 nn, .int .i64 kd, .slice A1 ws_.length c1, .slice A2 raw.length c2, .slice A3 it.length c3] 81))
  have HF1 := Aside0.mk (fun k hk => hI.lt (k := k) hk)
  have HF2 := Aside0.mk (fun k hk => hR.lt (k := k) hk)
  have hBl : B.length ≤ 100000 := Nat.le_trans hG.2.1.2.2 (by decide)
  have hwl : ws.length ≤ 1000000 := Nat.le_trans hG.2.2.2.2.1 (Nat.le_trans hm (by decide))
  have hzz := hG.2.2.2.2.2.1
  have C1 := Aside0.mk (fun (w1 : World) (hb : Below w.heap.size w w1) => Back_calls g1 b1 H B lim _ ws F1 vb vw w1 (hI.below hb) _ rfl hBl Was.length rfl hG.2.1.2.1 (fun x hx => by have := hG.2.2.2.1 x hx; have := hG.2.1.2.1; omega) hwl (by have := hG.2.1; omega))
  rw [hzz] at C1
  have C2 := Aside0.mk (fun (w1 : World) (h : Rm w1 g2 b2 H B Was lim ws F2 xb xa xw) => RBack_calls g2 b2 H B Was lim ws F2 xb xa xw w1 h _ rfl (Nat.le_trans (Nat.le_trans hG.2.1.2.1 hBl) (by decide)))
  clear hzz
  have HG2 := Aside0.mk (hG.back)
  clear hP hI hR hd hG rr iw ib ii q1 q2 q3 n0 n1 hm hBl hwl a0 a1
  go_enter Try.func50, Try.ntmps50
  go_upto_region 1 with fail
  obtain ⟨w0, hw0⟩ : ∃ w0, w.alloc (.cells #[.int .i64 3, .int .i64 at_, .int .u64 nn, .int .i64 kd, .slice A1 ws_.length c1, .slice A2 raw.length c2, .slice A3 it.length c3] 81) = w0 := ⟨_, rfl⟩
  rw [hw0] at HZ HB ⊢
  clear hw0
  have z0 : (w0).cell? ⟨w.heap.size, 0, none⟩ = some (.int .i64 3) := blk_cell HZ.out 0
  have z1 : (w0).cell? ⟨w.heap.size, 1, none⟩ = some (.int .i64 at_) := blk_cell HZ.out 1
  have z2 : (w0).cell? ⟨w.heap.size, 2, none⟩ = some (.int .u64 nn) := blk_cell HZ.out 2
  have z3 : (w0).cell? ⟨w.heap.size, 3, none⟩ = some (.int .i64 kd) := blk_cell HZ.out 3
  have z4 : (w0).cell? ⟨w.heap.size, 4, none⟩ = some (.slice A1 ws_.length c1) := blk_cell HZ.out 4
  have z5 : (w0).cell? ⟨w.heap.size, 5, none⟩ = some (.slice A2 raw.length c2) := blk_cell HZ.out 5
  have z6 : (w0).cell? ⟨w.heap.size, 6, none⟩ = some (.slice A3 it.length c3) := blk_cell HZ.out 6
  go_wp2_with fail
  refine (C1.out _ HB.out).mono ?_
  rintro e w1 ⟨rfl, hs1⟩
  have HS1 := Aside0.mk hs1
  have HZ1 := Aside0.mk (hs1.kp.blk HZ.out (fun h => Nat.lt_irrefl _ (HF1.out _ h)))
  clear hs1 z0 z1 z2 z3 z4 z5 z6
  have z0 : (w1).cell? ⟨w.heap.size, 0, none⟩ = some (.int .i64 3) := blk_cell HZ1.out 0
  have z1 : (w1).cell? ⟨w.heap.size, 1, none⟩ = some (.int .i64 at_) := blk_cell HZ1.out 1
  have z2 : (w1).cell? ⟨w.heap.size, 2, none⟩ = some (.int .u64 nn) := blk_cell HZ1.out 2
  have z3 : (w1).cell? ⟨w.heap.size, 3, none⟩ = some (.int .i64 kd) := blk_cell HZ1.out 3
  have z4 : (w1).cell? ⟨w.heap.size, 4, none⟩ = some (.slice A1 ws_.length c1) := blk_cell HZ1.out 4
  have z5 : (w1).cell? ⟨w.heap.size, 5, none⟩ = some (.slice A2 raw.length c2) := blk_cell HZ1.out 5
  have z6 : (w1).cell? ⟨w.heap.size, 6, none⟩ = some (.slice A3 it.length c3) := blk_cell HZ1.out 6
  go_wp2_with fail
  refine (C2.out _ (Pr.rm HD.out HRM.out HB.out HS1.out.kp (Below.refl _ _))).mono ?_
  rintro e w2 ⟨rfl, hs2⟩
  have HE := Aside0.mk (PrS.of (keep := (3 : Int) ≠ 2 ∧ (3 : Int) ≠ 3) HP.out HB.out HS1.out (Below.refl _ _) hs2 HG2.out (fun h => absurd rfl h.2))
  clear hs2 z0 z1 z2 z3 z4 z5 z6
  go_wp2_with fail
  go_ret
  exact ⟨rfl, HE.out⟩
theorem does_calls (g1 b1 g2 b2 : Nat) (H : Hd) (lim : Int) (B Was ws : List Int) (m : Nat) (F1 F2 : Nat → Prop) (kind at_ nn kd : Int) (ws_ raw it : List Int) (A1 A2 A3 : Option Addr) (c1 c2 c3 : Nat) (w : World) (hP : Pr w g1 b1 g2 b2 H lim B Was ws m F1 F2) (base : Nat) (hb12 : base ≤ b1 ∧ base ≤ b2) (hA : AcR w base nn ws_ raw it A1 A2 A3 c1 c2 c3) (hm : m ≤ 1000) (a0 : -9223372036854775808 ≤ at_) (a1 : at_ ≤ 9223372036854775807) : Calls Try.prog 50 #[.pointer (some ⟨g1, 0, none⟩), .pointer (some ⟨g2, 0, none⟩), .agg #[.int .i64 kind, .int .i64 at_, .int .u64 nn, .int .i64 kd, .slice A1 ws_.length c1, .slice A2 raw.length c2, .slice A3 it.length c3]] w fun e w' => e = .returned (.bool true) ∧ PrS w w' g1 b1 g2 b2 H lim Was m F1 F2 (kind ≠ 2 ∧ kind ≠ 3) := by
  by_cases h0 : kind = 0
  · subst h0; exact does_set g1 b1 g2 b2 H lim B Was ws m F1 F2 0 at_ nn kd ws_ raw it A1 A2 A3 c1 c2 c3 w hP base hb12 hA hm a0 a1 rfl
  by_cases h1 : kind = 1
  · subst h1; exact does_put g1 b1 g2 b2 H lim B Was ws m F1 F2 1 at_ nn kd ws_ raw it A1 A2 A3 c1 c2 c3 w hP base hb12 hA hm a0 a1 rfl
  by_cases h2 : kind = 2
  · subst h2; exact does_done g1 b1 g2 b2 H lim B Was ws m F1 F2 2 at_ nn kd ws_ raw it A1 A2 A3 c1 c2 c3 w hP base hb12 hA hm a0 a1 rfl
  by_cases h3 : kind = 3
  · subst h3; exact does_back g1 b1 g2 b2 H lim B Was ws m F1 F2 3 at_ nn kd ws_ raw it A1 A2 A3 c1 c2 c3 w hP base hb12 hA hm a0 a1 rfl
  exact does_else g1 b1 g2 b2 H lim B Was ws m F1 F2 kind at_ nn kd ws_ raw it A1 A2 A3 c1 c2 c3 w hP base hb12 hA hm a0 a1 h0 h1 h2 h3
end Go.Proofs.Ytigdchfjcfljjaa
end
section
/- Arguments laid open: slices of numbers, of structs; a list out of what each element reads as. -/
namespace Go.Proofs.Ytigdchfjcfljjaa
open Go.RowKit Go.ChangeShapes Go.WideShapes Go.Deep Go.Proofs.YtigdchfjcfljjaaW.PrintWords
section
variable {H : Type} {enc : TypeId × Value → H} {P : Program} {w : World} {base : Nat} {held : Bool}
/-- A slice of numbers. -/
theorem open_rd {t e : TypeId} {k : IntKind} {fuel : Nat} {v : Value} {x : DataW H × List MemPlace} (ht : P.underlying t = some (.slice e)) (he : P.underlying e = some (.int k)) (hc : P.cellsOf e = 1)
    (h : DataW.trod enc P w base (fun _ => true) held fuel t [v] = some x) : ∃ xs : List Int, Rd w k v xs ∧ ∀ n ∈ xs, (Lit.int k n).wf = true := by
  rcases open_ints ht he hc h with ⟨hcs, _⟩ | ⟨a, len, cap, zs, hcs, _, hl, hm, hz, _, hcell, hwz⟩
  · simp only [List.cons.injEq, and_true] at hcs
    subst hcs
    exact ⟨[], Rd.nil w k, fun n hn => by simp at hn⟩
  · simp only [List.cons.injEq, and_true] at hcs
    subst hcs
    obtain ⟨l, rfl, hr, _, hw, hc2⟩ := ReadsInt.ofRowC (k := k) (w := w) (a := some a) (len := len) (cap := cap) (zs := zs) (.inr ⟨a, rfl, hl, hm, by simpa using hz, hcell, hwz⟩)
    exact ⟨l, ⟨_, _, rfl, hc2, hr⟩, hw⟩
end
/-- A list out of what each place holds. -/
theorem list_of {α : Type} (Q : Nat → α → Prop) : ∀ n, (∀ i, i < n → ∃ x, Q i x) → ∃ l : List α, l.length = n ∧ ∀ (i : Nat) (x : α), l[i]? = some x → Q i x
  | 0, _ => ⟨[], rfl, fun i x h => by simp at h⟩
  | n + 1, h => by
    obtain ⟨l, hl, hq⟩ := list_of Q n (fun i hi => h i (by omega))
    obtain ⟨x, hx⟩ := h n (by omega)
    refine ⟨l ++ [x], by simp [hl], fun i y hy => ?_⟩
    rcases Nat.lt_or_ge i n with hlt | hge
    · rw [List.getElem?_append_left (by omega)] at hy
      exact hq i y hy
    · rw [List.getElem?_append_right (by omega)] at hy
      have : i = n := by
        rcases Nat.lt_or_ge (i - l.length) 1 with h1 | h1
        · omega
        · rw [List.getElem?_eq_none (by simpa using h1)] at hy; simp at hy
      subst this
      simp [hl] at hy
      subst hy
      exact hx
end Go.Proofs.Ytigdchfjcfljjaa
end
section
/- Images: the acts of a law's argument, laid open; one act's turn of the laws' loops. -/
namespace Go.Proofs.Ytigdchfjcfljjaa
open Go.RowKit Go.ChangeShapes Go.WideShapes Go.Deep Go.Proofs.YtigdchfjcfljjaaW.PrintWords
/-- An act, as it stands in a law's argument. -/
structure Ac where
  kind : Int
  at_ : Int
  nn : Int
  kd : Int
  ws_ : List Int
  raw : List Int
  it : List Int
  A1 : Option Addr
  A2 : Option Addr
  A3 : Option Addr
  c1 : Nat
  c2 : Nat
  c3 : Nat
structure AcAt (w : World) (ad : Addr) (i : Nat) (x : Ac) : Prop where
  c0 : w.cell? (ad.add (i * 7)) = some (.int .i64 x.kind)
  c1 : w.cell? ⟨(ad.add (i * 7)).block, (ad.add (i * 7)).off + 1, none⟩ = some (.int .i64 x.at_)
  c2 : w.cell? ⟨(ad.add (i * 7)).block, (ad.add (i * 7)).off + 2, none⟩ = some (.int .u64 x.nn)
  c3 : w.cell? ⟨(ad.add (i * 7)).block, (ad.add (i * 7)).off + 3, none⟩ = some (.int .i64 x.kd)
  c4 : w.cell? ⟨(ad.add (i * 7)).block, (ad.add (i * 7)).off + 4, none⟩ = some (.slice x.A1 x.ws_.length x.c1)
  c5 : w.cell? ⟨(ad.add (i * 7)).block, (ad.add (i * 7)).off + 5, none⟩ = some (.slice x.A2 x.raw.length x.c2)
  c6 : w.cell? ⟨(ad.add (i * 7)).block, (ad.add (i * 7)).off + 6, none⟩ = some (.slice x.A3 x.it.length x.c3)
  r1 : Rd w .u64 (.slice x.A1 x.ws_.length x.c1) x.ws_
  r2 : Rd w .u8 (.slice x.A2 x.raw.length x.c2) x.raw
  r3 : Rd w .u64 (.slice x.A3 x.it.length x.c3) x.it
  ab : -9223372036854775808 ≤ x.at_ ∧ x.at_ ≤ 9223372036854775807
  nb : 0 ≤ x.nn ∧ x.nn ≤ 18446744073709551615
  iw : isW x.ws_
  ib : isB x.raw
  ii : isW x.it
def AcRow (w : World) (A : Option Addr) (n c : Nat) (xs : List Ac) : Prop :=
  xs.length = n ∧ n ≤ 9223372036854775807 ∧ n ≤ c ∧ (0 < n → ∃ ad, A = some ad ∧ ∀ i x, xs[i]? = some x → AcAt w ad i x)
theorem get_take {cs : List Value} {j : Nat} {v : Value} (h : (cs.drop j).take 1 = [v]) : cs[j]? = some v := by
  have := congrArg (fun l : List Value => l[0]?) h
  simpa [List.getElem?_take, List.getElem?_drop] using this
theorem get_take4 {cs : List Value} {k : Nat} {v : Value} (h : (((cs.drop 3).take 4).drop k).take 1 = [v]) : cs[3 + k]? = some v := by
  have := get_take h
  rw [List.getElem?_take] at this
  split at this
  · rwa [List.getElem?_drop] at this
  · cases this
theorem rd_form {w : World} {k : IntKind} {v : Value} {l : List Int} (h : Rd w k v l) : ∃ A c, v = .slice A l.length c := by
  obtain ⟨A, c, rfl, _⟩ := h
  exact ⟨A, c, rfl⟩
theorem one_of {H : Type} {enc : TypeId × Value → H} {P : Program} {w : World} {base : Nat} {sp : Nat → Bool} {held : Bool} {t e : TypeId} {n : Nat} {cs : List Value} {y : DataW H × List MemPlace} (ht : P.underlying t = some (.slice e)) (h : DataW.trod enc P w base sp held n t cs = some y) : ∃ v, cs = [v] := by
  rcases open_slice ht h with ⟨h0, _⟩ | ⟨a, len, cap, m, n, D, Pl, hcs, _⟩
  · exact ⟨_, h0⟩
  · exact ⟨_, hcs⟩
theorem open_acts7 {H : Type} {enc : TypeId × Value → H} {w : World} {base : Nat} {held : Bool} {fuel : Nat} {v : Value} {x : DataW H × List MemPlace} (h : DataW.trod enc Try.prog w base (fun _ => true) held fuel 75 [v] = some x) :
    ∃ A n c xs, v = .slice A n c ∧ AcRow w A n c xs := by
  have k1 : Try.prog.cellsOf 3 = 1 := by kernel_rfl
  have k2 : Try.prog.cellsOf 32 = 1 := by kernel_rfl
  have k3 : Try.prog.cellsOf 48 = 4 := by kernel_rfl
  have k4 : Try.prog.cellsOf 22 = 1 := by kernel_rfl
  have k5 : Try.prog.cellsOf 46 = 1 := by kernel_rfl
  have k7 : Try.prog.cellsOf 81 = 7 := by kernel_rfl
  rcases open_slice Try.underlying75 h with ⟨h0, _⟩ | ⟨a, len, cap, m, n, D, Pl, hcs, _, hl, hm, hmm, _, hi⟩
  · simp only [List.cons.injEq, and_true] at h0
    subst h0
    exact ⟨none, 0, 0, [], rfl, rfl, by omega, Nat.le_refl _, fun h => absurd h (Nat.lt_irrefl 0)⟩
  · simp only [List.cons.injEq, and_true] at hcs
    subst hcs
    simp only [if_true] at hmm
    subst hmm
    obtain ⟨l, hll, hq⟩ := list_of (fun i x => AcAt w a i x) len (fun i hin => by
      obtain ⟨cs', hc, ht'⟩ := hi i (by omega)
      rw [k7] at hc
      obtain ⟨ys, n', _, _, _, hyl, hf⟩ := DataW.trod_struct Try.underlying81 ht'
      obtain ⟨_, hcl, hat⟩ := World.cells?_some hc
      have hy : ∀ j, j < 4 → ∃ y, ys[j]? = some y := fun j hj => ⟨_, List.getElem?_eq_getElem (show j < ys.length by rw [hyl]; exact hj)⟩
      obtain ⟨y0, e0⟩ := hy 0 (by omega)
      obtain ⟨y1, e1⟩ := hy 1 (by omega)
      obtain ⟨y2, e2⟩ := hy 2 (by omega)
      obtain ⟨y3, e3⟩ := hy 3 (by omega)
      have t0 : DataW.trod enc Try.prog w base (fun _ => true) held n' 3 ((cs'.drop 0).take (Try.prog.cellsOf 3)) = some y0 := (hf 0 _ rfl).trans e0
      have t1 : DataW.trod enc Try.prog w base (fun _ => true) held n' 3 ((cs'.drop 1).take (Try.prog.cellsOf 3)) = some y1 := (hf 1 _ rfl).trans e1
      have t2 : DataW.trod enc Try.prog w base (fun _ => true) held n' 32 ((cs'.drop 2).take (Try.prog.cellsOf 32)) = some y2 := (hf 2 _ rfl).trans e2
      have t3 : DataW.trod enc Try.prog w base (fun _ => true) held n' 48 ((cs'.drop 3).take (Try.prog.cellsOf 48)) = some y3 := (hf 3 _ rfl).trans e3
      rw [k1] at t0 t1
      rw [k2] at t2
      rw [k3] at t3
      obtain ⟨v0, q0, _, w0⟩ := DataW.trod_int Try.underlying3 t0
      obtain ⟨v1, q1, _, w1⟩ := DataW.trod_int Try.underlying3 t1
      obtain ⟨v2, q2, _, w2⟩ := DataW.trod_int Try.underlying32 t2
      obtain ⟨zs, n2, _, _, _, hzl, hg⟩ := DataW.trod_struct Try.underlying48 t3
      have hz : ∀ j, j < 4 → ∃ y, zs[j]? = some y := fun j hj => ⟨_, List.getElem?_eq_getElem (show j < zs.length by rw [hzl]; exact hj)⟩
      obtain ⟨z0, g0⟩ := hz 0 (by omega)
      obtain ⟨z1, g1⟩ := hz 1 (by omega)
      obtain ⟨z2, g2⟩ := hz 2 (by omega)
      obtain ⟨z3, g3⟩ := hz 3 (by omega)
      have s0 : DataW.trod enc Try.prog w base (fun _ => true) held n2 3 ((((cs'.drop 3).take 4).drop 0).take (Try.prog.cellsOf 3)) = some z0 := (hg 0 _ rfl).trans g0
      have s1 : DataW.trod enc Try.prog w base (fun _ => true) held n2 46 ((((cs'.drop 3).take 4).drop 1).take (Try.prog.cellsOf 46)) = some z1 := (hg 1 _ rfl).trans g1
      have s2 : DataW.trod enc Try.prog w base (fun _ => true) held n2 22 ((((cs'.drop 3).take 4).drop 2).take (Try.prog.cellsOf 22)) = some z2 := (hg 2 _ rfl).trans g2
      have s3 : DataW.trod enc Try.prog w base (fun _ => true) held n2 46 ((((cs'.drop 3).take 4).drop 3).take (Try.prog.cellsOf 46)) = some z3 := (hg 3 _ rfl).trans g3
      rw [k1] at s0
      rw [k5] at s1 s3
      rw [k4] at s2
      obtain ⟨v3, q3, _, w3⟩ := DataW.trod_int Try.underlying3 s0
      obtain ⟨u4, q4⟩ := one_of Try.underlying46 s1
      obtain ⟨u5, q5⟩ := one_of Try.underlying22 s2
      obtain ⟨u6, q6⟩ := one_of Try.underlying46 s3
      rw [q4] at s1
      rw [q5] at s2
      rw [q6] at s3
      obtain ⟨l4, r4, w4⟩ := open_rd Try.underlying46 Try.underlying32 (by kernel_rfl) s1
      obtain ⟨l5, r5, w5⟩ := open_rd Try.underlying22 Try.underlying5 (by kernel_rfl) s2
      obtain ⟨l6, r6, w6⟩ := open_rd Try.underlying46 Try.underlying32 (by kernel_rfl) s3
      obtain ⟨A4, c4, rfl⟩ := rd_form r4
      obtain ⟨A5, c5, rfl⟩ := rd_form r5
      obtain ⟨A6, c6, rfl⟩ := rd_form r6
      have far : ∀ (j : Nat) (u : Value), 0 < j → j < 7 → cs'[j]? = some u → w.cell? ⟨(a.add (i * 7)).block, (a.add (i * 7)).off + j, none⟩ = some u := fun j u hj0 hj e => by
        have := hat j hj
        rw [Go.Deep.add_add, add_field a (i * 7) j hj0, e] at this
        exact this
      refine ⟨⟨v0, v1, v2, v3, l4, l5, l6, A4, A5, A6, c4, c5, c6⟩, ?_, far 1 _ (by omega) (by omega) (get_take q1), far 2 _ (by omega) (by omega) (get_take q2), far 3 _ (by omega) (by omega) (get_take4 q3), far 4 _ (by omega) (by omega) (get_take4 q4), far 5 _ (by omega) (by omega) (get_take4 q5), far 6 _ (by omega) (by omega) (get_take4 q6), r4, r5, r6, bounds_i64 w1, bounds_u64 w2, fun z hz => bounds_u64 (w4 z hz), fun z hz => bounds_u8 (w5 z hz), fun z hz => bounds_u64 (w6 z hz)⟩
      have := hat 0 (by omega)
      rw [get_take q0] at this
      simpa [Go.Deep.add_add] using this)
    exact ⟨_, len, m, l, rfl, hll, by unfold maxLen at hm; omega, hl, fun _ => ⟨a, rfl, hq⟩⟩
end Go.Proofs.Ytigdchfjcfljjaa
end
section
/- What was encoded, read again: plain facts. -/
namespace Go.Proofs.Ytigdchfjcfljjaa
open Go.RowKit
end Go.Proofs.Ytigdchfjcfljjaa
end
section
/- ImageLoads: the example, the headers, the law. -/
namespace Go.Proofs.Ytigdchfjcfljjaa
open Go.RowKit Go.Proofs.YtigdchfjcfljjaaW.PrintWords Go.Proofs.YtigdchfjcfljjaaW.PrintLast Go.Proofs.YtigdchfjcfljjaaW.PrintMore
attribute [local go_sem] max2_int min2_int max_two min_two max_three min_three max_four min_four
theorem list_lt2 {α : Type} {l : List α} {n : Nat} (h : l.length = n) : l.take n = l := List.take_of_length_le (by omega)
theorem objZ_len8 (k : Int) (ws raw it : List Int) (N : Nat) (h : 16 + 8 * ws.length + raw.length + 8 * it.length = N) (h8 : N % 8 = 0) : (objZ k ws raw it).length = N := by
  rw [objZ, List.length_append, List.length_replicate, objB_len, h]
  have : padN (N : Int) 8 = 0 := by unfold padN; rw [if_pos (by omega)]; omega
  rw [this]; rfl
set_option maxHeartbeats 8000000 in
set_option maxRecDepth 100000 in
theorem img_awake_calls (w : World) : Calls Try.prog 35 #[] w fun e w' => e = .returned (.bool true) ∧ Below w.heap.size w w' := by
  go_enter Try.func35, Try.ntmps35
  go_wp2_with fail
  refine (crc_Make_calls _).mono ?_
  rintro e w1 ⟨rfl, hT, hb⟩
  have CN := New_yes ⟨0, 0, 4, 2, 0⟩ w.heap.size 1000 w1 hT (by decide) (by decide) (by decide) (by decide) (by decide) (by decide) (by decide) (by decide)
  dsimp only at CN
  have HC := Aside0.mk CN
  have HB := Aside0.mk hb
  clear hT hb CN
  go_wp2_with fail
  refine (HC.out).mono ?_
  rintro e w2 ⟨g, rfl, ⟨vb, hI⟩, hb⟩
  have HI := Aside0.mk hI
  have HB1 := HB
  replace HB := Aside0.mk (below_step HB.out hb)
  clear hI hb HC
  obtain ⟨BB, hBB⟩ : ∃ BB, (encZ magicL [0, 0, 4, 2, 0] ++ List.replicate (obN { id := 0, key := 0, data := 4, fields := 2, made := 0 } - 64).toNat 0) = BB := ⟨_, rfl⟩
  have hBL : BB.length = 304 := by rw [← hBB, List.length_append, List.length_replicate, encZ, List.length_append, encC_len, List.length_replicate]; rfl
  rw [hBB, show obN { id := 0, key := 0, data := 4, fields := 2, made := 0 } = 304 from rfl] at HI
  clear hBB
  have R1 := Aside0.mk (show Rd ((w2.alloc (.cells #[.int .u64 0] 32)).alloc (.cells #[.int .u64 5, .int .u64 6] 32)) .u64 (.slice (some ⟨w2.heap.size, 0, none⟩) 1 1) [0] from (Rd.lit w2 .u64 32 [0] (by decide)).below (below_alloc (Below.refl _ _) _))
  have R3 := Aside0.mk (show Rd ((w2.alloc (.cells #[.int .u64 0] 32)).alloc (.cells #[.int .u64 5, .int .u64 6] 32)) .u64 (.slice (some ⟨w2.heap.size + 1, 0, none⟩) 2 2) [5, 6] by have := Rd.lit (w2.alloc (.cells #[.int .u64 0] 32)) .u64 32 [5, 6] (by decide); simpa [nums] using this)
  have HB2 := Aside0.mk (below_alloc (below_alloc (Below.refl w2.heap.size w2) (.cells #[.int .u64 0] 32)) (.cells #[.int .u64 5, .int .u64 6] 32))
  have HN := Aside0.mk hBL
  clear hBL
  go_wp2_with fail
  refine (Put_yes g w1.heap.size ⟨0, 0, 4, 2, 0⟩ BB 1000 304 [] _ vb (.slice none 0 0) _ (HI.out.below HB2.out) 4 [0] [] [5, 6] (some ⟨w2.heap.size, 0, none⟩) none (some ⟨w2.heap.size + 1, 0, none⟩) 1 0 2 R1.out (Rd.nil _ _) R3.out (by intro x hx; simp at hx; omega) oB_nil (by intro x hx; simp at hx; omega) (by decide) 304 40 HN.out (objZ_len8 4 [0] [] [5, 6] 40 rfl rfl) (by decide) (by decide) (by decide)).mono ?_
  rintro e w3 ⟨rfl, ⟨vb3, vw3, hI3⟩, hk3⟩
  have HI3 := Aside0.mk hI3
  have HB3 := Aside0.mk (Kp.from (below_step HB.out HB2.out) hk3 (fun k hk => Nat.le_trans (by have := HB1.out.size; omega) hk.1))
  clear hI3 hk3
  go_wp2_with fail
  refine (Tail_calls g w1.heap.size _ _ _ _ _ _ vb3 vw3 _ HI3.out 344 (by rw [List.length_append, HN.out, objZ_len8 4 [0] [] [5, 6] 40 rfl rfl])).mono ?_
  rintro e w4 ⟨rfl, rfl⟩
  go_wp2_with fail
  go_ret
  exact ⟨rfl, HB3.out⟩
set_option maxHeartbeats 8000000 in
set_option maxRecDepth 100000 in
theorem heads_calls (a b d q : Int) (w : World) (a0 : 0 ≤ a) (a1 : a ≤ 255) (b0 : 0 ≤ b) (b1 : b ≤ 255) (hd : 1 + a % 8 = d) (hq : 1 + b % 8 = q) : Calls Try.prog 36 #[.int .u8 a, .int .u8 b] w fun e w' => e = .returned (.tuple #[.agg #[.int .u64 5, .int .u64 6, .int .i64 d, .int .i64 q, .int .u64 0], .agg #[.int .u64 5, .int .u64 6, .int .i64 d, .int .i64 q, .int .u64 0]]) ∧ Below w.heap.size w w' := by
  obtain ⟨x, hx⟩ : ∃ x, a % 8 = x := ⟨_, rfl⟩
  obtain ⟨y, hy⟩ : ∃ x, b % 8 = x := ⟨_, rfl⟩
  have x0 : 0 ≤ x := by omega
  have x1 : x ≤ 7 := by omega
  have y0 : 0 ≤ y := by omega
  have y1 : y ≤ 7 := by omega
  have t1 : a.tmod 8 = x := by rw [Int.tmod_eq_emod_of_nonneg a0, hx]
  have t2 : b.tmod 8 = y := by rw [Int.tmod_eq_emod_of_nonneg b0, hy]
  have c1 : IntKind.i64.wrap x = x := by rw [IntKind.wrap_i64]; omega
  have c2 : IntKind.i64.wrap y = y := by rw [IntKind.wrap_i64]; omega
  have s1 : IntKind.i64.wrap (1 + x) = d := by rw [IntKind.wrap_i64]; omega
  have s2 : IntKind.i64.wrap (1 + y) = q := by rw [IntKind.wrap_i64]; omega
  have s3 : wrap64 (1 + x) = d := by simp only [wrap64]; omega
  have s4 : wrap64 (1 + y) = q := by simp only [wrap64]; omega
  have s5 : 1 + x = d := by omega
  have s6 : 1 + y = q := by omega
  clear hd hq
  have HY := Aside0.mk (show ((w.alloc (.cells #[.int .u64 0, .int .u64 0, .int .i64 0, .int .i64 0, .int .u64 0] 59)).alloc (.cells #[.int .u64 0, .int .u64 0, .int .i64 0, .int .i64 0, .int .u64 0] 60)).heap[w.heap.size + 1]? = some (.cells #[.int .u64 0, .int .u64 0, .int .i64 0, .int .i64 0, .int .u64 0] 60 (0, 0)) by have := blk_new (w.alloc (.cells #[.int .u64 0, .int .u64 0, .int .i64 0, .int .i64 0, .int .u64 0] 59)) (.cells #[.int .u64 0, .int .u64 0, .int .i64 0, .int .i64 0, .int .u64 0] 60); simpa using this)
  have HX := Aside0.mk (blk_alloc (blk_new w (.cells #[.int .u64 0, .int .u64 0, .int .i64 0, .int .i64 0, .int .u64 0] 59)) (.cells #[.int .u64 0, .int .u64 0, .int .i64 0, .int .i64 0, .int .u64 0] 60))
  go_enter Try.func36, Try.ntmps36
  go_upto_region 1 with fail
  obtain ⟨w0, hw0⟩ : ∃ w0, (w.alloc (.cells #[.int .u64 0, .int .u64 0, .int .i64 0, .int .i64 0, .int .u64 0] 59)).alloc (.cells #[.int .u64 0, .int .u64 0, .int .i64 0, .int .i64 0, .int .u64 0] 60) = w0 := ⟨_, rfl⟩
  have HB := Aside0.mk (show Below w.heap.size w w0 by rw [← hw0]; exact below_alloc (below_alloc (Below.refl _ _) _) _)
  rw [hw0] at HX HY ⊢
  clear hw0
  have z0 := blk_cell HX.out 0
  have f0 := blk_frozen HX.out 0
  have y0 := blk_cell HY.out 0
  have h0 := blk_frozen HY.out 0
  have z1 := blk_cell HX.out 1
  have f1 := blk_frozen HX.out 1
  have y1 := blk_cell HY.out 1
  have h1 := blk_frozen HY.out 1
  have z2 := blk_cell HX.out 2
  have f2 := blk_frozen HX.out 2
  have y2 := blk_cell HY.out 2
  have h2 := blk_frozen HY.out 2
  have z3 := blk_cell HX.out 3
  have f3 := blk_frozen HX.out 3
  have y3 := blk_cell HY.out 3
  have h3 := blk_frozen HY.out 3
  have z4 := blk_cell HX.out 4
  have f4 := blk_frozen HX.out 4
  have y4 := blk_cell HY.out 4
  have h4 := blk_frozen HY.out 4
  go_wp2_with fail
  refine bodyPost_ret (v := .tuple #[.agg #[.int .u64 5, .int .u64 6, .int .i64 d, .int .i64 q, .int .u64 0], .agg #[.int .u64 5, .int .u64 6, .int .i64 d, .int .i64 q, .int .u64 0]]) (by simp [results, Try.results36, go_sem, z0, z1, z2, z3, z4, y0, y1, y2, y3, y4]) rfl ⟨rfl, ?_⟩
  exact below_iset5 (below_iset5 HB.out _ (Nat.le_refl _) _ _ _ _ _) _ (Nat.le_succ _) _ _ _ _ _
theorem wrapN {k : Nat} (h : k ≤ 1000000) : IntKind.i64.wrap (k : Int) = (k : Int) := by rw [IntKind.wrap_i64]; omega
theorem wrapN64 {k : Nat} (h : k ≤ 1000000) : wrap64 (k : Int) = (k : Int) := by simp only [wrap64]; omega
end Go.Proofs.Ytigdchfjcfljjaa
end
section
/- ImageLays: the law. -/
namespace Go.Proofs.Ytigdchfjcfljjaa
open Go.RowKit Go.Proofs.YtigdchfjcfljjaaW.PrintWords Go.Proofs.YtigdchfjcfljjaaW.PrintLast Go.Proofs.YtigdchfjcfljjaaW.PrintMore
attribute [local go_sem] max2_int min2_int max_two min_two max_three min_three max_four min_four
/-- Both images, on a law's way. -/
def Sn (w W : World) (g1 b1 g2 b2 : Nat) (H : Hd) (lim : Int) (m : Nat) (B Was ws : List Int) (F1 F2 : Nat → Prop) : Prop :=
  Pr W g1 b1 g2 b2 H lim B Was ws m F1 F2 ∧ (w.heap.size ≤ b1 ∧ w.heap.size ≤ b2) ∧ Below w.heap.size w W
theorem Sn.below {w W W' : World} {g1 b1 g2 b2 : Nat} {H : Hd} {lim : Int} {m : Nat} {B Was ws : List Int} {F1 F2 : Nat → Prop} (h : Sn w W g1 b1 g2 b2 H lim m B Was ws F1 F2) (hb : Below W.heap.size W W') : Sn w W' g1 b1 g2 b2 H lim m B Was ws F1 F2 := by
  obtain ⟨⟨⟨vb, vw, hI⟩, ⟨xb, xa, xw, hR⟩, hd, hG⟩, hbb, hB⟩ := h
  exact ⟨⟨⟨vb, vw, hI.below hb⟩, ⟨xb, xa, xw, hR.below hb⟩, hd, hG⟩, hbb, below_step hB hb⟩
theorem Sn.bel {w W : World} {g1 b1 g2 b2 : Nat} {H : Hd} {lim : Int} {m : Nat} {B Was ws : List Int} {F1 F2 : Nat → Prop} (h : Sn w W g1 b1 g2 b2 H lim m B Was ws F1 F2) : Below w.heap.size w W := h.2.2
theorem Sn.turn {w W W' : World} {g1 b1 g2 b2 : Nat} {H : Hd} {lim : Int} {m : Nat} {B Was ws : List Int} {F1 F2 : Nat → Prop} {keep : Prop} (h : Sn w W g1 b1 g2 b2 H lim m B Was ws F1 F2) (hs : PrS W W' g1 b1 g2 b2 H lim Was m F1 F2 keep) :
    ∃ B' Was' ws' F1' F2', Sn w W' g1 b1 g2 b2 H lim (m + 1) B' Was' ws' F1' F2' ∧ (∀ k, F1' k → ext F1 W W' k) ∧ (∀ k, F2' k → ext F2 W W' k) ∧ Kp (fun k => F1 k ∨ F2 k) W W' ∧ (keep → Was' = Was) := by
  obtain ⟨⟨⟨vb, vw, hI⟩, ⟨xb, xa, xw, hR⟩, hd, hG⟩, hbb, hB⟩ := h
  obtain ⟨B', Was', ws', F1', F2', hP, e1, e2, hk, hkeep⟩ := hs
  exact ⟨B', Was', ws', F1', F2', ⟨hP, hbb, below_kp hB hk (Nat.le_refl _) (fun k hk => hk.elim (fun h => Nat.le_trans hbb.1 (hI.ge h)) (fun h => Nat.le_trans hbb.2 (hR.ge h)))⟩, e1, e2, hk, hkeep⟩
/-- The same, with what both were. -/
def Sz (w W : World) (g1 b1 g2 b2 : Nat) (H : Hd) (lim : Int) (m : Nat) (B Was ws : List Int) (F1 F2 : Nat → Prop) (vz : Value) : Prop :=
  Sn w W g1 b1 g2 b2 H lim m B Was ws F1 F2 ∧ OwnO (Value.int .u8) W w.heap.size 5 vz Was ∧ ∀ k, vz.ownBlock = some k → ¬ F1 k ∧ ¬ F2 k
theorem Sz.bel {w W : World} {g1 b1 g2 b2 : Nat} {H : Hd} {lim : Int} {m : Nat} {B Was ws : List Int} {F1 F2 : Nat → Prop} {vz : Value} (h : Sz w W g1 b1 g2 b2 H lim m B Was ws F1 F2 vz) : Below w.heap.size w W := h.1.2.2
/-- What an act reads as, at any later world. -/
theorem AcAt.acr {w : World} {ad : Addr} {i : Nat} {x : Ac} (h : AcAt w ad i x) (hl : lightA x.ws_.length x.raw.length x.it.length = true) : AcR w w.heap.size x.nn x.ws_ x.raw x.it x.A1 x.A2 x.A3 x.c1 x.c2 x.c3 :=
  ⟨fun w1 hb => ⟨h.r1.below hb, h.r2.below hb, h.r3.below hb⟩, h.iw, h.ib, h.ii, by simpa [lightA] using hl, h.nb⟩
theorem AcR.to {w W : World} {nn : Int} {ws_ raw it : List Int} {A1 A2 A3 : Option Addr} {c1 c2 c3 : Nat} (h : AcR w w.heap.size nn ws_ raw it A1 A2 A3 c1 c2 c3) (hb : Below w.heap.size w W) : AcR W w.heap.size nn ws_ raw it A1 A2 A3 c1 c2 c3 :=
  ⟨fun w1 hb1 => h.1 w1 (hb.trans hb1), h.2⟩
/-- Words laid over. -/
def layW (C b ws : List Int) : List Int := ws.foldl (fun b a => splice b a.toNat ((C.drop a.toNat).take 8)) b
theorem lay8_len (C : List Int) (a : Nat) (h : a + 8 ≤ C.length) : ((C.drop a).take 8).length = 8 := by rw [List.length_take, List.length_drop]; omega
/-- A patch's place and slice, as the walk reads them. -/
theorem PRow.cells7 {W : World} {base : Nat} {A : Option Addr} {n c : Nat} {ps : List (Int × Value)} (h : PRow W base (.slice A n c) ps) (i : Nat) (hi : i < ps.length) : ∃ ad, A = some ad ∧ W.cell? (ad.add (i * 2)) = some (.int .i64 (ps.getD i (0, .slice none 0 0)).1) ∧ W.cell? ⟨(ad.add (i * 2)).block, (ad.add (i * 2)).off + 1, none⟩ = some (ps.getD i (0, .slice none 0 0)).2 := by
  obtain ⟨ad, rfl, h1, h2⟩ := h.cells i hi
  refine ⟨ad, rfl, by rw [Nat.mul_comm]; exact h1, ?_⟩
  rw [← add_field ad (i * 2) 1 (by omega), Nat.mul_comm]
  exact h2
def lays0 : List Int := encZ magicL [5, 6, 4, 4, 0] ++ List.replicate 256 0
theorem lays0_len : lays0.length = 320 := by rw [lays0, List.length_append, List.length_replicate, encZ, List.length_append, encC_len, List.length_replicate]; rfl
theorem lays0_gd : Gd 4000 lays0 lays0 [] 0 :=
  ⟨⟨(encZ_isB magic_isB _).app (zeros_isB 256), (encZ_isB magic_isB _).app (zeros_isB 256)⟩, by rw [lays0_len]; decide, by rw [lays0_len]; decide, fun x hx => by simp at hx, Nat.le_refl _, List.take_length, by decide⟩
end Go.Proofs.Ytigdchfjcfljjaa
end
