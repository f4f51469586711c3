/- The packer: the key, how long two places are alike. -/
import Derived.Test.YtigdchfjcfljjaaPkP
import Derived.Test.YtigdchfjcfljjaaMix3
import Derived.Test.YtigdchfjcfljjaaAp
import Derived.Maps.OwnSet
import Derived.Maps.OwnOps
namespace Go.Proofs.Ytigdchfjcfljjaa
open Go.RowKit Go.Proofs.YtigdchfjcfljjaaW.PrintWords Go.Proofs.YtigdchfjcfljjaaW.PrintLast Go.Proofs.YtigdchfjcfljjaaW.PrintMore
attribute [local go_sem] max2_int min2_int max_two min_two max_three min_three max_four min_four   -- for this text's walks alone
set_option linter.unusedVariables false
set_option linter.unusedSimpArgs false

def PkV (W : World) (g : Nat) (vb vo vm vl : Value) (pl : Int) : Prop := W.heap[g]? = some (.cells #[vb, vo, vm, vl, .int .i64 pl] 148 (0, 0))
theorem PkV.below {W W1 : World} {g : Nat} {vb vo vm vl : Value} {pl : Int} (h : PkV W g vb vo vm vl pl) (hb : Below W.heap.size W W1) : PkV W1 g vb vo vm vl pl := blk_below h hb
def kyB (B : List Int) (a : Int) : Int := getN B a 4 % 4294967296
set_option maxHeartbeats 8000000 in
set_option maxRecDepth 100000 in
theorem pkKey_calls (w : World) (g : Nat) (vb vo vm vl : Value) (pl : Int) (B : List Int) (a : Int) (H : PkV w g vb vo vm vl pl) (hr : Rd w .u8 vb B) (hib : isB B) :
    Calls Try.prog 140 #[.pointer (some ⟨g, 0, none⟩), .int .i64 a] w fun e w' => e = .returned (.int .u32 (kyB B a)) ∧ Below w.heap.size w w' := by
  have HR := Aside0.mk hr
  have HIB := Aside0.mk hib
  have x0 := blk_cell H 0
  clear hr hib H
  go_enter Try.func140, Try.ntmps140
  go_wp2_with fail
  with_reducible refine (le_Get_calls vb B a 4 _ HR.out HIB.out).mono ?_
  rintro e w1 ⟨rfl, hb⟩
  have HB := Aside0.mk hb
  clear hb
  obtain ⟨y, hy⟩ : ∃ y, getN B a 4 = y := ⟨_, rfl⟩
  have HY := Aside0.mk (show kyB B a = y % 4294967296 by rw [kyB, hy])
  rw [hy]
  clear hy
  go_wp2_with fail
  go_ret
  exact ⟨by rw [HY.out]; rfl, HB.out⟩
set_option maxHeartbeats 8000000 in
set_option maxRecDepth 100000 in
theorem pkSame_calls (w : World) (g : Nat) (vb vo vm vl : Value) (pl : Int) (B : List Int) (frm at_ : Nat) (H : PkV w g vb vo vm vl pl) (hr : Rd w .u8 vb B) (hib : isB B) (hf : frm < at_) (ha : at_ ≤ B.length) (hN : B.length ≤ 1000000) :
    Calls Try.prog 141 #[.pointer (some ⟨g, 0, none⟩), .int .i64 (frm : Int), .int .i64 (at_ : Int)] w fun e w' => ∃ n : Nat, e = .returned (.int .i64 (n : Int)) ∧ n ≤ 130 ∧ at_ + n ≤ B.length ∧ (∀ i, i < n → B.getD (frm + i) 0 = B.getD (at_ + i) 0) ∧ Below w.heap.size w w' := by
  obtain ⟨N, hNN⟩ : ∃ N, B.length = N := ⟨_, rfl⟩
  obtain ⟨A0, c0, ev, hcap, hm, _⟩ := hr.mid
  subst ev
  rw [hNN] at hr ha hN hcap H ⊢
  have HR := Aside0.mk hr
  have HN := Aside0.mk hNN
  have HP := Aside0.mk H
  clear hr hib H hNN hm
  go_enter Try.func141, Try.ntmps141
  go_upto_block 0 with (fail)
  go_cut [7] (fun v wx => ∃ n : Nat, v = .int .i64 (n : Int) ∧ n ≤ 130 ∧ at_ + n ≤ N ∧ Aside0 (∀ i, i < n → B.getD (frm + i) 0 = B.getD (at_ + i) 0) ∧ Aside0 (Below w.heap.size w wx))
  case first =>
    go_wp2_with fail
    go_loopw [7] (fun v7 w' => ∃ n : Nat, v7 = .int .i64 (n : Int) ∧ n ≤ 130 ∧ at_ + n ≤ N ∧ Aside0 (∀ i, i < n → B.getD (frm + i) 0 = B.getD (at_ + i) 0) ∧ Aside0 (Below w.heap.size w w')) (fun v7 _ => 130 - (intOf v7).toNat)
    case atStart => exact ⟨0, rfl, by omega, by omega, Aside0.mk (fun i hi => by omega), Aside0.mk (Below.refl _ _)⟩
    case round =>
      obtain ⟨n, rfl, hn, hn2, HE, HB⟩ := hrel
      have x0 : wr.cell? ⟨g, 0, none⟩ = some (.slice A0 N c0) := blk_cell (HP.out.below HB.out) 0
      have w1 : IntKind.i64.wrap ((at_ : Int) + (n : Int)) = (at_ : Int) + (n : Int) := by rw [IntKind.wrap_i64]; omega
      have w2 : IntKind.i64.wrap ((frm : Int) + (n : Int)) = (frm : Int) + (n : Int) := by rw [IntKind.wrap_i64]; omega
      go_upto_region 2 with fail
      by_cases c1 : at_ + n < N
      · have g1 : decide ((at_ : Int) + (n : Int) < (N : Int)) = true := decide_eq_true (by omega)
        by_cases c2 : n < 130
        · have g2 : decide ((n : Int) < 130) = true := decide_eq_true (by omega)
          obtain ⟨ad, eA, h1⟩ := rdE_at (enc := Value.int .u8) (d := (0 : Int)) (HR.out.below HB.out) (frm + n) (by rw [HN.out]; omega)
          obtain ⟨ad', eA', h2⟩ := rdE_at (enc := Value.int .u8) (d := (0 : Int)) (HR.out.below HB.out) (at_ + n) (by rw [HN.out]; omega)
          cases eA
          cases eA'
          obtain ⟨x, hx⟩ : ∃ x, B.getD (frm + n) 0 = x := ⟨_, rfl⟩
          obtain ⟨y, hy⟩ : ∃ y, B.getD (at_ + n) 0 = y := ⟨_, rfl⟩
          rw [hx] at h1
          rw [hy] at h2
          have HXY := Aside0.mk (And.intro hx hy)
          clear hx hy
          by_cases c3 : x = y
          · have g3 : (x == y) = true := by simp [c3]
            go_quiet (fail)
            have HBN := Aside0.mk (pw_below_drewN HB.out nq)
            obtain ⟨wn, hwn⟩ : ∃ wn, wr.drewN nq = wn := ⟨_, rfl⟩
            rw [hwn] at HBN ⊢
            clear hwn x0 w1 w2 h1 h2 g1 g2 g3
            go_wp2_with fail
            go_roundw
            case rel => exact ⟨n + 1, by go_num, by omega, by omega, Aside0.mk (fun i hi => by
              by_cases e : i < n
              · exact HE.out i e
              · obtain rfl : i = n := by omega
                rw [HXY.out.1, HXY.out.2, c3]), HBN⟩
            case measure => simp [intOf] <;> omega
          · have g3 : (x == y) = false := by simpa using c3
            go_quiet (fail)
            have HBN := Aside0.mk (pw_below_drewN HB.out nq)
            obtain ⟨wn, hwn⟩ : ∃ wn, wr.drewN nq = wn := ⟨_, rfl⟩
            rw [hwn] at HBN ⊢
            go_wp2_with fail
            go_meet
            exact ⟨n, rfl, hn, hn2, HE, HBN⟩
        · have g2 : decide ((n : Int) < 130) = false := decide_eq_false (by omega)
          go_quiet (fail)
          have HBN := Aside0.mk (pw_below_drewN HB.out nq)
          obtain ⟨wn, hwn⟩ : ∃ wn, wr.drewN nq = wn := ⟨_, rfl⟩
          rw [hwn] at HBN ⊢
          go_wp2_with fail
          go_meet
          exact ⟨n, rfl, hn, hn2, HE, HBN⟩
      · have g1 : decide ((at_ : Int) + (n : Int) < (N : Int)) = false := decide_eq_false (by omega)
        go_quiet (fail)
        have HBN := Aside0.mk (pw_below_drewN HB.out nq)
        obtain ⟨wn, hwn⟩ : ∃ wn, wr.drewN nq = wn := ⟨_, rfl⟩
        rw [hwn] at HBN ⊢
        go_wp2_with fail
        go_meet
        exact ⟨n, rfl, hn, hn2, HE, HBN⟩
  case rest =>
  obtain ⟨n, rfl, hn, hn2, HE, HB⟩ := hcut
  go_wp2_with fail
  go_ret
  exact ⟨n, rfl, hn, hn2, HE.out, HB.out⟩
end Go.Proofs.Ytigdchfjcfljjaa
