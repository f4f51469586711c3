import Derived.Test.YtigdchfjcfljjaaMgImageLays2
import Derived.Test.YtigdchfjcfljjaaRd
import Derived.ProofKit
import Derived.Deep.Slices
import Derived.Deep.Fields
import Derived.ChangeSame
import Derived.Test.YtigdchfjcfljjaaMgImageLays1
section
/- Images: Set and Put of both, whatever they are given; light. -/
namespace Go.Proofs.Ytigdchfjcfljjaa
open Go.RowKit Go.Proofs.YtigdchfjcfljjaaW.PrintWords Go.Proofs.YtigdchfjcfljjaaW.PrintLast Go.Proofs.YtigdchfjcfljjaaW.PrintMore
attribute [local go_sem] max2_int min2_int max_two min_two max_three min_three max_four min_four   -- for this text's walks alone
set_option linter.unusedVariables false
set_option linter.unusedSimpArgs false

/-- What Set answers, and what it leaves. -/
def setC (B : List Int) (a : Int) : Int := if a % 8 = 0 ∧ 192 ≤ a ∧ a + 8 ≤ B.length then (if getN B a 8 = 0 then 0 else 7) else 1
def setB (B : List Int) (a x : Int) : List Int := if setC B a = 0 then splice B a.toNat (leB x 8) else B
def setW (B ws : List Int) (q a : Int) : List Int := if setC B a = 0 ∧ a < q then ws ++ [a] else ws
theorem setC_arg {B : List Int} {a : Int} (h : ¬ setOk B.length a) : setC B a = 1 := if_neg h
theorem setC_twice {B : List Int} {a : Int} (h : setOk B.length a) (hx : getN B a 8 ≠ 0) : setC B a = 7 := by rw [setC, if_pos (show a % 8 = 0 ∧ 192 ≤ a ∧ a + 8 ≤ (B.length : Int) from h), if_neg hx]
theorem setC_yes {B : List Int} {a : Int} (h : setOk B.length a) (hx : getN B a 8 = 0) : setC B a = 0 := by rw [setC, if_pos (show a % 8 = 0 ∧ 192 ≤ a ∧ a + 8 ≤ (B.length : Int) from h), if_pos hx]
theorem setB_no {B : List Int} {a x : Int} (h : setC B a ≠ 0) : setB B a x = B := if_neg h
theorem setW_no {B ws : List Int} {q a : Int} (h : setC B a ≠ 0) : setW B ws q a = ws := if_neg (fun hh => h hh.1)
theorem Set_any (g base : Nat) (H : Hd) (B : List Int) (lim fr : Int) (ws : List Int) (F : Nat → Prop) (vb vw : Value) (w : World) (hI : Im w g base H B lim fr ws F vb vw) (hb : isB B) (hl : B.length ≤ 100000) (a x : Int) (x0 : 0 ≤ x) (x1 : x ≤ 18446744073709551615) (hwl : ws.length ≤ 1000000) : Calls Try.prog 42 #[.pointer (some ⟨g, 0, none⟩), .int .i64 a, .int .u64 x] w fun e w' => e = .returned (.int .i64 (setC B a)) ∧ ImS w w' g base H (setB B a x) lim fr (setW B ws fr a) F := by
  by_cases h : setOk B.length a
  · by_cases hx : getN B a 8 = 0
    · obtain ⟨j, rfl⟩ := Int.eq_ofNat_of_zero_le (show 0 ≤ a by have := h.2.1; omega)
      have hc := setC_yes h hx
      refine (Set_yes g base H B lim fr ws F vb vw w hI _ rfl (by omega) hb j x h hx x0 x1 hwl).mono ?_
      rintro e w1 ⟨rfl, hs⟩
      refine ⟨by rw [hc], ?_⟩
      have e1 : setB B (j : Int) x = splice B j (leB x 8) := if_pos hc
      have e2 : setW B ws fr (j : Int) = if (j : Int) < fr then ws ++ [(j : Int)] else ws := by
        rw [setW]
        by_cases c : (j : Int) < fr
        · rw [if_pos ⟨hc, c⟩, if_pos c]
        · rw [if_neg (fun hh => c hh.2), if_neg c]
      rw [e1, e2]; exact hs
    · have hc := setC_twice h hx
      refine (Set_twice g base H B lim fr ws F vb vw w hI _ rfl (by omega) hb a x h hx).mono ?_
      rintro e w1 ⟨rfl, hbl⟩
      rw [hc, setB_no (by rw [hc]; decide), setW_no (by rw [hc]; decide)]
      exact ⟨rfl, ImS.same hI hbl⟩
  · have hc := setC_arg h
    refine (Set_arg g base H B lim fr ws F vb vw w hI _ rfl (by omega) a x h).mono ?_
    rintro e w1 ⟨rfl, rfl⟩
    rw [hc, setB_no (by rw [hc]; decide), setW_no (by rw [hc]; decide)]
    exact ⟨rfl, ImS.same hI (Below.refl _ _)⟩
theorem RSet_any (g base : Nat) (H : Hd) (B Was : List Int) (lim : Int) (ws : List Int) (F : Nat → Prop) (vb va vw : Value) (w : World) (hI : Rm w g base H B Was lim ws F vb va vw) (hb : isB B) (hl : B.length ≤ 100000) (q : Nat) (hq : Was.length = q) (a x : Int) (x0 : 0 ≤ x) (x1 : x ≤ 18446744073709551615) (hwl : ws.length ≤ 1000000) : Calls Try.prog 121 #[.pointer (some ⟨g, 0, none⟩), .int .i64 a, .int .u64 x] w fun e w' => e = .returned (.int .i64 (setC B a)) ∧ RmS w w' g base H (setB B a x) Was lim (setW B ws (q : Int) a) F := by
  by_cases h : setOk B.length a
  · by_cases hx : getN B a 8 = 0
    · obtain ⟨j, rfl⟩ := Int.eq_ofNat_of_zero_le (show 0 ≤ a by have := h.2.1; omega)
      have hc := setC_yes h hx
      refine (RSet_yes g base H B Was lim ws F vb va vw w hI hb _ rfl hl q hq j x h hx x0 x1 hwl).mono ?_
      rintro e w1 ⟨rfl, hs⟩
      refine ⟨by rw [hc], ?_⟩
      have e1 : setB B (j : Int) x = splice B j (leB x 8) := if_pos hc
      have e2 : setW B ws (q : Int) (j : Int) = if (j : Int) < (q : Int) then ws ++ [(j : Int)] else ws := by
        rw [setW]
        by_cases c : (j : Int) < (q : Int)
        · rw [if_pos ⟨hc, c⟩, if_pos c]
        · rw [if_neg (fun hh => c hh.2), if_neg c]
      rw [e1, e2]; exact hs
    · have hc := setC_twice h hx
      refine (RSet_twice g base H B Was lim ws F vb va vw w hI hb _ rfl a x h hx).mono ?_
      rintro e w1 ⟨rfl, hbl⟩
      rw [hc, setB_no (by rw [hc]; decide), setW_no (by rw [hc]; decide)]
      exact ⟨rfl, RmS.same hI hbl⟩
  · have hc := setC_arg h
    refine (RSet_arg g base H B Was lim ws F vb va vw w hI hb _ rfl a x h).mono ?_
    rintro e w1 ⟨rfl, hbl⟩
    rw [hc, setB_no (by rw [hc]; decide), setW_no (by rw [hc]; decide)]
    exact ⟨rfl, RmS.same hI hbl⟩
/-- What Put answers, and what it leaves. -/
def putC (B : List Int) (lim kd : Int) (ws_ raw it : List Int) : Int := if oR kd ws_.length raw.length it.length = true then (if ((objZ kd ws_ raw it).length : Int) ≤ lim - B.length then 0 else 21) else 1
def putA (B : List Int) (lim kd : Int) (ws_ raw it : List Int) : Int := if putC B lim kd ws_ raw it = 0 then B.length else 0
def putB (B : List Int) (lim kd : Int) (ws_ raw it : List Int) : List Int := if putC B lim kd ws_ raw it = 0 then B ++ objZ kd ws_ raw it else B
theorem putB_no {B : List Int} {lim kd : Int} {ws_ raw it : List Int} (h : putC B lim kd ws_ raw it ≠ 0) : putB B lim kd ws_ raw it = B := if_neg h
theorem putA_no {B : List Int} {lim kd : Int} {ws_ raw it : List Int} (h : putC B lim kd ws_ raw it ≠ 0) : putA B lim kd ws_ raw it = 0 := if_neg h

theorem Put_any (g base : Nat) (H : Hd) (B : List Int) (lim fr : Int) (ws : List Int) (F : Nat → Prop) (vb vw : Value) (w : World) (hI : Im w g base H B lim fr ws F vb vw) (hl : B.length ≤ 100000) (hlim : 0 ≤ lim ∧ lim ≤ 1048576) (kd : Int) (ws_ raw it : List Int) (A1 A2 A3 : Option Addr) (c1 c2 c3 : Nat) (h1 : Rd w .u64 (.slice A1 ws_.length c1) ws_) (h2 : Rd w .u8 (.slice A2 raw.length c2) raw) (h3 : Rd w .u64 (.slice A3 it.length c3) it) (k1 : isW ws_) (k2 : isB raw) (k3 : isW it) (m1 : ws_.length ≤ 100000) (m2 : raw.length ≤ 100000) (m3 : it.length ≤ 100000) : Calls Try.prog 46 #[.pointer (some ⟨g, 0, none⟩), .agg #[.int .i64 kd, .slice A1 ws_.length c1, .slice A2 raw.length c2, .slice A3 it.length c3]] w fun e w' => e = .returned (.tuple #[.int .i64 (putA B lim kd ws_ raw it), .int .i64 (putC B lim kd ws_ raw it)]) ∧ ImS w w' g base H (putB B lim kd ws_ raw it) lim fr ws F := by
  by_cases hr : oR kd ws_.length raw.length it.length = true
  · by_cases hf : ((objZ kd ws_ raw it).length : Int) ≤ lim - B.length
    · have hc : putC B lim kd ws_ raw it = 0 := by rw [putC, if_pos hr, if_pos hf]
      refine (Put_yes g base H B lim fr ws F vb vw w hI kd ws_ raw it A1 A2 A3 c1 c2 c3 h1 h2 h3 k1 k2 k3 hr _ _ rfl rfl (by omega) hlim hf).mono ?_
      rintro e w1 ⟨rfl, hs⟩
      rw [putA, putB, if_pos hc, if_pos hc, hc]
      exact ⟨rfl, hs⟩
    · have hc : putC B lim kd ws_ raw it = 21 := by rw [putC, if_pos hr, if_neg hf]
      refine (Put_file g base H B lim fr ws F vb vw w hI kd ws_ raw it A1 A2 A3 c1 c2 c3 h1 h2 h3 k1 k2 k3 hr _ _ rfl rfl (by omega) hlim (by omega)).mono ?_
      rintro e w1 ⟨rfl, hbl⟩
      rw [putA_no (by rw [hc]; decide), putB_no (by rw [hc]; decide), hc]
      exact ⟨rfl, ImS.same hI hbl⟩
  · have hc : putC B lim kd ws_ raw it = 1 := by rw [putC, if_neg hr]
    refine (Put_arg g base H B lim fr ws F vb vw w hI kd ws_.length raw.length it.length A1 A2 A3 c1 c2 c3 m1 m2 m3 (by simpa using hr)).mono ?_
    rintro e w1 ⟨rfl, hbl⟩
    rw [putA_no (by rw [hc]; decide), putB_no (by rw [hc]; decide), hc]
    exact ⟨rfl, ImS.same hI hbl⟩
theorem RPut_any (g base : Nat) (H : Hd) (B Was : List Int) (lim : Int) (ws : List Int) (F : Nat → Prop) (vb va vw : Value) (w : World) (hI : Rm w g base H B Was lim ws F vb va vw) (hl : B.length ≤ 100000) (hlim : 0 ≤ lim ∧ lim ≤ 1048576) (kd : Int) (ws_ raw it : List Int) (A1 A2 A3 : Option Addr) (c1 c2 c3 : Nat) (h1 : Rd w .u64 (.slice A1 ws_.length c1) ws_) (h2 : Rd w .u8 (.slice A2 raw.length c2) raw) (h3 : Rd w .u64 (.slice A3 it.length c3) it) (k1 : isW ws_) (k2 : isB raw) (k3 : isW it) (m1 : ws_.length ≤ 100000) (m2 : raw.length ≤ 100000) (m3 : it.length ≤ 100000) : Calls Try.prog 122 #[.pointer (some ⟨g, 0, none⟩), .agg #[.int .i64 kd, .slice A1 ws_.length c1, .slice A2 raw.length c2, .slice A3 it.length c3]] w fun e w' => e = .returned (.tuple #[.int .i64 (putA B lim kd ws_ raw it), .int .i64 (putC B lim kd ws_ raw it)]) ∧ RmS w w' g base H (putB B lim kd ws_ raw it) Was lim ws F := by
  by_cases hr : oR kd ws_.length raw.length it.length = true
  · by_cases hf : ((objZ kd ws_ raw it).length : Int) ≤ lim - B.length
    · have hc : putC B lim kd ws_ raw it = 0 := by rw [putC, if_pos hr, if_pos hf]
      refine (RPut_yes g base H B Was lim ws F vb va vw w hI kd ws_ raw it A1 A2 A3 c1 c2 c3 h1 h2 h3 k1 k2 k3 hr _ _ rfl rfl (by omega) hlim hf).mono ?_
      rintro e w1 ⟨rfl, hs⟩
      rw [putA, putB, if_pos hc, if_pos hc, hc]
      exact ⟨rfl, hs⟩
    · have hc : putC B lim kd ws_ raw it = 21 := by rw [putC, if_pos hr, if_neg hf]
      refine (RPut_file g base H B Was lim ws F vb va vw w hI kd ws_ raw it A1 A2 A3 c1 c2 c3 h1 h2 h3 k1 k2 k3 hr _ _ rfl rfl (by omega) hlim (by omega)).mono ?_
      rintro e w1 ⟨rfl, hbl⟩
      rw [putA_no (by rw [hc]; decide), putB_no (by rw [hc]; decide), hc]
      exact ⟨rfl, RmS.same hI hbl⟩
  · have hc : putC B lim kd ws_ raw it = 1 := by rw [putC, if_neg hr]
    refine (RPut_arg g base H B Was lim ws F vb va vw w hI kd ws_.length raw.length it.length A1 A2 A3 c1 c2 c3 m1 m2 m3 (by simpa using hr)).mono ?_
    rintro e w1 ⟨rfl, hbl⟩
    rw [putA_no (by rw [hc]; decide), putB_no (by rw [hc]; decide), hc]
    exact ⟨rfl, RmS.same hI hbl⟩

/-- Is an act light. -/
def lightA (nW nR nI : Nat) : Bool := decide (nW ≤ 10) && (decide (nR ≤ 300) && decide (nI ≤ 80))

set_option maxHeartbeats 8000000 in
set_option maxRecDepth 100000 in
theorem alight_calls (kind at_ nn kd : Int) (A1 A2 A3 : Option Addr) (nW nR nI c1 c2 c3 : Nat) (w : World) : Calls Try.prog 49 #[.agg #[.int .i64 kind, .int .i64 at_, .int .u64 nn, .int .i64 kd, .slice A1 nW c1, .slice A2 nR c2, .slice A3 nI c3]] w fun e w' => e = .returned (.bool (lightA nW nR nI)) ∧ Below w.heap.size w w' := by
  by_cases a : nW ≤ 10
  · by_cases b : nR ≤ 300
    · by_cases c : nI ≤ 80
      · skip
        have HE := Aside0.mk (show lightA nW nR nI = true by simp [lightA, a, b, c])
        go_enter Try.func49, Try.ntmps49
        go_wp2_with fail
        go_ret
        exact ⟨by rw [HE.out]; first | rfl | exact ret_yes (by omega), below_alloc (Below.refl _ _) _⟩
      · skip
        have HE := Aside0.mk (show lightA nW nR nI = false by simp [lightA]; omega)
        go_enter Try.func49, Try.ntmps49
        go_wp2_with fail
        go_ret
        exact ⟨by rw [HE.out]; first | rfl | exact ret_no (by omega), below_alloc (Below.refl _ _) _⟩
    · skip
      have HE := Aside0.mk (show lightA nW nR nI = false by simp [lightA]; omega)
      go_enter Try.func49, Try.ntmps49
      go_wp2_with fail
      go_ret
      exact ⟨by rw [HE.out]; first | rfl | exact ret_no (by omega), below_alloc (Below.refl _ _) _⟩
  · skip
    have HE := Aside0.mk (show lightA nW nR nI = false by simp [lightA]; omega)
    go_enter Try.func49, Try.ntmps49
    go_wp2_with fail
    go_ret
    exact ⟨by rw [HE.out]; first | rfl | exact ret_no (by omega), below_alloc (Below.refl _ _) _⟩

end Go.Proofs.Ytigdchfjcfljjaa
end
section
/- Images: what both keep (plain). -/
namespace Go.Proofs.Ytigdchfjcfljjaa
open Go.RowKit Go.Proofs.YtigdchfjcfljjaaW.PrintWords Go.Proofs.YtigdchfjcfljjaaW.PrintLast Go.Proofs.YtigdchfjcfljjaaW.PrintMore
set_option linter.unusedVariables false
set_option linter.unusedSimpArgs false
theorem splice_getD (B : List Int) (j : Nat) (cs : List Int) (h : j + cs.length ≤ B.length) (i : Nat) : (splice B j cs).getD i 0 = if j ≤ i ∧ i < j + cs.length then cs.getD (i - j) 0 else B.getD i 0 := by
  have l1 : (B.take j).length = j := by rw [List.length_take]; omega
  rw [splice, List.getD_eq_getElem?_getD, List.getD_eq_getElem?_getD (l := B), List.getD_eq_getElem?_getD (l := cs)]
  by_cases c1 : i < j
  · rw [List.getElem?_append_left (by omega), List.getElem?_take_of_lt c1, if_neg (by omega)]
  · rw [List.getElem?_append_right (by omega), l1]
    by_cases c2 : i < j + cs.length
    · rw [List.getElem?_append_left (by omega), if_pos ⟨by omega, c2⟩]
    · rw [List.getElem?_append_right (by omega), if_neg (by omega), List.getElem?_drop]
      congr 2
      omega
/-- Does a place lie in one of the words. -/
def hit1 (i : Nat) (a : Int) : Bool := decide (a.toNat ≤ i ∧ i < a.toNat + 8)
def hit (ws : List Int) (i : Nat) : Bool := ws.any (hit1 i)
theorem zeroW_getD : ∀ (ws B : List Int), (∀ x ∈ ws, 0 ≤ x ∧ x + 8 ≤ B.length) → ∀ i, (zeroW B ws).getD i 0 = if hit ws i = true then 0 else B.getD i 0
  | [], B, _, i => by simp [zeroW, hit]
  | x :: ws, B, h, i => by
    have hx := h x (by simp)
    have hl : (splice B x.toNat (List.replicate 8 0)).length = B.length := length_splice _ _ _ (by simp; omega)
    have ih := zeroW_getD ws (splice B x.toNat (List.replicate 8 0)) (fun y hy => by rw [hl]; exact h y (by simp [hy])) i
    rw [zeroW, List.foldl_cons, ← zeroW, ih, splice_getD _ _ _ (by simp; omega)]
    have e : hit (x :: ws) i = (hit1 i x || hit ws i) := by simp [hit]
    rw [e]
    cases h2 : hit ws i
    · cases h1 : hit1 i x
      · have := of_decide_eq_false h1
        rw [if_neg (by decide), if_neg (by simpa using this)]
        simp
      · have := of_decide_eq_true h1
        rw [if_neg (by decide), if_pos (by simpa using this)]
        simp only [Bool.true_or, if_true]
        rw [List.getD_eq_getElem?_getD, List.getElem?_replicate]
        split <;> rfl
    · simp
theorem take_eq {l l' : List Int} {q : Nat} (h : q ≤ l.length) (h' : q ≤ l'.length) (e : ∀ i, i < q → l.getD i 0 = l'.getD i 0) : l.take q = l'.take q := by
  apply List.ext_getElem?
  intro i
  by_cases c : i < q
  · rw [List.getElem?_take_of_lt c, List.getElem?_take_of_lt c]
    have := e i c
    rw [List.getD_eq_getElem?_getD, List.getD_eq_getElem?_getD, List.getElem?_eq_getElem (show i < l.length by omega), List.getElem?_eq_getElem (show i < l'.length by omega)] at this
    rw [List.getElem?_eq_getElem (show i < l.length by omega), List.getElem?_eq_getElem (show i < l'.length by omega)]
    simpa using this
  · rw [List.getElem?_eq_none (by rw [List.length_take]; omega), List.getElem?_eq_none (by rw [List.length_take]; omega)]
/-- What both images keep. -/
def Gd (lim : Int) (B Was ws : List Int) (m : Nat) : Prop :=
  (isB B ∧ isB Was) ∧ (200 ≤ Was.length ∧ Was.length ≤ B.length ∧ B.length ≤ 70000) ∧ (B.length % 8 = 0 ∧ Was.length % 8 = 0) ∧ (∀ x ∈ ws, 192 ≤ x ∧ x % 8 = 0 ∧ x + 8 ≤ (Was.length : Int)) ∧ ws.length ≤ m ∧ (zeroW B ws).take Was.length = Was ∧ (0 ≤ lim ∧ lim ≤ 65535)
theorem Gd.inB {lim : Int} {B Was ws : List Int} {m : Nat} (h : Gd lim B Was ws m) : ∀ x ∈ ws, 0 ≤ x ∧ x + 8 ≤ (B.length : Int) := fun x hx => by
  obtain ⟨_, ⟨_, h2, _⟩, _, h4, _⟩ := h
  have := h4 x hx
  omega
theorem Gd.zl {lim : Int} {B Was ws : List Int} {m : Nat} (h : Gd lim B Was ws m) : (zeroW B ws).length = B.length := zeroW_len B ws h.inB
theorem getN_zero {B : List Int} (hb : isB B) (j : Nat) (h : j + 8 ≤ B.length) (h0 : getN B j 8 = 0) (i : Nat) (h1 : j ≤ i) (h2 : i < j + 8) : B.getD i 0 = 0 := by
  have := getN_bytes B hb (j : Int) 8 (fits_ok ⟨by omega, by omega, by omega, by omega⟩)
  rw [h0, Int.toNat_natCast, show (8 : Int).toNat = 8 from rfl] at this
  have e : (B.drop j).take 8 = List.replicate 8 0 := by rw [← this]; decide
  have e2 : ((B.drop j).take 8).getD (i - j) 0 = 0 := by
    rw [e, List.getD_eq_getElem?_getD, List.getElem?_replicate]
    split <;> rfl
  rw [List.getD_eq_getElem?_getD, List.getElem?_take_of_lt (by omega), List.getElem?_drop, show j + (i - j) = i by omega, ← List.getD_eq_getElem?_getD] at e2
  exact e2
theorem Gd.set {lim : Int} {B Was ws : List Int} {m : Nat} (h : Gd lim B Was ws m) (a x : Int) : Gd lim (setB B a x) Was (setW B ws (Was.length : Int) a) (m + 1) := by
  have hG := h
  obtain ⟨⟨hb, hwb⟩, ⟨l1, l2, l3⟩, ⟨m1, m2⟩, hw, hm, hz, hlim⟩ := h
  by_cases hc : setC B a = 0
  · have hok : (a % 8 = 0 ∧ 192 ≤ a ∧ a + 8 ≤ (B.length : Int)) ∧ getN B a 8 = 0 := by
      rw [setC] at hc
      by_cases c1 : a % 8 = 0 ∧ 192 ≤ a ∧ a + 8 ≤ (B.length : Int)
      · rw [if_pos c1] at hc
        by_cases c2 : getN B a 8 = 0
        · exact ⟨c1, c2⟩
        · rw [if_neg c2] at hc; exact absurd hc (by decide)
      · rw [if_neg c1] at hc; exact absurd hc (by decide)
    obtain ⟨⟨a8, a0, a1⟩, hx⟩ := hok
    obtain ⟨j, rfl⟩ := Int.eq_ofNat_of_zero_le (show 0 ≤ a by omega)
    have e1 : setB B (j : Int) x = splice B j (leB x 8) := if_pos hc
    have hl : (splice B j (leB x 8)).length = B.length := length_splice _ _ _ (by rw [leB_len]; omega)
    have hsb : isB (splice B j (leB x 8)) := (hb.take _).app ((leB_isB _ _).app (hb.drop _))
    have hs : ∀ i, (splice B j (leB x 8)).getD i 0 = if j ≤ i ∧ i < j + 8 then (leB x 8).getD (i - j) 0 else B.getD i 0 := fun i => by
      have := splice_getD B j (leB x 8) (by rw [leB_len]; omega) i
      rw [leB_len] at this
      exact this
    rw [e1]
    by_cases c : (j : Int) < (Was.length : Int)
    · have e2 : setW B ws (Was.length : Int) (j : Int) = ws ++ [(j : Int)] := if_pos ⟨hc, c⟩
      rw [e2]
      have hw2 : ∀ y ∈ ws ++ [(j : Int)], 192 ≤ y ∧ y % 8 = 0 ∧ y + 8 ≤ (Was.length : Int) := fun y hy => by
        rcases List.mem_append.1 hy with hy | hy
        · exact hw y hy
        · rw [List.mem_singleton.1 hy]; omega
      refine ⟨⟨hsb, hwb⟩, ⟨l1, by omega, by omega⟩, ⟨by omega, m2⟩, hw2, by rw [List.length_append]; simp; omega, ?_, hlim⟩
      rw [← hz, hz]
      conv => rhs; rw [← hz]
      refine take_eq (by rw [zeroW_len _ _ (fun y hy => by have := hw2 y hy; omega)]; omega) (by rw [hG.zl]; omega) fun i hi => ?_
      rw [zeroW_getD _ _ (fun y hy => by have := hw2 y hy; omega), zeroW_getD _ _ hG.inB, hs]
      have e3 : hit (ws ++ [(j : Int)]) i = (hit ws i || hit1 i (j : Int)) := by simp [hit]
      rw [e3]
      cases hh : hit ws i
      · cases h1 : hit1 i (j : Int)
        · have := of_decide_eq_false h1
          rw [Int.toNat_natCast] at this
          rw [if_neg this]
          simp
        · have := of_decide_eq_true h1
          rw [Int.toNat_natCast] at this
          have := getN_zero hb j (by omega) hx i this.1 this.2
          rw [this, if_pos (by decide), if_neg (by decide)]
      · simp
    · have e2 : setW B ws (Was.length : Int) (j : Int) = ws := if_neg (fun hh => c hh.2)
      rw [e2]
      refine ⟨⟨hsb, hwb⟩, ⟨l1, by omega, by omega⟩, ⟨by omega, m2⟩, hw, by omega, ?_, hlim⟩
      conv => rhs; rw [← hz]
      refine take_eq (by rw [zeroW_len _ _ (fun y hy => by have := hw y hy; omega)]; omega) (by rw [hG.zl]; omega) fun i hi => ?_
      rw [zeroW_getD _ _ (fun y hy => by have := hw y hy; omega), zeroW_getD _ _ hG.inB, hs, if_neg (show ¬ (j ≤ i ∧ i < j + 8) by omega)]
  · rw [setB_no hc, setW_no hc]
    exact ⟨⟨hb, hwb⟩, ⟨l1, l2, l3⟩, ⟨m1, m2⟩, hw, by omega, hz, hlim⟩
theorem objZ_mod8 (kd : Int) (ws_ raw it : List Int) : (objZ kd ws_ raw it).length % 8 = 0 := by
  obtain ⟨L, hL⟩ : ∃ L, (objB kd ws_ raw it).length = L := ⟨_, rfl⟩
  rw [objZ, List.length_append, List.length_replicate, hL]
  unfold padN
  split <;> omega
theorem Gd.put {lim : Int} {B Was ws : List Int} {m : Nat} (h : Gd lim B Was ws m) (kd : Int) (ws_ raw it : List Int) (hr : isB raw) : Gd lim (putB B lim kd ws_ raw it) Was ws (m + 1) := by
  have hG := h
  obtain ⟨⟨hb, hwb⟩, ⟨l1, l2, l3⟩, ⟨m1, m2⟩, hw, hm, hz, hlim⟩ := h
  by_cases hc : putC B lim kd ws_ raw it = 0
  · have hok : oR kd ws_.length raw.length it.length = true ∧ ((objZ kd ws_ raw it).length : Int) ≤ lim - B.length := by
      rw [putC] at hc
      by_cases c1 : oR kd ws_.length raw.length it.length = true
      · rw [if_pos c1] at hc
        by_cases c2 : ((objZ kd ws_ raw it).length : Int) ≤ lim - B.length
        · exact ⟨c1, c2⟩
        · rw [if_neg c2] at hc; exact absurd hc (by decide)
      · rw [if_neg c1] at hc; exact absurd hc (by decide)
    rw [show putB B lim kd ws_ raw it = B ++ objZ kd ws_ raw it from if_pos hc]
    have h8 : (objZ kd ws_ raw it).length % 8 = 0 := objZ_mod8 kd ws_ raw it
    have hl : (B ++ objZ kd ws_ raw it).length = B.length + (objZ kd ws_ raw it).length := List.length_append
    refine ⟨⟨hb.app (objZ_isB kd hr), hwb⟩, ⟨l1, by omega, by omega⟩, ⟨by omega, m2⟩, hw, by omega, ?_, hlim⟩
    conv => rhs; rw [← hz]
    refine take_eq (by rw [zeroW_len _ _ (fun y hy => by have := hw y hy; omega)]; omega) (by rw [hG.zl]; omega) fun i hi => ?_
    rw [zeroW_getD _ _ (fun y hy => by have := hw y hy; omega), zeroW_getD _ _ hG.inB, List.getD_eq_getElem?_getD (l := B ++ objZ kd ws_ raw it), List.getElem?_append_left (by omega), ← List.getD_eq_getElem?_getD]
  · rw [putB_no hc]
    exact ⟨⟨hb, hwb⟩, ⟨l1, l2, l3⟩, ⟨m1, m2⟩, hw, by omega, hz, hlim⟩
theorem Gd.done {lim : Int} {B Was ws : List Int} {m : Nat} (h : Gd lim B Was ws m) : Gd lim B B [] (m + 1) := by
  obtain ⟨⟨hb, hwb⟩, ⟨l1, l2, l3⟩, ⟨m1, m2⟩, hw, hm, hz, hlim⟩ := h
  exact ⟨⟨hb, hb⟩, ⟨by omega, Nat.le_refl _, l3⟩, ⟨m1, m1⟩, fun x hx => by simp at hx, by simp, List.take_length, hlim⟩
theorem Gd.back {lim : Int} {B Was ws : List Int} {m : Nat} (h : Gd lim B Was ws m) : Gd lim Was Was [] (m + 1) := by
  obtain ⟨⟨hb, hwb⟩, ⟨l1, l2, l3⟩, ⟨m1, m2⟩, hw, hm, hz, hlim⟩ := h
  exact ⟨⟨hwb, hwb⟩, ⟨l1, Nat.le_refl _, by omega⟩, ⟨m2, m2⟩, fun x hx => by simp at hx, by simp, List.take_length, hlim⟩
end Go.Proofs.Ytigdchfjcfljjaa
end
section
/- Images: an act, done to both. -/
namespace Go.Proofs.Ytigdchfjcfljjaa
open Go.RowKit Go.Proofs.YtigdchfjcfljjaaW.PrintWords Go.Proofs.YtigdchfjcfljjaaW.PrintLast Go.Proofs.YtigdchfjcfljjaaW.PrintMore
attribute [local go_sem] max2_int min2_int max_two min_two max_three min_three max_four min_four   -- for this text's walks alone
set_option linter.unusedVariables false
set_option linter.unusedSimpArgs false

theorem ImS.kp {W W' : World} {g base : Nat} {H : Hd} {B ws : List Int} {lim fr : Int} {F : Nat → Prop} (h : ImS W W' g base H B lim fr ws F) : Kp F W W' := h.2
theorem RmS.kp {W W' : World} {g base : Nat} {H : Hd} {B Was ws : List Int} {lim : Int} {F : Nat → Prop} (h : RmS W W' g base H B Was lim ws F) : Kp F W W' := h.2
theorem below_kp {base : Nat} {w w0 w1 : World} {S : Nat → Prop} (h : Below base w w0) (hk : Kp S w0 w1) (hs : base ≤ w.heap.size) (hS : ∀ k, S k → base ≤ k) : Below base w w1 :=
  ⟨hk.os.trans h.os, hk.tape.trans h.tape, hk.output.trans h.output, Nat.le_trans h.size hk.size, fun k hlt => (hk.block k (Nat.lt_of_lt_of_le hlt (Nat.le_trans hs h.size)) (fun hh => absurd (hS k hh) (Nat.not_le_of_lt hlt))).trans (h.block k hlt)⟩
/-- Both images, alike. -/
def Pr (W : World) (g1 b1 g2 b2 : Nat) (H : Hd) (lim : Int) (B Was ws : List Int) (m : Nat) (F1 F2 : Nat → Prop) : Prop :=
  (∃ vb vw, Im W g1 b1 H B lim (Was.length : Int) ws F1 vb vw) ∧ (∃ vb va vw, Rm W g2 b2 H B Was lim ws F2 vb va vw) ∧ (∀ k, F1 k → ¬ F2 k) ∧ Gd lim B Was ws m
def PrS (w w' : World) (g1 b1 g2 b2 : Nat) (H : Hd) (lim : Int) (Was : List Int) (m : Nat) (F1 F2 : Nat → Prop) (keep : Prop) : Prop :=
  ∃ B' Was' ws' F1' F2', Pr w' g1 b1 g2 b2 H lim B' Was' ws' (m + 1) F1' F2' ∧ (∀ k, F1' k → ext F1 w w' k) ∧ (∀ k, F2' k → ext F2 w w' k) ∧ Kp (fun k => F1 k ∨ F2 k) w w' ∧ (keep → Was' = Was)
def AcR (w : World) (base : Nat) (nn : Int) (ws_ raw it : List Int) (A1 A2 A3 : Option Addr) (c1 c2 c3 : Nat) : Prop :=
  (∀ w1, Below base w w1 → Rd w1 .u64 (.slice A1 ws_.length c1) ws_ ∧ Rd w1 .u8 (.slice A2 raw.length c2) raw ∧ Rd w1 .u64 (.slice A3 it.length c3) it) ∧ isW ws_ ∧ isB raw ∧ isW it ∧ (ws_.length ≤ 10 ∧ raw.length ≤ 300 ∧ it.length ≤ 80) ∧ (0 ≤ nn ∧ nn ≤ 18446744073709551615)
theorem Pr.rm {w w0 w1 w2 : World} {g2 b2 : Nat} {H : Hd} {lim : Int} {B Was ws : List Int} {F1 F2 : Nat → Prop} {vb va vw : Value} (hd : ∀ k, F1 k → ¬ F2 k) (h : Rm w g2 b2 H B Was lim ws F2 vb va vw) (hb0 : Below w.heap.size w w0) (hk : Kp F1 w0 w1) (hb1 : Below w1.heap.size w1 w2) : Rm w2 g2 b2 H B Was lim ws F2 vb va vw :=
  ((h.below hb0).kp hk (fun k h2 h1 => hd k h1 h2)).below hb1
theorem PrS.of {w w0 w1 w2 w3 : World} {g1 b1 g2 b2 : Nat} {H : Hd} {lim : Int} {B Was ws B' Was' ws' : List Int} {m : Nat} {F1 F2 : Nat → Prop} {keep : Prop} (h : Pr w g1 b1 g2 b2 H lim B Was ws m F1 F2) (hb0 : Below w.heap.size w w0) (h1 : ImS w0 w1 g1 b1 H B' lim (Was'.length : Int) ws' F1) (hb1 : Below w1.heap.size w1 w2)
    (h2 : RmS w2 w3 g2 b2 H B' Was' lim ws' F2) (hG : Gd lim B' Was' ws' (m + 1)) (hkeep : keep → Was' = Was) : PrS w w3 g1 b1 g2 b2 H lim Was m F1 F2 keep := by
  obtain ⟨⟨vb, vw, hI⟩, ⟨xb, xa, xw, hR⟩, hd, _⟩ := h
  obtain ⟨⟨vb', vw', hI'⟩, hk1⟩ := h1
  obtain ⟨⟨xb', xa', xw', hR'⟩, hk2⟩ := h2
  have s0 := hb0.size
  have s1 := hk1.size
  have s2 := hb1.size
  have s3 := hk2.size
  have f1 : ∀ k, F1 k → k < w.heap.size := fun k hk => hI.lt hk
  have f2 : ∀ k, F2 k → k < w.heap.size := fun k hk => hR.lt hk
  refine ⟨B', Was', ws', ext F1 w0 w1, ext F2 w2 w3, ⟨⟨vb', vw', ?_⟩, ⟨xb', xa', xw', hR'⟩, ?_, hG⟩, ?_, ?_, ?_, hkeep⟩
  · exact (hI'.below hb1).kp hk2 (fun k hk h2 => by
      rcases hk with hk | hk
      · exact hd k hk h2
      · have := f2 k h2
        omega)
  · rintro k (hk | hk) (h2 | h2)
    · exact hd k hk h2
    · have := f1 k hk
      omega
    · have := f2 k h2
      omega
    · omega
  · rintro k (hk | hk)
    · exact .inl hk
    · exact .inr ⟨by omega, by omega⟩
  · rintro k (hk | hk)
    · exact .inl hk
    · exact .inr ⟨by omega, by omega⟩
  · have e1 : Kp (fun k => F1 k ∨ F2 k) w w2 := ((Kp.of_below hb0 _).trans (hk1.mono (fun k hk => .inl hk)) (fun k hk => .inl hk)).below hb1
    exact e1.trans (hk2.mono (fun k hk => .inr hk)) (fun k hk => .inl hk)



set_option maxHeartbeats 8000000 in
set_option maxRecDepth 100000 in
theorem does_else (g1 b1 g2 b2 : Nat) (H : Hd) (lim : Int) (B Was ws : List Int) (m : Nat) (F1 F2 : Nat → Prop) (kind at_ nn kd : Int) (ws_ raw it : List Int) (A1 A2 A3 : Option Addr) (c1 c2 c3 : Nat) (w : World) (hP : Pr w g1 b1 g2 b2 H lim B Was ws m F1 F2) (base : Nat) (hb12 : base ≤ b1 ∧ base ≤ b2) (hA : AcR w base nn ws_ raw it A1 A2 A3 c1 c2 c3) (hm : m ≤ 1000) (a0 : -9223372036854775808 ≤ at_) (a1 : at_ ≤ 9223372036854775807) (h0 : kind ≠ 0) (h1 : kind ≠ 1) (h2 : kind ≠ 2) (h3 : kind ≠ 3) : Calls Try.prog 50 #[.pointer (some ⟨g1, 0, none⟩), .pointer (some ⟨g2, 0, none⟩), .agg #[.int .i64 kind, .int .i64 at_, .int .u64 nn, .int .i64 kd, .slice A1 ws_.length c1, .slice A2 raw.length c2, .slice A3 it.length c3]] w fun e w' => e = .returned (.bool true) ∧ PrS w w' g1 b1 g2 b2 H lim Was m F1 F2 (kind ≠ 2 ∧ kind ≠ 3) := by
  have e0 : (kind == 0) = false := by simpa using h0
  have e1 : (kind == 1) = false := by simpa using h1
  have e2 : (kind == 2) = false := by simpa using h2
  have e3 : (kind == 3) = false := by simpa using h3
  obtain ⟨⟨vb, vw, hI⟩, ⟨xb, xa, xw, hR⟩, hd, hG⟩ := id hP
  obtain ⟨rr, iw, ib, ii, ⟨q1, q2, q3⟩, n0, n1⟩ := hA
  have HP := Aside0.mk hP
  have HI := Aside0.mk hI
  have HRM := Aside0.mk hR
  have HD := Aside0.mk hd
  have HG := Aside0.mk hG
  have HB := Aside0.mk (below_alloc (Below.refl w.heap.size w) (.cells #[.int .i64 kind, .int .i64 at_, .int .u64 nn, .int .i64 kd, .slice A1 ws_.length c1, .slice A2 raw.length c2, .slice A3 it.length c3] 81))
  have HZ := Aside0.mk (blk_new w (.cells #[.int .i64 kind, .int .i64 at_, .int .u64 nn, .int .i64 kd, .slice A1 ws_.length c1, .slice A2 raw.length c2, .slice A3 it.length c3] 81))
  have HF1 := Aside0.mk (fun k hk => hI.lt (k := k) hk)
  have HF2 := Aside0.mk (fun k hk => hR.lt (k := k) hk)
  have hBl : B.length ≤ 100000 := Nat.le_trans hG.2.1.2.2 (by decide)
  have hwl : ws.length ≤ 1000000 := Nat.le_trans hG.2.2.2.2.1 (Nat.le_trans hm (by decide))
  obtain ⟨t, ht⟩ : ∃ t : Nat, B.length = 8 * t := ⟨B.length / 8, by have := hG.2.2.1.1; omega⟩
  have ht0 : 25 ≤ t := by have := hG.2.1; omega
  have ht1 : t ≤ 8750 := by have := hG.2.1; omega
  obtain ⟨U, hU⟩ : ∃ U, IntKind.u64.wrap at_ = U := ⟨_, rfl⟩
  have hU0 : 0 ≤ U := by rw [← hU, IntKind.wrap_u64]; omega
  obtain ⟨V, hV⟩ : ∃ V, U % (t : Int) = V := ⟨_, rfl⟩
  have hV0 : 0 ≤ V := by rw [← hV]; exact Int.emod_nonneg _ (by omega)
  have hV1 : V < t := by rw [← hV]; exact Int.emod_lt_of_pos _ (by omega)
  have hVt : U.tmod (t : Int) = V := by rw [Int.tmod_eq_emod_of_nonneg hU0, hV]
  obtain ⟨ap, hap⟩ : ∃ a, 8 * V = a := ⟨_, rfl⟩
  obtain ⟨cc, hcc⟩ : ∃ c, setC B ap = c := ⟨_, rfl⟩
  have bcc : (cc == cc) = true := by simp
  have C1 := Aside0.mk (fun (w1 : World) (hb : Below w.heap.size w w1) => Set_any g1 b1 H B lim _ ws F1 vb vw w1 (hI.below hb) hG.1.1 hBl ap nn n0 n1 hwl)
  have C2 := Aside0.mk (fun (w1 : World) (h : Rm w1 g2 b2 H B Was lim ws F2 xb xa xw) => RSet_any g2 b2 H B Was lim ws F2 xb xa xw w1 h hG.1.1 hBl _ rfl ap nn n0 n1 hwl)
  rw [hcc] at C1 C2
  have HG2 := Aside0.mk (hG.set ap nn)
  obtain ⟨Ab, cb, ev, _, _⟩ := hR.b.sl ht
  have HEV := Aside0.mk ev
  have hRb : Rm w g2 b2 H B Was lim ws F2 (.slice Ab (8 * t) cb) xa xw := by rw [← ev]; exact hR
  have HRB := Aside0.mk hRb
  have hdv : ((8 * t : Nat) : Int).tdiv 8 = (t : Int) := by rw [Int.tdiv_eq_ediv_of_nonneg (by omega)]; omega
  have hdv2 : ((8 * t : Nat) : Int) / 8 = (t : Int) := by omega
  have hdv3 : (8 * (t : Int)).tdiv 8 = (t : Int) := by rw [Int.tdiv_eq_ediv_of_nonneg (by omega)]; omega
  have hdv4 : (8 * (t : Int)) / 8 = (t : Int) := by omega
  have hw1 : IntKind.u64.wrap (t : Int) = (t : Int) := by rw [IntKind.wrap_u64]; omega
  have hw2 : IntKind.i64.wrap (t : Int) = (t : Int) := by rw [IntKind.wrap_i64]; omega
  have hw3 : IntKind.i64.wrap V = V := by rw [IntKind.wrap_i64]; omega
  have hw4 : IntKind.u64.wrap V = V := by rw [IntKind.wrap_u64]; omega
  have hw5 : IntKind.i64.wrap (8 * V) = ap := by rw [IntKind.wrap_i64]; omega
  have hw6 : wrap64 (8 * V) = ap := by simp only [wrap64]; omega
  have ht2 : ((t : Int) == 0) = false := by rw [beq_eq_false_iff_ne]; omega
  have htn : ¬ t = 0 := by omega
  have HAD := Aside0.mk (And.intro hw1 (And.intro hw2 (And.intro hw3 (And.intro hw4 (And.intro hw5 hw6)))))
  clear hw1 hw2 hw3 hw4 hw5 hw6
  clear hP hI hR hd hG rr iw ib ii q1 q2 q3 n0 n1 hm hBl hwl hcc a0 a1 hRb ev hV hap
  go_enter Try.func50, Try.ntmps50
  go_upto_region 1 with fail
  obtain ⟨w0, hw0⟩ : ∃ w0, w.alloc (.cells #[.int .i64 kind, .int .i64 at_, .int .u64 nn, .int .i64 kd, .slice A1 ws_.length c1, .slice A2 raw.length c2, .slice A3 it.length c3] 81) = w0 := ⟨_, rfl⟩
  rw [hw0] at HZ HB ⊢
  clear hw0
  have z0 : (w0).cell? ⟨w.heap.size, 0, none⟩ = some (.int .i64 kind) := blk_cell HZ.out 0
  have z1 : (w0).cell? ⟨w.heap.size, 1, none⟩ = some (.int .i64 at_) := blk_cell HZ.out 1
  have z2 : (w0).cell? ⟨w.heap.size, 2, none⟩ = some (.int .u64 nn) := blk_cell HZ.out 2
  have z3 : (w0).cell? ⟨w.heap.size, 3, none⟩ = some (.int .i64 kd) := blk_cell HZ.out 3
  have z4 : (w0).cell? ⟨w.heap.size, 4, none⟩ = some (.slice A1 ws_.length c1) := blk_cell HZ.out 4
  have z5 : (w0).cell? ⟨w.heap.size, 5, none⟩ = some (.slice A2 raw.length c2) := blk_cell HZ.out 5
  have z6 : (w0).cell? ⟨w.heap.size, 6, none⟩ = some (.slice A3 it.length c3) := blk_cell HZ.out 6
  have y5 : w0.cell? ⟨g2, 5, none⟩ = some (.slice Ab (8 * t) cb) := blk_cell (HRB.out.below HB.out).blk 5
  go_upto_region 2 with fail
  obtain ⟨hw1, hw2, hw3, hw4, hw5, hw6⟩ := HAD.out
  refine start_ (n := 14) (S := fun w' => w'.cell? ⟨w.heap.size, 1, none⟩ = some (.int .i64 at_) ∧ w'.cell? ⟨g2, 5, none⟩ = some (.slice Ab (8 * t) cb)) (ds := []) #[false, false, false, false, false, false, false, false, false, false, false, false, false, false] (by kernel_rfl) rfl rfl ⟨z1, y5⟩ (fun hHeld => ?_)
  refine pure_ (i := 0) (N := some 14) (v := ?_) (a' := ?_) #[true, false, false, false, false, false, false, false, false, false, false, false, false, false] rfl rfl (by kernel_rfl) (fun _ _ _ h => h) (Or.inl ⟨by rfl, ?_⟩) ?_ ?_
  rotate_left
  · intro w'
    go_simp
    with_reducible rfl
  rotate_left
  · simp only [Act.put, List.setIfInBounds_toArray, List.set_cons_zero, List.set_cons_succ, i64_w, i32_w]
    rfl
  refine pure_ (i := 3) (N := some 17) (v := ?_) (a' := ?_) #[true, false, false, true, false, false, false, false, false, false, false, false, false, false] rfl rfl (by kernel_rfl) (fun _ _ _ h => h) (Or.inl ⟨by rfl, ?_⟩) ?_ ?_
  rotate_left
  · intro w'
    go_simp
    with_reducible rfl
  rotate_left
  · simp only [Act.put, List.setIfInBounds_toArray, List.set_cons_zero, List.set_cons_succ, i64_w, i32_w]
    rfl
  refine pure_ (i := 4) (N := some 18) (v := ?_) (a' := ?_) #[true, false, false, true, true, false, false, false, false, false, false, false, false, false] rfl rfl (by kernel_rfl) (fun _ _ _ h => h) (Or.inl ⟨by rfl, ?_⟩) ?_ ?_
  rotate_left
  · intro w'
    go_simp
    with_reducible rfl
  rotate_left
  · simp only [Act.put, List.setIfInBounds_toArray, List.set_cons_zero, List.set_cons_succ, i64_w, i32_w]
    rfl
  refine pure_ (i := 5) (N := some 19) (v := ?_) (a' := ?_) #[true, false, false, true, true, true, false, false, false, false, false, false, false, false] rfl rfl (by kernel_rfl) (fun _ _ _ h => h) (Or.inl ⟨by rfl, ?_⟩) ?_ ?_
  rotate_left
  · intro w'
    go_simp
    with_reducible rfl
  rotate_left
  · simp only [Act.put, List.setIfInBounds_toArray, List.set_cons_zero, List.set_cons_succ, i64_w, i32_w]
    rfl
  refine take_ (i := 1) (N := some 15) (v := ?_) (a' := ?_) #[true, true, false, true, true, true, false, false, false, false, false, false, false, false] rfl rfl (by kernel_rfl) (fun _ _ _ h => h) (Or.inl ⟨by rfl, ?_⟩) hHeld ?_ ?_
  rotate_left
  · rintro w' ⟨s0, s1⟩
    go_simp
    with_reducible rfl
  rotate_left
  · simp only [Act.put, List.setIfInBounds_toArray, List.set_cons_zero, List.set_cons_succ, i64_w, i32_w]
    rfl
  refine pure_ (i := 2) (N := some 16) (v := ?_) (a' := ?_) #[true, true, true, true, true, true, false, false, false, false, false, false, false, false] rfl rfl (by kernel_rfl) (fun _ _ _ h => h) (Or.inl ⟨by rfl, ?_⟩) ?_ ?_
  rotate_left
  · intro w'
    go_simp
    with_reducible rfl
  rotate_left
  · simp only [Act.put, List.setIfInBounds_toArray, List.set_cons_zero, List.set_cons_succ, i64_w, i32_w]
    rfl
  refine take_ (i := 6) (N := some 20) (v := ?_) (a' := ?_) #[true, true, true, true, true, true, true, false, false, false, false, false, false, false] rfl rfl (by kernel_rfl) (fun _ _ _ h => h) (Or.inl ⟨by rfl, ?_⟩) hHeld ?_ ?_
  rotate_left
  · rintro w' ⟨s0, s1⟩
    go_simp
    with_reducible rfl
  rotate_left
  · simp only [Act.put, List.setIfInBounds_toArray, List.set_cons_zero, List.set_cons_succ, i64_w, i32_w]
    rfl
  refine pure_ (i := 7) (N := some 21) (v := ?_) (a' := ?_) #[true, true, true, true, true, true, true, true, false, false, false, false, false, false] rfl rfl (by kernel_rfl) (fun _ _ _ h => h) (Or.inl ⟨by rfl, ?_⟩) ?_ ?_
  rotate_left
  · intro w'
    go_simp
    with_reducible rfl
  rotate_left
  · simp only [Act.put, List.setIfInBounds_toArray, List.set_cons_zero, List.set_cons_succ, i64_w, i32_w]
    rfl
  refine pure_ (i := 8) (N := some 22) (v := ?_) (a' := ?_) #[true, true, true, true, true, true, true, true, true, false, false, false, false, false] rfl rfl (by kernel_rfl) (fun _ _ _ h => h) (Or.inl ⟨by rfl, ?_⟩) ?_ ?_
  rotate_left
  · intro w'
    go_simp
    with_reducible rfl
  rotate_left
  · simp only [Act.put, List.setIfInBounds_toArray, List.set_cons_zero, List.set_cons_succ, i64_w, i32_w]
    rfl
  refine pure_ (i := 9) (N := some 23) (v := ?_) (a' := ?_) #[true, true, true, true, true, true, true, true, true, true, false, false, false, false] rfl rfl (by kernel_rfl) (fun _ _ _ h => h) (Or.inl ⟨by rfl, ?_⟩) ?_ ?_
  rotate_left
  · intro w'
    go_simp
    with_reducible rfl
  rotate_left
  · simp only [Act.put, List.setIfInBounds_toArray, List.set_cons_zero, List.set_cons_succ, i64_w, i32_w]
    rfl
  refine pure_ (i := 10) (N := some 24) (v := ?_) (a' := ?_) #[true, true, true, true, true, true, true, true, true, true, true, false, false, false] rfl rfl (by kernel_rfl) (fun _ _ _ h => h) (Or.inl ⟨by rfl, ?_⟩) ?_ ?_
  rotate_left
  · intro w'
    go_simp
    with_reducible rfl
  rotate_left
  · simp only [Act.put, List.setIfInBounds_toArray, List.set_cons_zero, List.set_cons_succ, i64_w, i32_w]
    rfl
  refine pure_ (i := 11) (N := some 25) (v := ?_) (a' := ?_) #[true, true, true, true, true, true, true, true, true, true, true, true, false, false] rfl rfl (by kernel_rfl) (fun _ _ _ h => h) (Or.inl ⟨by rfl, ?_⟩) ?_ ?_
  rotate_left
  · intro w'
    go_simp
    with_reducible rfl
  rotate_left
  · simp only [Act.put, List.setIfInBounds_toArray, List.set_cons_zero, List.set_cons_succ, i64_w, i32_w]
    rfl
  refine pure_ (i := 12) (N := some 26) (v := ?_) (a' := ?_) #[true, true, true, true, true, true, true, true, true, true, true, true, true, false] rfl rfl (by kernel_rfl) (fun _ _ _ h => h) (Or.inl ⟨by rfl, ?_⟩) ?_ ?_
  rotate_left
  · intro w'
    go_simp
    with_reducible rfl
  rotate_left
  · simp only [Act.put, List.setIfInBounds_toArray, List.set_cons_zero, List.set_cons_succ, i64_w, i32_w]
    rfl
  refine pure_ (i := 13) (N := some 11) (v := ?_) (a' := ?_) #[true, true, true, true, true, true, true, true, true, true, true, true, true, true] rfl rfl (by kernel_rfl) (fun _ _ _ h => h) (Or.inl ⟨by rfl, ?_⟩) ?_ ?_
  rotate_left
  · intro w'
    go_simp
    with_reducible rfl
  rotate_left
  · simp only [Act.put, List.setIfInBounds_toArray, List.set_cons_zero, List.set_cons_succ, i64_w, i32_w]
    rfl
  refine done_ (by kernel_rfl) ?_
  clear hw1 hw2 hw3 hw4 hw5 hw6 z0 z1 z2 z3 z4 z5 z6 y5
  replace HZ := Aside0.mk (blk_drew HZ.out)
  replace HB := Aside0.mk (below_drew HB.out)
  obtain ⟨w5, hw5⟩ : ∃ W, w0.drew = W := ⟨_, rfl⟩
  rw [hw5] at HZ HB ⊢
  clear hw5
  have z0 : (w5).cell? ⟨w.heap.size, 0, none⟩ = some (.int .i64 kind) := blk_cell HZ.out 0
  have z1 : (w5).cell? ⟨w.heap.size, 1, none⟩ = some (.int .i64 at_) := blk_cell HZ.out 1
  have z2 : (w5).cell? ⟨w.heap.size, 2, none⟩ = some (.int .u64 nn) := blk_cell HZ.out 2
  have z3 : (w5).cell? ⟨w.heap.size, 3, none⟩ = some (.int .i64 kd) := blk_cell HZ.out 3
  have z4 : (w5).cell? ⟨w.heap.size, 4, none⟩ = some (.slice A1 ws_.length c1) := blk_cell HZ.out 4
  have z5 : (w5).cell? ⟨w.heap.size, 5, none⟩ = some (.slice A2 raw.length c2) := blk_cell HZ.out 5
  have z6 : (w5).cell? ⟨w.heap.size, 6, none⟩ = some (.slice A3 it.length c3) := blk_cell HZ.out 6
  go_upto_region 3 with fail
  refine start_ (n := 12) (S := fun w' => w'.cell? ⟨w.heap.size, 2, none⟩ = some (.int .u64 nn)) (ds := []) #[false, false, false, false, false, false, false, false, false, false, false, false] (by kernel_rfl) rfl rfl (z2) (fun hHeld => ?_)
  refine pure_ (i := 0) (N := some 27) (v := ?_) (a' := ?_) #[true, false, false, false, false, false, false, false, false, false, false, false] rfl rfl (by kernel_rfl) (fun _ _ _ h => h) (Or.inl ⟨by rfl, ?_⟩) ?_ ?_
  rotate_left
  · intro w'
    go_simp
    with_reducible rfl
  rotate_left
  · simp only [Act.put, List.setIfInBounds_toArray, List.set_cons_zero, List.set_cons_succ, i64_w, i32_w]
    rfl
  refine pure_ (i := 1) (N := some 28) (v := ?_) (a' := ?_) #[true, true, false, false, false, false, false, false, false, false, false, false] rfl rfl (by kernel_rfl) (fun _ _ _ h => h) (Or.inl ⟨by rfl, ?_⟩) ?_ ?_
  rotate_left
  · intro w'
    go_simp
    with_reducible rfl
  rotate_left
  · simp only [Act.put, List.setIfInBounds_toArray, List.set_cons_zero, List.set_cons_succ, i64_w, i32_w]
    rfl
  refine pure_ (i := 2) (N := some 29) (v := ?_) (a' := ?_) #[true, true, true, false, false, false, false, false, false, false, false, false] rfl rfl (by kernel_rfl) (fun _ _ _ h => h) (Or.inl ⟨by rfl, ?_⟩) ?_ ?_
  rotate_left
  · intro w'
    go_simp
    with_reducible rfl
  rotate_left
  · simp only [Act.put, List.setIfInBounds_toArray, List.set_cons_zero, List.set_cons_succ, i64_w, i32_w]
    rfl
  refine pure_ (i := 5) (N := some 32) (v := ?_) (a' := ?_) #[true, true, true, false, false, true, false, false, false, false, false, false] rfl rfl (by kernel_rfl) (fun _ _ _ h => h) (Or.inl ⟨by rfl, ?_⟩) ?_ ?_
  rotate_left
  · intro w'
    go_simp
    with_reducible rfl
  rotate_left
  · simp only [Act.put, List.setIfInBounds_toArray, List.set_cons_zero, List.set_cons_succ, i64_w, i32_w]
    rfl
  refine pure_ (i := 6) (N := some 33) (v := ?_) (a' := ?_) #[true, true, true, false, false, true, true, false, false, false, false, false] rfl rfl (by kernel_rfl) (fun _ _ _ h => h) (Or.inl ⟨by rfl, ?_⟩) ?_ ?_
  rotate_left
  · intro w'
    go_simp
    with_reducible rfl
  rotate_left
  · simp only [Act.put, List.setIfInBounds_toArray, List.set_cons_zero, List.set_cons_succ, i64_w, i32_w]
    rfl
  refine pure_ (i := 7) (N := some 34) (v := ?_) (a' := ?_) #[true, true, true, false, false, true, true, true, false, false, false, false] rfl rfl (by kernel_rfl) (fun _ _ _ h => h) (Or.inl ⟨by rfl, ?_⟩) ?_ ?_
  rotate_left
  · intro w'
    go_simp
    with_reducible rfl
  rotate_left
  · simp only [Act.put, List.setIfInBounds_toArray, List.set_cons_zero, List.set_cons_succ, i64_w, i32_w]
    rfl
  refine take_ (i := 3) (N := some 30) (v := ?_) (a' := ?_) #[true, true, true, true, false, true, true, true, false, false, false, false] rfl rfl (by kernel_rfl) (fun _ _ _ h => h) (Or.inl ⟨by rfl, ?_⟩) hHeld ?_ ?_
  rotate_left
  · intro w' s0
    go_simp
    with_reducible rfl
  rotate_left
  · simp only [Act.put, List.setIfInBounds_toArray, List.set_cons_zero, List.set_cons_succ, i64_w, i32_w]
    rfl
  refine take_ (i := 8) (N := some 35) (v := ?_) (a' := ?_) #[true, true, true, true, false, true, true, true, true, false, false, false] rfl rfl (by kernel_rfl) (fun _ _ _ h => h) (Or.inl ⟨by rfl, ?_⟩) hHeld ?_ ?_
  rotate_left
  · intro w' s0
    go_simp
    with_reducible rfl
  rotate_left
  · simp only [Act.put, List.setIfInBounds_toArray, List.set_cons_zero, List.set_cons_succ, i64_w, i32_w]
    rfl
  refine one_ (i := 4) (N := some 31) #[true, true, true, true, true, true, true, true, true, false, false, false] rfl rfl (by kernel_rfl) (by decide) (fun K hK => ?_)
  refine goes_ Try.func42 (by kernel_rfl) rfl #[.pointer (some ⟨g1, 0, none⟩), .int .i64 ap, .int .u64 nn] (by rfl) rfl rfl (by (try simp only [List.map_toArray, List.map_cons, List.map_nil]); first | done | rfl) ?_
  with_reducible refine (C1.out _ (below_drew HB.out)).mono ?_
  rintro e w1 ⟨rfl, hs1⟩
  refine ⟨_, rfl, ?_⟩
  have hz1 := hs1.kp.blk (blk_drew HZ.out) (fun h => Nat.lt_irrefl _ (HF1.out _ h))
  refine hK.out _ _ ((blk_cell hz1 2)) (fun hHeld => ?_)
  clear hK K
  refine norm_ (a' := ?_) ?_ ?_
  rotate_left
  · show Act.put _ (some 31) _ = _
    simp only [Act.put, List.setIfInBounds_toArray, List.set_cons_zero, List.set_cons_succ, i64_w, i32_w]
    rfl
  refine one_ (i := 9) (N := some 36) #[true, true, true, true, true, true, true, true, true, true, false, false] rfl rfl (by kernel_rfl) (by decide) (fun K hK => ?_)
  refine goes_ Try.func121 (by kernel_rfl) rfl #[.pointer (some ⟨g2, 0, none⟩), .int .i64 ap, .int .u64 nn] (by rfl) rfl rfl (by (try simp only [List.map_toArray, List.map_cons, List.map_nil]); first | done | rfl) ?_
  with_reducible refine (C2.out _ (Pr.rm HD.out HRM.out (below_drew HB.out) hs1.kp (Below.refl _ _))).mono ?_
  rintro e w2 ⟨rfl, hs2⟩
  refine ⟨_, rfl, ?_⟩
  refine hK.out _ _ ((blk_cell (hs2.kp.blk hz1 (fun h => Nat.lt_irrefl _ (HF2.out _ h))) 2)) (fun hHeld => ?_)
  clear hK K
  refine norm_ (a' := ?_) ?_ ?_
  rotate_left
  · show Act.put _ (some 36) _ = _
    simp only [Act.put, List.setIfInBounds_toArray, List.set_cons_zero, List.set_cons_succ, i64_w, i32_w]
    rfl
  refine pure_ (i := 10) (N := some 37) (v := ?_) (a' := ?_) #[true, true, true, true, true, true, true, true, true, true, true, false] rfl rfl (by kernel_rfl) (fun _ _ _ h => h) (Or.inl ⟨by rfl, ?_⟩) ?_ ?_
  rotate_left
  · intro w'
    go_simp
    with_reducible rfl
  rotate_left
  · simp only [Act.put, List.setIfInBounds_toArray, List.set_cons_zero, List.set_cons_succ, i64_w, i32_w]
    rfl
  refine pure_ (i := 11) (N := some 6) (v := ?_) (a' := ?_) #[true, true, true, true, true, true, true, true, true, true, true, true] rfl rfl (by kernel_rfl) (fun _ _ _ h => h) (Or.inl ⟨by rfl, ?_⟩) ?_ ?_
  rotate_left
  · intro w'
    go_simp
    with_reducible rfl
  rotate_left
  · simp only [Act.put, List.setIfInBounds_toArray, List.set_cons_zero, List.set_cons_succ, i64_w, i32_w]
    rfl
  refine done_ (by kernel_rfl) ?_
  have HE := Aside0.mk (PrS.of (keep := kind ≠ 2 ∧ kind ≠ 3) HP.out (below_drew HB.out) hs1 (Below.refl _ _) hs2 HG2.out (fun _ => rfl))
  clear hs1 hs2 hz1 z0 z1 z2 z3 z4 z5 z6
  go_wp2_with fail
  go_ret
  exact ⟨rfl, HE.out⟩

set_option maxHeartbeats 8000000 in
set_option maxRecDepth 100000 in
theorem does_set (g1 b1 g2 b2 : Nat) (H : Hd) (lim : Int) (B Was ws : List Int) (m : Nat) (F1 F2 : Nat → Prop) (kind at_ nn kd : Int) (ws_ raw it : List Int) (A1 A2 A3 : Option Addr) (c1 c2 c3 : Nat) (w : World) (hP : Pr w g1 b1 g2 b2 H lim B Was ws m F1 F2) (base : Nat) (hb12 : base ≤ b1 ∧ base ≤ b2) (hA : AcR w base nn ws_ raw it A1 A2 A3 c1 c2 c3) (hm : m ≤ 1000) (a0 : -9223372036854775808 ≤ at_) (a1 : at_ ≤ 9223372036854775807) (hk : kind = 0) : Calls Try.prog 50 #[.pointer (some ⟨g1, 0, none⟩), .pointer (some ⟨g2, 0, none⟩), .agg #[.int .i64 0, .int .i64 at_, .int .u64 nn, .int .i64 kd, .slice A1 ws_.length c1, .slice A2 raw.length c2, .slice A3 it.length c3]] w fun e w' => e = .returned (.bool true) ∧ PrS w w' g1 b1 g2 b2 H lim Was m F1 F2 ((0 : Int) ≠ 2 ∧ (0 : Int) ≠ 3) := by
  subst hk
  obtain ⟨⟨vb, vw, hI⟩, ⟨xb, xa, xw, hR⟩, hd, hG⟩ := id hP
  obtain ⟨rr, iw, ib, ii, ⟨q1, q2, q3⟩, n0, n1⟩ := hA
  have HP := Aside0.mk hP
  have HI := Aside0.mk hI
  have HRM := Aside0.mk hR
  have HD := Aside0.mk hd
  have HG := Aside0.mk hG
  have HB := Aside0.mk (below_alloc (Below.refl w.heap.size w) (.cells #[.int .i64 0, .int .i64 at_, .int .u64 nn, .int .i64 kd, .slice A1 ws_.length c1, .slice A2 raw.length c2, .slice A3 it.length c3] 81))
  have HZ := Aside0.mk (blk_new w (.cells #[.int .i64 0, .int .i64 at_, .int .u64 nn, .int .i64 kd, .slice A1 ws_.length c1, .slice A2 raw.length c2, .slice A3 it.length c3] 81))
  have HF1 := Aside0.mk (fun k hk => hI.lt (k := k) hk)
  have HF2 := Aside0.mk (fun k hk => hR.lt (k := k) hk)
  have hBl : B.length ≤ 100000 := Nat.le_trans hG.2.1.2.2 (by decide)
  have hwl : ws.length ≤ 1000000 := Nat.le_trans hG.2.2.2.2.1 (Nat.le_trans hm (by decide))
  obtain ⟨cc, hcc⟩ : ∃ c, setC B at_ = c := ⟨_, rfl⟩
  have bcc : (cc == cc) = true := by simp
  have C1 := Aside0.mk (fun (w1 : World) (hb : Below w.heap.size w w1) => Set_any g1 b1 H B lim _ ws F1 vb vw w1 (hI.below hb) hG.1.1 hBl at_ nn n0 n1 hwl)
  have C2 := Aside0.mk (fun (w1 : World) (h : Rm w1 g2 b2 H B Was lim ws F2 xb xa xw) => RSet_any g2 b2 H B Was lim ws F2 xb xa xw w1 h hG.1.1 hBl _ rfl at_ nn n0 n1 hwl)
  rw [hcc] at C1 C2
  have HG2 := Aside0.mk (hG.set at_ nn)
  clear hP hI hR hd hG rr iw ib ii q1 q2 q3 n0 n1 hm hBl hwl hcc a0 a1
  go_enter Try.func50, Try.ntmps50
  go_upto_region 1 with fail
  obtain ⟨w0, hw0⟩ : ∃ w0, w.alloc (.cells #[.int .i64 0, .int .i64 at_, .int .u64 nn, .int .i64 kd, .slice A1 ws_.length c1, .slice A2 raw.length c2, .slice A3 it.length c3] 81) = w0 := ⟨_, rfl⟩
  rw [hw0] at HZ HB ⊢
  clear hw0
  have z0 : (w0).cell? ⟨w.heap.size, 0, none⟩ = some (.int .i64 0) := blk_cell HZ.out 0
  have z1 : (w0).cell? ⟨w.heap.size, 1, none⟩ = some (.int .i64 at_) := blk_cell HZ.out 1
  have z2 : (w0).cell? ⟨w.heap.size, 2, none⟩ = some (.int .u64 nn) := blk_cell HZ.out 2
  have z3 : (w0).cell? ⟨w.heap.size, 3, none⟩ = some (.int .i64 kd) := blk_cell HZ.out 3
  have z4 : (w0).cell? ⟨w.heap.size, 4, none⟩ = some (.slice A1 ws_.length c1) := blk_cell HZ.out 4
  have z5 : (w0).cell? ⟨w.heap.size, 5, none⟩ = some (.slice A2 raw.length c2) := blk_cell HZ.out 5
  have z6 : (w0).cell? ⟨w.heap.size, 6, none⟩ = some (.slice A3 it.length c3) := blk_cell HZ.out 6
  go_upto_region 5 with fail
  refine start_ (n := 14) (S := fun w' => w'.cell? ⟨w.heap.size, 1, none⟩ = some (.int .i64 at_) ∧ w'.cell? ⟨w.heap.size, 2, none⟩ = some (.int .u64 nn)) (ds := []) #[false, false, false, false, false, false, false, false, false, false, false, false, false, false] (by kernel_rfl) rfl rfl ⟨z1, z2⟩ (fun hHeld => ?_)
  refine pure_ (i := 0) (N := some 40) (v := ?_) (a' := ?_) #[true, false, false, false, false, false, false, false, false, false, false, false, false, false] rfl rfl (by kernel_rfl) (fun _ _ _ h => h) (Or.inl ⟨by rfl, ?_⟩) ?_ ?_
  rotate_left
  · intro w'
    go_simp
    with_reducible rfl
  rotate_left
  · simp only [Act.put, List.setIfInBounds_toArray, List.set_cons_zero, List.set_cons_succ, i64_w, i32_w]
    rfl
  refine pure_ (i := 1) (N := some 41) (v := ?_) (a' := ?_) #[true, true, false, false, false, false, false, false, false, false, false, false, false, false] rfl rfl (by kernel_rfl) (fun _ _ _ h => h) (Or.inl ⟨by rfl, ?_⟩) ?_ ?_
  rotate_left
  · intro w'
    go_simp
    with_reducible rfl
  rotate_left
  · simp only [Act.put, List.setIfInBounds_toArray, List.set_cons_zero, List.set_cons_succ, i64_w, i32_w]
    rfl
  refine pure_ (i := 3) (N := some 43) (v := ?_) (a' := ?_) #[true, true, false, true, false, false, false, false, false, false, false, false, false, false] rfl rfl (by kernel_rfl) (fun _ _ _ h => h) (Or.inl ⟨by rfl, ?_⟩) ?_ ?_
  rotate_left
  · intro w'
    go_simp
    with_reducible rfl
  rotate_left
  · simp only [Act.put, List.setIfInBounds_toArray, List.set_cons_zero, List.set_cons_succ, i64_w, i32_w]
    rfl
  refine pure_ (i := 6) (N := some 46) (v := ?_) (a' := ?_) #[true, true, false, true, false, false, true, false, false, false, false, false, false, false] rfl rfl (by kernel_rfl) (fun _ _ _ h => h) (Or.inl ⟨by rfl, ?_⟩) ?_ ?_
  rotate_left
  · intro w'
    go_simp
    with_reducible rfl
  rotate_left
  · simp only [Act.put, List.setIfInBounds_toArray, List.set_cons_zero, List.set_cons_succ, i64_w, i32_w]
    rfl
  refine pure_ (i := 7) (N := some 47) (v := ?_) (a' := ?_) #[true, true, false, true, false, false, true, true, false, false, false, false, false, false] rfl rfl (by kernel_rfl) (fun _ _ _ h => h) (Or.inl ⟨by rfl, ?_⟩) ?_ ?_
  rotate_left
  · intro w'
    go_simp
    with_reducible rfl
  rotate_left
  · simp only [Act.put, List.setIfInBounds_toArray, List.set_cons_zero, List.set_cons_succ, i64_w, i32_w]
    rfl
  refine pure_ (i := 9) (N := some 49) (v := ?_) (a' := ?_) #[true, true, false, true, false, false, true, true, false, true, false, false, false, false] rfl rfl (by kernel_rfl) (fun _ _ _ h => h) (Or.inl ⟨by rfl, ?_⟩) ?_ ?_
  rotate_left
  · intro w'
    go_simp
    with_reducible rfl
  rotate_left
  · simp only [Act.put, List.setIfInBounds_toArray, List.set_cons_zero, List.set_cons_succ, i64_w, i32_w]
    rfl
  refine take_ (i := 2) (N := some 42) (v := ?_) (a' := ?_) #[true, true, true, true, false, false, true, true, false, true, false, false, false, false] rfl rfl (by kernel_rfl) (fun _ _ _ h => h) (Or.inl ⟨by rfl, ?_⟩) hHeld ?_ ?_
  rotate_left
  · rintro w' ⟨s0, s1⟩
    go_simp
    with_reducible rfl
  rotate_left
  · simp only [Act.put, List.setIfInBounds_toArray, List.set_cons_zero, List.set_cons_succ, i64_w, i32_w]
    rfl
  refine take_ (i := 4) (N := some 44) (v := ?_) (a' := ?_) #[true, true, true, true, true, false, true, true, false, true, false, false, false, false] rfl rfl (by kernel_rfl) (fun _ _ _ h => h) (Or.inl ⟨by rfl, ?_⟩) hHeld ?_ ?_
  rotate_left
  · rintro w' ⟨s0, s1⟩
    go_simp
    with_reducible rfl
  rotate_left
  · simp only [Act.put, List.setIfInBounds_toArray, List.set_cons_zero, List.set_cons_succ, i64_w, i32_w]
    rfl
  refine take_ (i := 8) (N := some 48) (v := ?_) (a' := ?_) #[true, true, true, true, true, false, true, true, true, true, false, false, false, false] rfl rfl (by kernel_rfl) (fun _ _ _ h => h) (Or.inl ⟨by rfl, ?_⟩) hHeld ?_ ?_
  rotate_left
  · rintro w' ⟨s0, s1⟩
    go_simp
    with_reducible rfl
  rotate_left
  · simp only [Act.put, List.setIfInBounds_toArray, List.set_cons_zero, List.set_cons_succ, i64_w, i32_w]
    rfl
  refine take_ (i := 10) (N := some 50) (v := ?_) (a' := ?_) #[true, true, true, true, true, false, true, true, true, true, true, false, false, false] rfl rfl (by kernel_rfl) (fun _ _ _ h => h) (Or.inl ⟨by rfl, ?_⟩) hHeld ?_ ?_
  rotate_left
  · rintro w' ⟨s0, s1⟩
    go_simp
    with_reducible rfl
  rotate_left
  · simp only [Act.put, List.setIfInBounds_toArray, List.set_cons_zero, List.set_cons_succ, i64_w, i32_w]
    rfl
  refine one_ (i := 5) (N := some 45) #[true, true, true, true, true, true, true, true, true, true, true, false, false, false] rfl rfl (by kernel_rfl) (by decide) (fun K hK => ?_)
  refine goes_ Try.func42 (by kernel_rfl) rfl #[.pointer (some ⟨g1, 0, none⟩), .int .i64 at_, .int .u64 nn] (by rfl) rfl rfl (by (try simp only [List.map_toArray, List.map_cons, List.map_nil]); first | done | rfl) ?_
  with_reducible refine (C1.out _ (below_drew HB.out)).mono ?_
  rintro e w1 ⟨rfl, hs1⟩
  refine ⟨_, rfl, ?_⟩
  have hz1 := hs1.kp.blk (blk_drew HZ.out) (fun h => Nat.lt_irrefl _ (HF1.out _ h))
  refine hK.out _ _ ⟨(blk_cell hz1 1), (blk_cell hz1 2)⟩ (fun hHeld => ?_)
  clear hK K
  refine norm_ (a' := ?_) ?_ ?_
  rotate_left
  · show Act.put _ (some 45) _ = _
    simp only [Act.put, List.setIfInBounds_toArray, List.set_cons_zero, List.set_cons_succ, i64_w, i32_w]
    rfl
  refine one_ (i := 11) (N := some 51) #[true, true, true, true, true, true, true, true, true, true, true, true, false, false] rfl rfl (by kernel_rfl) (by decide) (fun K hK => ?_)
  refine goes_ Try.func121 (by kernel_rfl) rfl #[.pointer (some ⟨g2, 0, none⟩), .int .i64 at_, .int .u64 nn] (by rfl) rfl rfl (by (try simp only [List.map_toArray, List.map_cons, List.map_nil]); first | done | rfl) ?_
  with_reducible refine (C2.out _ (Pr.rm HD.out HRM.out (below_drew HB.out) hs1.kp (Below.refl _ _))).mono ?_
  rintro e w2 ⟨rfl, hs2⟩
  refine ⟨_, rfl, ?_⟩
  refine hK.out _ _ ⟨(blk_cell (hs2.kp.blk hz1 (fun h => Nat.lt_irrefl _ (HF2.out _ h))) 1), (blk_cell (hs2.kp.blk hz1 (fun h => Nat.lt_irrefl _ (HF2.out _ h))) 2)⟩ (fun hHeld => ?_)
  clear hK K
  refine norm_ (a' := ?_) ?_ ?_
  rotate_left
  · show Act.put _ (some 51) _ = _
    simp only [Act.put, List.setIfInBounds_toArray, List.set_cons_zero, List.set_cons_succ, i64_w, i32_w]
    rfl
  refine pure_ (i := 12) (N := some 52) (v := ?_) (a' := ?_) #[true, true, true, true, true, true, true, true, true, true, true, true, true, false] rfl rfl (by kernel_rfl) (fun _ _ _ h => h) (Or.inl ⟨by rfl, ?_⟩) ?_ ?_
  rotate_left
  · intro w'
    go_simp
    with_reducible rfl
  rotate_left
  · simp only [Act.put, List.setIfInBounds_toArray, List.set_cons_zero, List.set_cons_succ, i64_w, i32_w]
    rfl
  refine pure_ (i := 13) (N := some 6) (v := ?_) (a' := ?_) #[true, true, true, true, true, true, true, true, true, true, true, true, true, true] rfl rfl (by kernel_rfl) (fun _ _ _ h => h) (Or.inl ⟨by rfl, ?_⟩) ?_ ?_
  rotate_left
  · intro w'
    go_simp
    with_reducible rfl
  rotate_left
  · simp only [Act.put, List.setIfInBounds_toArray, List.set_cons_zero, List.set_cons_succ, i64_w, i32_w]
    rfl
  refine done_ (by kernel_rfl) ?_
  have HE := Aside0.mk (PrS.of (keep := (0 : Int) ≠ 2 ∧ (0 : Int) ≠ 3) HP.out (below_drew HB.out) hs1 (Below.refl _ _) hs2 HG2.out (fun _ => rfl))
  clear hs1 hs2 hz1 z0 z1 z2 z3 z4 z5 z6
  go_wp2_with fail
  go_ret
  exact ⟨rfl, HE.out⟩

set_option maxHeartbeats 8000000 in
set_option maxRecDepth 100000 in
theorem does_put (g1 b1 g2 b2 : Nat) (H : Hd) (lim : Int) (B Was ws : List Int) (m : Nat) (F1 F2 : Nat → Prop) (kind at_ nn kd : Int) (ws_ raw it : List Int) (A1 A2 A3 : Option Addr) (c1 c2 c3 : Nat) (w : World) (hP : Pr w g1 b1 g2 b2 H lim B Was ws m F1 F2) (base : Nat) (hb12 : base ≤ b1 ∧ base ≤ b2) (hA : AcR w base nn ws_ raw it A1 A2 A3 c1 c2 c3) (hm : m ≤ 1000) (a0 : -9223372036854775808 ≤ at_) (a1 : at_ ≤ 9223372036854775807) (hk : kind = 1) : Calls Try.prog 50 #[.pointer (some ⟨g1, 0, none⟩), .pointer (some ⟨g2, 0, none⟩), .agg #[.int .i64 1, .int .i64 at_, .int .u64 nn, .int .i64 kd, .slice A1 ws_.length c1, .slice A2 raw.length c2, .slice A3 it.length c3]] w fun e w' => e = .returned (.bool true) ∧ PrS w w' g1 b1 g2 b2 H lim Was m F1 F2 ((1 : Int) ≠ 2 ∧ (1 : Int) ≠ 3) := by
  subst hk
  obtain ⟨⟨vb, vw, hI⟩, ⟨xb, xa, xw, hR⟩, hd, hG⟩ := id hP
  obtain ⟨rr, iw, ib, ii, ⟨q1, q2, q3⟩, n0, n1⟩ := hA
  have HP := Aside0.mk hP
  have HI := Aside0.mk hI
  have HRM := Aside0.mk hR
  have HD := Aside0.mk hd
  have HG := Aside0.mk hG
  have HB := Aside0.mk (below_alloc (Below.refl w.heap.size w) (.cells #[.int .i64 1, .int .i64 at_, .int .u64 nn, .int .i64 kd, .slice A1 ws_.length c1, .slice A2 raw.length c2, .slice A3 it.length c3] 81))
  have HZ := Aside0.mk (blk_new w (.cells #[.int .i64 1, .int .i64 at_, .int .u64 nn, .int .i64 kd, .slice A1 ws_.length c1, .slice A2 raw.length c2, .slice A3 it.length c3] 81))
  have HF1 := Aside0.mk (fun k hk => hI.lt (k := k) hk)
  have HF2 := Aside0.mk (fun k hk => hR.lt (k := k) hk)
  have hBl : B.length ≤ 100000 := Nat.le_trans hG.2.1.2.2 (by decide)
  have hwl : ws.length ≤ 1000000 := Nat.le_trans hG.2.2.2.2.1 (Nat.le_trans hm (by decide))
  obtain ⟨pc, hpc⟩ : ∃ c, putC B lim kd ws_ raw it = c := ⟨_, rfl⟩
  obtain ⟨pa, hpa⟩ : ∃ c, putA B lim kd ws_ raw it = c := ⟨_, rfl⟩
  have bpc : (pc == pc) = true := by simp
  have bpa : (pa == pa) = true := by simp
  have hlm : 0 ≤ lim ∧ lim ≤ 1048576 := by have := hG.2.2.2.2.2.2; omega
  have hbs : base ≤ w.heap.size := Nat.le_trans hb12.1 hI.bs
  have hfb : ∀ k, F1 k → base ≤ k := fun k hk => Nat.le_trans hb12.1 (hI.ge hk)
  have HBW := Aside0.mk (fun (w0 w1 : World) (hb0 : Below w.heap.size w w0) (hk1 : Kp F1 w0 w1) => (below_kp (hb0.mono hbs) hk1 hbs hfb : Below base w w1))
  have C1 := Aside0.mk (fun (w1 : World) (hb : Below w.heap.size w w1) => Put_any g1 b1 H B lim _ ws F1 vb vw w1 (hI.below hb) hBl hlm kd ws_ raw it A1 A2 A3 c1 c2 c3 (rr w1 (hb.mono hbs)).1 (rr w1 (hb.mono hbs)).2.1 (rr w1 (hb.mono hbs)).2.2 iw ib ii (by omega) (by omega) (by omega))
  have C2 := Aside0.mk (fun (w1 : World) (h : Rm w1 g2 b2 H B Was lim ws F2 xb xa xw) (hb : Below base w w1) => RPut_any g2 b2 H B Was lim ws F2 xb xa xw w1 h hBl hlm kd ws_ raw it A1 A2 A3 c1 c2 c3 (rr w1 hb).1 (rr w1 hb).2.1 (rr w1 hb).2.2 iw ib ii (by omega) (by omega) (by omega))
  rw [hpc, hpa] at C1 C2
  clear hpc hpa hlm hbs hfb
  have HG2 := Aside0.mk (hG.put kd ws_ raw it ib)
  clear hP hI hR hd hG rr iw ib ii q1 q2 q3 n0 n1 hm hBl hwl a0 a1
  go_enter Try.func50, Try.ntmps50
  go_upto_region 1 with fail
  obtain ⟨w0, hw0⟩ : ∃ w0, w.alloc (.cells #[.int .i64 1, .int .i64 at_, .int .u64 nn, .int .i64 kd, .slice A1 ws_.length c1, .slice A2 raw.length c2, .slice A3 it.length c3] 81) = w0 := ⟨_, rfl⟩
  rw [hw0] at HZ HB ⊢
  clear hw0
  have z0 : (w0).cell? ⟨w.heap.size, 0, none⟩ = some (.int .i64 1) := blk_cell HZ.out 0
  have z1 : (w0).cell? ⟨w.heap.size, 1, none⟩ = some (.int .i64 at_) := blk_cell HZ.out 1
  have z2 : (w0).cell? ⟨w.heap.size, 2, none⟩ = some (.int .u64 nn) := blk_cell HZ.out 2
  have z3 : (w0).cell? ⟨w.heap.size, 3, none⟩ = some (.int .i64 kd) := blk_cell HZ.out 3
  have z4 : (w0).cell? ⟨w.heap.size, 4, none⟩ = some (.slice A1 ws_.length c1) := blk_cell HZ.out 4
  have z5 : (w0).cell? ⟨w.heap.size, 5, none⟩ = some (.slice A2 raw.length c2) := blk_cell HZ.out 5
  have z6 : (w0).cell? ⟨w.heap.size, 6, none⟩ = some (.slice A3 it.length c3) := blk_cell HZ.out 6
  go_wp2_with fail
  refine (C1.out _ HB.out).mono ?_
  rintro e w1 ⟨rfl, hs1⟩
  have HS1 := Aside0.mk hs1
  have HZ1 := Aside0.mk (hs1.kp.blk HZ.out (fun h => Nat.lt_irrefl _ (HF1.out _ h)))
  clear hs1 z0 z1 z2 z3 z4 z5 z6
  have z0 : (w1).cell? ⟨w.heap.size, 0, none⟩ = some (.int .i64 1) := blk_cell HZ1.out 0
  have z1 : (w1).cell? ⟨w.heap.size, 1, none⟩ = some (.int .i64 at_) := blk_cell HZ1.out 1
  have z2 : (w1).cell? ⟨w.heap.size, 2, none⟩ = some (.int .u64 nn) := blk_cell HZ1.out 2
  have z3 : (w1).cell? ⟨w.heap.size, 3, none⟩ = some (.int .i64 kd) := blk_cell HZ1.out 3
  have z4 : (w1).cell? ⟨w.heap.size, 4, none⟩ = some (.slice A1 ws_.length c1) := blk_cell HZ1.out 4
  have z5 : (w1).cell? ⟨w.heap.size, 5, none⟩ = some (.slice A2 raw.length c2) := blk_cell HZ1.out 5
  have z6 : (w1).cell? ⟨w.heap.size, 6, none⟩ = some (.slice A3 it.length c3) := blk_cell HZ1.out 6
  go_wp2_with fail
  refine (C2.out _ (Pr.rm HD.out HRM.out HB.out HS1.out.kp (Below.refl _ _)) (HBW.out _ _ HB.out HS1.out.kp)).mono ?_
  rintro e w2 ⟨rfl, hs2⟩
  have HE := Aside0.mk (PrS.of (keep := (1 : Int) ≠ 2 ∧ (1 : Int) ≠ 3) HP.out HB.out HS1.out (Below.refl _ _) hs2 HG2.out (fun _ => rfl))
  clear hs2 z0 z1 z2 z3 z4 z5 z6
  go_wp2_with fail
  go_ret
  exact ⟨rfl, HE.out⟩

set_option maxHeartbeats 8000000 in
set_option maxRecDepth 100000 in
theorem does_done (g1 b1 g2 b2 : Nat) (H : Hd) (lim : Int) (B Was ws : List Int) (m : Nat) (F1 F2 : Nat → Prop) (kind at_ nn kd : Int) (ws_ raw it : List Int) (A1 A2 A3 : Option Addr) (c1 c2 c3 : Nat) (w : World) (hP : Pr w g1 b1 g2 b2 H lim B Was ws m F1 F2) (base : Nat) (hb12 : base ≤ b1 ∧ base ≤ b2) (hA : AcR w base nn ws_ raw it A1 A2 A3 c1 c2 c3) (hm : m ≤ 1000) (a0 : -9223372036854775808 ≤ at_) (a1 : at_ ≤ 9223372036854775807) (hk : kind = 2) : Calls Try.prog 50 #[.pointer (some ⟨g1, 0, none⟩), .pointer (some ⟨g2, 0, none⟩), .agg #[.int .i64 2, .int .i64 at_, .int .u64 nn, .int .i64 kd, .slice A1 ws_.length c1, .slice A2 raw.length c2, .slice A3 it.length c3]] w fun e w' => e = .returned (.bool true) ∧ PrS w w' g1 b1 g2 b2 H lim Was m F1 F2 ((2 : Int) ≠ 2 ∧ (2 : Int) ≠ 3) := by
  subst hk
  obtain ⟨⟨vb, vw, hI⟩, ⟨xb, xa, xw, hR⟩, hd, hG⟩ := id hP
  obtain ⟨rr, iw, ib, ii, ⟨q1, q2, q3⟩, n0, n1⟩ := hA
  have HP := Aside0.mk hP
  have HI := Aside0.mk hI
  have HRM := Aside0.mk hR
  have HD := Aside0.mk hd
  have HG := Aside0.mk hG
  have HB := Aside0.mk (below_alloc (Below.refl w.heap.size w) (.cells #[.int .i64 2, .int .i64 at_, .int .u64 nn, .int .i64 kd, .slice A1 ws_.length c1, .slice A2 raw.length c2, .slice A3 it.length c3] 81))
  have HZ := Aside0.mk (blk_new w (.cells #[.int .i64 2, .int .i64 at_, .int .u64 nn, .int .i64 kd, .slice A1 ws_.length c1, .slice A2 raw.length c2, .slice A3 it.length c3] 81))
  have HF1 := Aside0.mk (fun k hk => hI.lt (k := k) hk)
  have HF2 := Aside0.mk (fun k hk => hR.lt (k := k) hk)
  have hBl : B.length ≤ 100000 := Nat.le_trans hG.2.1.2.2 (by decide)
  have hwl : ws.length ≤ 1000000 := Nat.le_trans hG.2.2.2.2.1 (Nat.le_trans hm (by decide))
  have C1 := Aside0.mk (fun (w1 : World) (hb : Below w.heap.size w w1) => Done_calls g1 b1 H B lim _ ws F1 vb vw w1 (hI.below hb) _ rfl)
  have C2 := Aside0.mk (fun (w1 : World) (h : Rm w1 g2 b2 H B Was lim ws F2 xb xa xw) => RDone_calls g2 b2 H B Was lim ws F2 xb xa xw w1 h _ rfl (Nat.le_trans hBl (by decide)))
  have HG2 := Aside0.mk (hG.done)
  clear hP hI hR hd hG rr iw ib ii q1 q2 q3 n0 n1 hm hBl hwl a0 a1
  go_enter Try.func50, Try.ntmps50
  go_upto_region 1 with fail
  obtain ⟨w0, hw0⟩ : ∃ w0, w.alloc (.cells #[.int .i64 2, .int .i64 at_, .int .u64 nn, .int .i64 kd, .slice A1 ws_.length c1, .slice A2 raw.length c2, .slice A3 it.length c3] 81) = w0 := ⟨_, rfl⟩
  rw [hw0] at HZ HB ⊢
  clear hw0
  have z0 : (w0).cell? ⟨w.heap.size, 0, none⟩ = some (.int .i64 2) := blk_cell HZ.out 0
  have z1 : (w0).cell? ⟨w.heap.size, 1, none⟩ = some (.int .i64 at_) := blk_cell HZ.out 1
  have z2 : (w0).cell? ⟨w.heap.size, 2, none⟩ = some (.int .u64 nn) := blk_cell HZ.out 2
  have z3 : (w0).cell? ⟨w.heap.size, 3, none⟩ = some (.int .i64 kd) := blk_cell HZ.out 3
  have z4 : (w0).cell? ⟨w.heap.size, 4, none⟩ = some (.slice A1 ws_.length c1) := blk_cell HZ.out 4
  have z5 : (w0).cell? ⟨w.heap.size, 5, none⟩ = some (.slice A2 raw.length c2) := blk_cell HZ.out 5
  have z6 : (w0).cell? ⟨w.heap.size, 6, none⟩ = some (.slice A3 it.length c3) := blk_cell HZ.out 6
  go_wp2_with fail
  refine (C1.out _ HB.out).mono ?_
  rintro e w1 ⟨rfl, hs1⟩
  have HS1 := Aside0.mk hs1
  have HZ1 := Aside0.mk (hs1.kp.blk HZ.out (fun h => Nat.lt_irrefl _ (HF1.out _ h)))
  clear hs1 z0 z1 z2 z3 z4 z5 z6
  have z0 : (w1).cell? ⟨w.heap.size, 0, none⟩ = some (.int .i64 2) := blk_cell HZ1.out 0
  have z1 : (w1).cell? ⟨w.heap.size, 1, none⟩ = some (.int .i64 at_) := blk_cell HZ1.out 1
  have z2 : (w1).cell? ⟨w.heap.size, 2, none⟩ = some (.int .u64 nn) := blk_cell HZ1.out 2
  have z3 : (w1).cell? ⟨w.heap.size, 3, none⟩ = some (.int .i64 kd) := blk_cell HZ1.out 3
  have z4 : (w1).cell? ⟨w.heap.size, 4, none⟩ = some (.slice A1 ws_.length c1) := blk_cell HZ1.out 4
  have z5 : (w1).cell? ⟨w.heap.size, 5, none⟩ = some (.slice A2 raw.length c2) := blk_cell HZ1.out 5
  have z6 : (w1).cell? ⟨w.heap.size, 6, none⟩ = some (.slice A3 it.length c3) := blk_cell HZ1.out 6
  go_wp2_with fail
  refine (C2.out _ (Pr.rm HD.out HRM.out HB.out HS1.out.kp (Below.refl _ _))).mono ?_
  rintro e w2 ⟨rfl, hs2⟩
  have HE := Aside0.mk (PrS.of (keep := (2 : Int) ≠ 2 ∧ (2 : Int) ≠ 3) HP.out HB.out HS1.out (Below.refl _ _) hs2 HG2.out (fun h => absurd rfl h.1))
  clear hs2 z0 z1 z2 z3 z4 z5 z6
  go_wp2_with fail
  go_ret
  exact ⟨rfl, HE.out⟩

set_option maxHeartbeats 8000000 in
set_option maxRecDepth 100000 in
theorem does_back (g1 b1 g2 b2 : Nat) (H : Hd) (lim : Int) (B Was ws : List Int) (m : Nat) (F1 F2 : Nat → Prop) (kind at_ nn kd : Int) (ws_ raw it : List Int) (A1 A2 A3 : Option Addr) (c1 c2 c3 : Nat) (w : World) (hP : Pr w g1 b1 g2 b2 H lim B Was ws m F1 F2) (base : Nat) (hb12 : base ≤ b1 ∧ base ≤ b2) (hA : AcR w base nn ws_ raw it A1 A2 A3 c1 c2 c3) (hm : m ≤ 1000) (a0 : -9223372036854775808 ≤ at_) (a1 : at_ ≤ 9223372036854775807) (hk : kind = 3) : Calls Try.prog 50 #[.pointer (some ⟨g1, 0, none⟩), .pointer (some ⟨g2, 0, none⟩), .agg #[.int .i64 3, .int .i64 at_, .int .u64 nn, .int .i64 kd, .slice A1 ws_.length c1, .slice A2 raw.length c2, .slice A3 it.length c3]] w fun e w' => e = .returned (.bool true) ∧ PrS w w' g1 b1 g2 b2 H lim Was m F1 F2 ((3 : Int) ≠ 2 ∧ (3 : Int) ≠ 3) := by
  subst hk
  obtain ⟨⟨vb, vw, hI⟩, ⟨xb, xa, xw, hR⟩, hd, hG⟩ := id hP
  obtain ⟨rr, iw, ib, ii, ⟨q1, q2, q3⟩, n0, n1⟩ := hA
  have HP := Aside0.mk hP
  have HI := Aside0.mk hI
  have HRM := Aside0.mk hR
  have HD := Aside0.mk hd
  have HG := Aside0.mk hG
  have HB := Aside0.mk (below_alloc (Below.refl w.heap.size w) (.cells #[.int .i64 3, .int .i64 at_, .int .u64 nn, .int .i64 kd, .slice A1 ws_.length c1, .slice A2 raw.length c2, .slice A3 it.length c3] 81))
  have HZ := Aside0.mk (blk_new w (.cells #[.int .i64 3, .int .i64 at_, .int .u64 nn, .int .i64 kd, .slice A1 ws_.length c1, .slice A2 raw.length c2, .slice A3 it.length c3] 81))
  have HF1 := Aside0.mk (fun k hk => hI.lt (k := k) hk)
  have HF2 := Aside0.mk (fun k hk => hR.lt (k := k) hk)
  have hBl : B.length ≤ 100000 := Nat.le_trans hG.2.1.2.2 (by decide)
  have hwl : ws.length ≤ 1000000 := Nat.le_trans hG.2.2.2.2.1 (Nat.le_trans hm (by decide))
  have hzz := hG.2.2.2.2.2.1
  have C1 := Aside0.mk (fun (w1 : World) (hb : Below w.heap.size w w1) => Back_calls g1 b1 H B lim _ ws F1 vb vw w1 (hI.below hb) _ rfl hBl Was.length rfl hG.2.1.2.1 (fun x hx => by have := hG.2.2.2.1 x hx; have := hG.2.1.2.1; omega) hwl (by have := hG.2.1; omega))
  rw [hzz] at C1
  have C2 := Aside0.mk (fun (w1 : World) (h : Rm w1 g2 b2 H B Was lim ws F2 xb xa xw) => RBack_calls g2 b2 H B Was lim ws F2 xb xa xw w1 h _ rfl (Nat.le_trans (Nat.le_trans hG.2.1.2.1 hBl) (by decide)))
  clear hzz
  have HG2 := Aside0.mk (hG.back)
  clear hP hI hR hd hG rr iw ib ii q1 q2 q3 n0 n1 hm hBl hwl a0 a1
  go_enter Try.func50, Try.ntmps50
  go_upto_region 1 with fail
  obtain ⟨w0, hw0⟩ : ∃ w0, w.alloc (.cells #[.int .i64 3, .int .i64 at_, .int .u64 nn, .int .i64 kd, .slice A1 ws_.length c1, .slice A2 raw.length c2, .slice A3 it.length c3] 81) = w0 := ⟨_, rfl⟩
  rw [hw0] at HZ HB ⊢
  clear hw0
  have z0 : (w0).cell? ⟨w.heap.size, 0, none⟩ = some (.int .i64 3) := blk_cell HZ.out 0
  have z1 : (w0).cell? ⟨w.heap.size, 1, none⟩ = some (.int .i64 at_) := blk_cell HZ.out 1
  have z2 : (w0).cell? ⟨w.heap.size, 2, none⟩ = some (.int .u64 nn) := blk_cell HZ.out 2
  have z3 : (w0).cell? ⟨w.heap.size, 3, none⟩ = some (.int .i64 kd) := blk_cell HZ.out 3
  have z4 : (w0).cell? ⟨w.heap.size, 4, none⟩ = some (.slice A1 ws_.length c1) := blk_cell HZ.out 4
  have z5 : (w0).cell? ⟨w.heap.size, 5, none⟩ = some (.slice A2 raw.length c2) := blk_cell HZ.out 5
  have z6 : (w0).cell? ⟨w.heap.size, 6, none⟩ = some (.slice A3 it.length c3) := blk_cell HZ.out 6
  go_wp2_with fail
  refine (C1.out _ HB.out).mono ?_
  rintro e w1 ⟨rfl, hs1⟩
  have HS1 := Aside0.mk hs1
  have HZ1 := Aside0.mk (hs1.kp.blk HZ.out (fun h => Nat.lt_irrefl _ (HF1.out _ h)))
  clear hs1 z0 z1 z2 z3 z4 z5 z6
  have z0 : (w1).cell? ⟨w.heap.size, 0, none⟩ = some (.int .i64 3) := blk_cell HZ1.out 0
  have z1 : (w1).cell? ⟨w.heap.size, 1, none⟩ = some (.int .i64 at_) := blk_cell HZ1.out 1
  have z2 : (w1).cell? ⟨w.heap.size, 2, none⟩ = some (.int .u64 nn) := blk_cell HZ1.out 2
  have z3 : (w1).cell? ⟨w.heap.size, 3, none⟩ = some (.int .i64 kd) := blk_cell HZ1.out 3
  have z4 : (w1).cell? ⟨w.heap.size, 4, none⟩ = some (.slice A1 ws_.length c1) := blk_cell HZ1.out 4
  have z5 : (w1).cell? ⟨w.heap.size, 5, none⟩ = some (.slice A2 raw.length c2) := blk_cell HZ1.out 5
  have z6 : (w1).cell? ⟨w.heap.size, 6, none⟩ = some (.slice A3 it.length c3) := blk_cell HZ1.out 6
  go_wp2_with fail
  refine (C2.out _ (Pr.rm HD.out HRM.out HB.out HS1.out.kp (Below.refl _ _))).mono ?_
  rintro e w2 ⟨rfl, hs2⟩
  have HE := Aside0.mk (PrS.of (keep := (3 : Int) ≠ 2 ∧ (3 : Int) ≠ 3) HP.out HB.out HS1.out (Below.refl _ _) hs2 HG2.out (fun h => absurd rfl h.2))
  clear hs2 z0 z1 z2 z3 z4 z5 z6
  go_wp2_with fail
  go_ret
  exact ⟨rfl, HE.out⟩

theorem does_calls (g1 b1 g2 b2 : Nat) (H : Hd) (lim : Int) (B Was ws : List Int) (m : Nat) (F1 F2 : Nat → Prop) (kind at_ nn kd : Int) (ws_ raw it : List Int) (A1 A2 A3 : Option Addr) (c1 c2 c3 : Nat) (w : World) (hP : Pr w g1 b1 g2 b2 H lim B Was ws m F1 F2) (base : Nat) (hb12 : base ≤ b1 ∧ base ≤ b2) (hA : AcR w base nn ws_ raw it A1 A2 A3 c1 c2 c3) (hm : m ≤ 1000) (a0 : -9223372036854775808 ≤ at_) (a1 : at_ ≤ 9223372036854775807) : Calls Try.prog 50 #[.pointer (some ⟨g1, 0, none⟩), .pointer (some ⟨g2, 0, none⟩), .agg #[.int .i64 kind, .int .i64 at_, .int .u64 nn, .int .i64 kd, .slice A1 ws_.length c1, .slice A2 raw.length c2, .slice A3 it.length c3]] w fun e w' => e = .returned (.bool true) ∧ PrS w w' g1 b1 g2 b2 H lim Was m F1 F2 (kind ≠ 2 ∧ kind ≠ 3) := by
  by_cases h0 : kind = 0
  · subst h0; exact does_set g1 b1 g2 b2 H lim B Was ws m F1 F2 0 at_ nn kd ws_ raw it A1 A2 A3 c1 c2 c3 w hP base hb12 hA hm a0 a1 rfl
  by_cases h1 : kind = 1
  · subst h1; exact does_put g1 b1 g2 b2 H lim B Was ws m F1 F2 1 at_ nn kd ws_ raw it A1 A2 A3 c1 c2 c3 w hP base hb12 hA hm a0 a1 rfl
  by_cases h2 : kind = 2
  · subst h2; exact does_done g1 b1 g2 b2 H lim B Was ws m F1 F2 2 at_ nn kd ws_ raw it A1 A2 A3 c1 c2 c3 w hP base hb12 hA hm a0 a1 rfl
  by_cases h3 : kind = 3
  · subst h3; exact does_back g1 b1 g2 b2 H lim B Was ws m F1 F2 3 at_ nn kd ws_ raw it A1 A2 A3 c1 c2 c3 w hP base hb12 hA hm a0 a1 rfl
  exact does_else g1 b1 g2 b2 H lim B Was ws m F1 F2 kind at_ nn kd ws_ raw it A1 A2 A3 c1 c2 c3 w hP base hb12 hA hm a0 a1 h0 h1 h2 h3
end Go.Proofs.Ytigdchfjcfljjaa
end
section
/- Arguments laid open: slices of numbers, of structs; a list out of what each element reads as. -/
namespace Go.Proofs.Ytigdchfjcfljjaa
open Go.RowKit Go.ChangeShapes Go.WideShapes Go.Deep Go.Proofs.YtigdchfjcfljjaaW.PrintWords
set_option linter.unusedVariables false
section
variable {H : Type} {enc : TypeId × Value → H} {P : Program} {w : World} {base : Nat} {held : Bool}
/-- A slice of numbers. -/
theorem open_rd {t e : TypeId} {k : IntKind} {fuel : Nat} {v : Value} {x : DataW H × List MemPlace} (ht : P.underlying t = some (.slice e)) (he : P.underlying e = some (.int k)) (hc : P.cellsOf e = 1)
    (h : DataW.trod enc P w base (fun _ => true) held fuel t [v] = some x) : ∃ xs : List Int, Rd w k v xs ∧ ∀ n ∈ xs, (Lit.int k n).wf = true := by
  rcases open_ints ht he hc h with ⟨hcs, _⟩ | ⟨a, len, cap, zs, hcs, _, hl, hm, hz, _, hcell, hwz⟩
  · simp only [List.cons.injEq, and_true] at hcs
    subst hcs
    exact ⟨[], Rd.nil w k, fun n hn => by simp at hn⟩
  · simp only [List.cons.injEq, and_true] at hcs
    subst hcs
    obtain ⟨l, rfl, hr, _, hw, hc2⟩ := ReadsInt.ofRowC (k := k) (w := w) (a := some a) (len := len) (cap := cap) (zs := zs) (.inr ⟨a, rfl, hl, hm, by simpa using hz, hcell, hwz⟩)
    exact ⟨l, ⟨_, _, rfl, hc2, hr⟩, hw⟩
/-- A slice of structs of one-cell fields: each field's cell, and what it reads as. -/
theorem open_structs {t e : TypeId} {fs : Array Field} {fuel : Nat} {v : Value} {x : DataW H × List MemPlace} (ht : P.underlying t = some (.slice e)) (he : P.underlying e = some (.struct fs))
    (hone : oneCellFields P fs = true) (hC : P.cellsOf e = fs.size) (hpos : 0 < fs.size) (h : DataW.trod enc P w base (fun _ => true) held fuel t [v] = some x) :
    ∃ (A : Option Addr) (len cap : Nat), v = .slice A len cap ∧ len ≤ cap ∧ cap ≤ maxLen ∧ (0 < len → ∃ a, A = some a ∧ ∀ i, i < len → ∃ n, ∀ (j : Nat) (f : Field), fs[j]? = some f →
      ∃ (u : Value) (y : DataW H × List MemPlace), w.cell? (if j = 0 then a.add (i * fs.size) else ⟨(a.add (i * fs.size)).block, (a.add (i * fs.size)).off + j, none⟩) = some u ∧ DataW.trod enc P w base (fun _ => true) held n f.type [u] = some y) := by
  rcases open_slice ht h with ⟨h0, _⟩ | ⟨a, len, cap, m, n, D, Pl, hcs, _, hl, hm, hmm, _, hi⟩
  · simp only [List.cons.injEq, and_true] at h0
    subst h0
    exact ⟨none, 0, 0, rfl, Nat.le_refl _, by simp [maxLen], fun h => absurd h (Nat.lt_irrefl 0)⟩
  · simp only [List.cons.injEq, and_true] at hcs
    subst hcs
    simp only [if_true] at hmm
    subst hmm
    refine ⟨some a, len, m, rfl, hl, hm, fun _ => ⟨a, rfl, fun i hil => ?_⟩⟩
    obtain ⟨cs', hc, ht'⟩ := hi i (by omega)
    rw [hC] at hc
    obtain ⟨ys, n', _, _, _, hyl, hf⟩ := DataW.trod_struct he ht'
    obtain ⟨_, hcl, hat⟩ := World.cells?_some hc
    refine ⟨n', fun j f hj => ?_⟩
    obtain ⟨ho, hk⟩ := hone_of hone j f hj
    have hjl : j < fs.size := (Array.getElem?_eq_some_iff.1 hj).1
    have hcell := hat j hjl
    have hv : cs'[j]? = some (cs'[j]'(by omega)) := List.getElem?_eq_getElem (by omega)
    have h1 := hf j f hj
    rw [ho, hk] at h1
    have hcut : (cs'.drop j).take 1 = [cs'[j]'(by omega)] := by rw [List.drop_eq_getElem_cons (by omega)]; rfl
    rw [hcut] at h1
    have hys : ys[j]? = some (ys[j]'(by omega)) := List.getElem?_eq_getElem (by omega)
    refine ⟨_, _, ?_, h1.trans hys⟩
    by_cases hj0 : j = 0
    · subst hj0
      rw [if_pos rfl, ← hv, ← hcell, Go.Deep.add_add]
      rfl
    · rw [if_neg hj0, ← hv, ← hcell]
      congr 1
      rw [Go.Deep.add_add, add_field a (i * fs.size) j (by omega)]
end
/-- A list out of what each place holds. -/
theorem list_of {α : Type} (Q : Nat → α → Prop) : ∀ n, (∀ i, i < n → ∃ x, Q i x) → ∃ l : List α, l.length = n ∧ ∀ (i : Nat) (x : α), l[i]? = some x → Q i x
  | 0, _ => ⟨[], rfl, fun i x h => by simp at h⟩
  | n + 1, h => by
    obtain ⟨l, hl, hq⟩ := list_of Q n (fun i hi => h i (by omega))
    obtain ⟨x, hx⟩ := h n (by omega)
    refine ⟨l ++ [x], by simp [hl], fun i y hy => ?_⟩
    rcases Nat.lt_or_ge i n with hlt | hge
    · rw [List.getElem?_append_left (by omega)] at hy
      exact hq i y hy
    · rw [List.getElem?_append_right (by omega)] at hy
      have : i = n := by
        rcases Nat.lt_or_ge (i - l.length) 1 with h1 | h1
        · omega
        · rw [List.getElem?_eq_none (by simpa using h1)] at hy; simp at hy
      subst this
      simp [hl] at hy
      subst hy
      exact hx
end Go.Proofs.Ytigdchfjcfljjaa
end
section
/- Images: the acts of a law's argument, laid open; one act's turn of the laws' loops. -/
namespace Go.Proofs.Ytigdchfjcfljjaa
open Go.RowKit Go.ChangeShapes Go.WideShapes Go.Deep Go.Proofs.YtigdchfjcfljjaaW.PrintWords
set_option linter.unusedVariables false

/-- An act, as it stands in a law's argument. -/
structure Ac where
  kind : Int
  at_ : Int
  nn : Int
  kd : Int
  ws_ : List Int
  raw : List Int
  it : List Int
  A1 : Option Addr
  A2 : Option Addr
  A3 : Option Addr
  c1 : Nat
  c2 : Nat
  c3 : Nat
structure AcAt (w : World) (ad : Addr) (i : Nat) (x : Ac) : Prop where
  c0 : w.cell? (ad.add (i * 7)) = some (.int .i64 x.kind)
  c1 : w.cell? ⟨(ad.add (i * 7)).block, (ad.add (i * 7)).off + 1, none⟩ = some (.int .i64 x.at_)
  c2 : w.cell? ⟨(ad.add (i * 7)).block, (ad.add (i * 7)).off + 2, none⟩ = some (.int .u64 x.nn)
  c3 : w.cell? ⟨(ad.add (i * 7)).block, (ad.add (i * 7)).off + 3, none⟩ = some (.int .i64 x.kd)
  c4 : w.cell? ⟨(ad.add (i * 7)).block, (ad.add (i * 7)).off + 4, none⟩ = some (.slice x.A1 x.ws_.length x.c1)
  c5 : w.cell? ⟨(ad.add (i * 7)).block, (ad.add (i * 7)).off + 5, none⟩ = some (.slice x.A2 x.raw.length x.c2)
  c6 : w.cell? ⟨(ad.add (i * 7)).block, (ad.add (i * 7)).off + 6, none⟩ = some (.slice x.A3 x.it.length x.c3)
  r1 : Rd w .u64 (.slice x.A1 x.ws_.length x.c1) x.ws_
  r2 : Rd w .u8 (.slice x.A2 x.raw.length x.c2) x.raw
  r3 : Rd w .u64 (.slice x.A3 x.it.length x.c3) x.it
  ab : -9223372036854775808 ≤ x.at_ ∧ x.at_ ≤ 9223372036854775807
  nb : 0 ≤ x.nn ∧ x.nn ≤ 18446744073709551615
  iw : isW x.ws_
  ib : isB x.raw
  ii : isW x.it
def AcRow (w : World) (A : Option Addr) (n c : Nat) (xs : List Ac) : Prop :=
  xs.length = n ∧ n ≤ 9223372036854775807 ∧ n ≤ c ∧ (0 < n → ∃ ad, A = some ad ∧ ∀ i x, xs[i]? = some x → AcAt w ad i x)
theorem get_take {cs : List Value} {j : Nat} {v : Value} (h : (cs.drop j).take 1 = [v]) : cs[j]? = some v := by
  have := congrArg (fun l : List Value => l[0]?) h
  simpa [List.getElem?_take, List.getElem?_drop] using this
theorem get_take4 {cs : List Value} {k : Nat} {v : Value} (h : (((cs.drop 3).take 4).drop k).take 1 = [v]) : cs[3 + k]? = some v := by
  have := get_take h
  rw [List.getElem?_take] at this
  split at this
  · rwa [List.getElem?_drop] at this
  · cases this
theorem rd_form {w : World} {k : IntKind} {v : Value} {l : List Int} (h : Rd w k v l) : ∃ A c, v = .slice A l.length c := by
  obtain ⟨A, c, rfl, _⟩ := h
  exact ⟨A, c, rfl⟩
theorem one_of {H : Type} {enc : TypeId × Value → H} {P : Program} {w : World} {base : Nat} {sp : Nat → Bool} {held : Bool} {t e : TypeId} {n : Nat} {cs : List Value} {y : DataW H × List MemPlace} (ht : P.underlying t = some (.slice e)) (h : DataW.trod enc P w base sp held n t cs = some y) : ∃ v, cs = [v] := by
  rcases open_slice ht h with ⟨h0, _⟩ | ⟨a, len, cap, m, n, D, Pl, hcs, _⟩
  · exact ⟨_, h0⟩
  · exact ⟨_, hcs⟩
theorem open_acts7 {H : Type} {enc : TypeId × Value → H} {w : World} {base : Nat} {held : Bool} {fuel : Nat} {v : Value} {x : DataW H × List MemPlace} (h : DataW.trod enc Try.prog w base (fun _ => true) held fuel 75 [v] = some x) :
    ∃ A n c xs, v = .slice A n c ∧ AcRow w A n c xs := by
  have k1 : Try.prog.cellsOf 3 = 1 := by kernel_rfl
  have k2 : Try.prog.cellsOf 32 = 1 := by kernel_rfl
  have k3 : Try.prog.cellsOf 48 = 4 := by kernel_rfl
  have k4 : Try.prog.cellsOf 22 = 1 := by kernel_rfl
  have k5 : Try.prog.cellsOf 46 = 1 := by kernel_rfl
  have k7 : Try.prog.cellsOf 81 = 7 := by kernel_rfl
  rcases open_slice Try.underlying75 h with ⟨h0, _⟩ | ⟨a, len, cap, m, n, D, Pl, hcs, _, hl, hm, hmm, _, hi⟩
  · simp only [List.cons.injEq, and_true] at h0
    subst h0
    exact ⟨none, 0, 0, [], rfl, rfl, by omega, Nat.le_refl _, fun h => absurd h (Nat.lt_irrefl 0)⟩
  · simp only [List.cons.injEq, and_true] at hcs
    subst hcs
    simp only [if_true] at hmm
    subst hmm
    obtain ⟨l, hll, hq⟩ := list_of (fun i x => AcAt w a i x) len (fun i hin => by
      obtain ⟨cs', hc, ht'⟩ := hi i (by omega)
      rw [k7] at hc
      obtain ⟨ys, n', _, _, _, hyl, hf⟩ := DataW.trod_struct Try.underlying81 ht'
      obtain ⟨_, hcl, hat⟩ := World.cells?_some hc
      have hy : ∀ j, j < 4 → ∃ y, ys[j]? = some y := fun j hj => ⟨_, List.getElem?_eq_getElem (show j < ys.length by rw [hyl]; exact hj)⟩
      obtain ⟨y0, e0⟩ := hy 0 (by omega)
      obtain ⟨y1, e1⟩ := hy 1 (by omega)
      obtain ⟨y2, e2⟩ := hy 2 (by omega)
      obtain ⟨y3, e3⟩ := hy 3 (by omega)
      have t0 : DataW.trod enc Try.prog w base (fun _ => true) held n' 3 ((cs'.drop 0).take (Try.prog.cellsOf 3)) = some y0 := (hf 0 _ rfl).trans e0
      have t1 : DataW.trod enc Try.prog w base (fun _ => true) held n' 3 ((cs'.drop 1).take (Try.prog.cellsOf 3)) = some y1 := (hf 1 _ rfl).trans e1
      have t2 : DataW.trod enc Try.prog w base (fun _ => true) held n' 32 ((cs'.drop 2).take (Try.prog.cellsOf 32)) = some y2 := (hf 2 _ rfl).trans e2
      have t3 : DataW.trod enc Try.prog w base (fun _ => true) held n' 48 ((cs'.drop 3).take (Try.prog.cellsOf 48)) = some y3 := (hf 3 _ rfl).trans e3
      rw [k1] at t0 t1
      rw [k2] at t2
      rw [k3] at t3
      obtain ⟨v0, q0, _, w0⟩ := DataW.trod_int Try.underlying3 t0
      obtain ⟨v1, q1, _, w1⟩ := DataW.trod_int Try.underlying3 t1
      obtain ⟨v2, q2, _, w2⟩ := DataW.trod_int Try.underlying32 t2
      obtain ⟨zs, n2, _, _, _, hzl, hg⟩ := DataW.trod_struct Try.underlying48 t3
      have hz : ∀ j, j < 4 → ∃ y, zs[j]? = some y := fun j hj => ⟨_, List.getElem?_eq_getElem (show j < zs.length by rw [hzl]; exact hj)⟩
      obtain ⟨z0, g0⟩ := hz 0 (by omega)
      obtain ⟨z1, g1⟩ := hz 1 (by omega)
      obtain ⟨z2, g2⟩ := hz 2 (by omega)
      obtain ⟨z3, g3⟩ := hz 3 (by omega)
      have s0 : DataW.trod enc Try.prog w base (fun _ => true) held n2 3 ((((cs'.drop 3).take 4).drop 0).take (Try.prog.cellsOf 3)) = some z0 := (hg 0 _ rfl).trans g0
      have s1 : DataW.trod enc Try.prog w base (fun _ => true) held n2 46 ((((cs'.drop 3).take 4).drop 1).take (Try.prog.cellsOf 46)) = some z1 := (hg 1 _ rfl).trans g1
      have s2 : DataW.trod enc Try.prog w base (fun _ => true) held n2 22 ((((cs'.drop 3).take 4).drop 2).take (Try.prog.cellsOf 22)) = some z2 := (hg 2 _ rfl).trans g2
      have s3 : DataW.trod enc Try.prog w base (fun _ => true) held n2 46 ((((cs'.drop 3).take 4).drop 3).take (Try.prog.cellsOf 46)) = some z3 := (hg 3 _ rfl).trans g3
      rw [k1] at s0
      rw [k5] at s1 s3
      rw [k4] at s2
      obtain ⟨v3, q3, _, w3⟩ := DataW.trod_int Try.underlying3 s0
      obtain ⟨u4, q4⟩ := one_of Try.underlying46 s1
      obtain ⟨u5, q5⟩ := one_of Try.underlying22 s2
      obtain ⟨u6, q6⟩ := one_of Try.underlying46 s3
      rw [q4] at s1
      rw [q5] at s2
      rw [q6] at s3
      obtain ⟨l4, r4, w4⟩ := open_rd Try.underlying46 Try.underlying32 (by kernel_rfl) s1
      obtain ⟨l5, r5, w5⟩ := open_rd Try.underlying22 Try.underlying5 (by kernel_rfl) s2
      obtain ⟨l6, r6, w6⟩ := open_rd Try.underlying46 Try.underlying32 (by kernel_rfl) s3
      obtain ⟨A4, c4, rfl⟩ := rd_form r4
      obtain ⟨A5, c5, rfl⟩ := rd_form r5
      obtain ⟨A6, c6, rfl⟩ := rd_form r6
      have far : ∀ (j : Nat) (u : Value), 0 < j → j < 7 → cs'[j]? = some u → w.cell? ⟨(a.add (i * 7)).block, (a.add (i * 7)).off + j, none⟩ = some u := fun j u hj0 hj e => by
        have := hat j hj
        rw [Go.Deep.add_add, add_field a (i * 7) j hj0, e] at this
        exact this
      refine ⟨⟨v0, v1, v2, v3, l4, l5, l6, A4, A5, A6, c4, c5, c6⟩, ?_, far 1 _ (by omega) (by omega) (get_take q1), far 2 _ (by omega) (by omega) (get_take q2), far 3 _ (by omega) (by omega) (get_take4 q3), far 4 _ (by omega) (by omega) (get_take4 q4), far 5 _ (by omega) (by omega) (get_take4 q5), far 6 _ (by omega) (by omega) (get_take4 q6), r4, r5, r6, bounds_i64 w1, bounds_u64 w2, fun z hz => bounds_u64 (w4 z hz), fun z hz => bounds_u8 (w5 z hz), fun z hz => bounds_u64 (w6 z hz)⟩
      have := hat 0 (by omega)
      rw [get_take q0] at this
      simpa [Go.Deep.add_add] using this)
    exact ⟨_, len, m, l, rfl, hll, by unfold maxLen at hm; omega, hl, fun _ => ⟨a, rfl, hq⟩⟩
end Go.Proofs.Ytigdchfjcfljjaa
end
section
/- ImageLays: the law. -/
namespace Go.Proofs.Ytigdchfjcfljjaa
open Go.RowKit Go.Proofs.YtigdchfjcfljjaaW.PrintWords Go.Proofs.YtigdchfjcfljjaaW.PrintLast Go.Proofs.YtigdchfjcfljjaaW.PrintMore
attribute [local go_sem] max2_int min2_int max_two min_two max_three min_three max_four min_four   -- for this text's walks alone
set_option linter.unusedVariables false
set_option linter.unusedSimpArgs false

/-- Both images, on a law's way. -/
def Sn (w W : World) (g1 b1 g2 b2 : Nat) (H : Hd) (lim : Int) (m : Nat) (B Was ws : List Int) (F1 F2 : Nat → Prop) : Prop :=
  Pr W g1 b1 g2 b2 H lim B Was ws m F1 F2 ∧ (w.heap.size ≤ b1 ∧ w.heap.size ≤ b2) ∧ Below w.heap.size w W
theorem Sn.below {w W W' : World} {g1 b1 g2 b2 : Nat} {H : Hd} {lim : Int} {m : Nat} {B Was ws : List Int} {F1 F2 : Nat → Prop} (h : Sn w W g1 b1 g2 b2 H lim m B Was ws F1 F2) (hb : Below W.heap.size W W') : Sn w W' g1 b1 g2 b2 H lim m B Was ws F1 F2 := by
  obtain ⟨⟨⟨vb, vw, hI⟩, ⟨xb, xa, xw, hR⟩, hd, hG⟩, hbb, hB⟩ := h
  exact ⟨⟨⟨vb, vw, hI.below hb⟩, ⟨xb, xa, xw, hR.below hb⟩, hd, hG⟩, hbb, below_step hB hb⟩
theorem Sn.bel {w W : World} {g1 b1 g2 b2 : Nat} {H : Hd} {lim : Int} {m : Nat} {B Was ws : List Int} {F1 F2 : Nat → Prop} (h : Sn w W g1 b1 g2 b2 H lim m B Was ws F1 F2) : Below w.heap.size w W := h.2.2
theorem Sn.turn {w W W' : World} {g1 b1 g2 b2 : Nat} {H : Hd} {lim : Int} {m : Nat} {B Was ws : List Int} {F1 F2 : Nat → Prop} {keep : Prop} (h : Sn w W g1 b1 g2 b2 H lim m B Was ws F1 F2) (hs : PrS W W' g1 b1 g2 b2 H lim Was m F1 F2 keep) :
    ∃ B' Was' ws' F1' F2', Sn w W' g1 b1 g2 b2 H lim (m + 1) B' Was' ws' F1' F2' ∧ (∀ k, F1' k → ext F1 W W' k) ∧ (∀ k, F2' k → ext F2 W W' k) ∧ Kp (fun k => F1 k ∨ F2 k) W W' ∧ (keep → Was' = Was) := by
  obtain ⟨⟨⟨vb, vw, hI⟩, ⟨xb, xa, xw, hR⟩, hd, hG⟩, hbb, hB⟩ := h
  obtain ⟨B', Was', ws', F1', F2', hP, e1, e2, hk, hkeep⟩ := hs
  exact ⟨B', Was', ws', F1', F2', ⟨hP, hbb, below_kp hB hk (Nat.le_refl _) (fun k hk => hk.elim (fun h => Nat.le_trans hbb.1 (hI.ge h)) (fun h => Nat.le_trans hbb.2 (hR.ge h)))⟩, e1, e2, hk, hkeep⟩
theorem Pr.of {w w0 w1 w2 w3 : World} {g1 b1 g2 b2 : Nat} {H : Hd} {lim : Int} {B Was ws B' Was' ws' : List Int} {m : Nat} {F1 F2 : Nat → Prop} (h : Pr w g1 b1 g2 b2 H lim B Was ws m F1 F2) (hb0 : Below w.heap.size w w0) (h1 : ImS w0 w1 g1 b1 H B' lim (Was'.length : Int) ws' F1) (hb1 : Below w1.heap.size w1 w2)
    (h2 : RmS w2 w3 g2 b2 H B' Was' lim ws' F2) (hG : Gd lim B' Was' ws' (m + 1)) : Pr w3 g1 b1 g2 b2 H lim B' Was' ws' (m + 1) (ext F1 w0 w1) (ext F2 w2 w3) ∧ Kp (fun k => F1 k ∨ F2 k) w w3 := by
  obtain ⟨⟨vb, vw, hI⟩, ⟨xb, xa, xw, hR⟩, hd, _⟩ := h
  obtain ⟨⟨vb', vw', hI'⟩, hk1⟩ := h1
  obtain ⟨⟨xb', xa', xw', hR'⟩, hk2⟩ := h2
  have s0 := hb0.size
  have s1 := hk1.size
  have s2 := hb1.size
  have s3 := hk2.size
  have f1 : ∀ k, F1 k → k < w.heap.size := fun k hk => hI.lt hk
  have f2 : ∀ k, F2 k → k < w.heap.size := fun k hk => hR.lt hk
  refine ⟨⟨⟨vb', vw', ?_⟩, ⟨xb', xa', xw', hR'⟩, ?_, hG⟩, ?_⟩
  · exact (hI'.below hb1).kp hk2 (fun k hk h2 => by
      rcases hk with hk | hk
      · exact hd k hk h2
      · have := f2 k h2
        omega)
  · rintro k (hk | hk) (h2 | h2)
    · exact hd k hk h2
    · have := f1 k hk
      omega
    · have := f2 k h2
      omega
    · omega
  · have e1 : Kp (fun k => F1 k ∨ F2 k) w w2 := ((Kp.of_below hb0 _).trans (hk1.mono (fun k hk => .inl hk)) (fun k hk => .inl hk)).below hb1
    exact e1.trans (hk2.mono (fun k hk => .inr hk)) (fun k hk => .inl hk)
/-- The same, with what both were. -/
def Sz (w W : World) (g1 b1 g2 b2 : Nat) (H : Hd) (lim : Int) (m : Nat) (B Was ws : List Int) (F1 F2 : Nat → Prop) (vz : Value) : Prop :=
  Sn w W g1 b1 g2 b2 H lim m B Was ws F1 F2 ∧ OwnO (Value.int .u8) W w.heap.size 5 vz Was ∧ ∀ k, vz.ownBlock = some k → ¬ F1 k ∧ ¬ F2 k
theorem Sz.below {w W W' : World} {g1 b1 g2 b2 : Nat} {H : Hd} {lim : Int} {m : Nat} {B Was ws : List Int} {F1 F2 : Nat → Prop} {vz : Value} (h : Sz w W g1 b1 g2 b2 H lim m B Was ws F1 F2 vz) (hb : Below W.heap.size W W') : Sz w W' g1 b1 g2 b2 H lim m B Was ws F1 F2 vz := ⟨h.1.below hb, h.2.1.below hb, h.2.2⟩
theorem Sz.bel {w W : World} {g1 b1 g2 b2 : Nat} {H : Hd} {lim : Int} {m : Nat} {B Was ws : List Int} {F1 F2 : Nat → Prop} {vz : Value} (h : Sz w W g1 b1 g2 b2 H lim m B Was ws F1 F2 vz) : Below w.heap.size w W := h.1.2.2
theorem Sz.turn {w W W' : World} {g1 b1 g2 b2 : Nat} {H : Hd} {lim : Int} {m : Nat} {B Was ws : List Int} {F1 F2 : Nat → Prop} {keep : Prop} {vz : Value} (h : Sz w W g1 b1 g2 b2 H lim m B Was ws F1 F2 vz) (hs : PrS W W' g1 b1 g2 b2 H lim Was m F1 F2 keep) (hk : keep) :
    ∃ B' ws' F1' F2', Sz w W' g1 b1 g2 b2 H lim (m + 1) B' Was ws' F1' F2' vz := by
  obtain ⟨hsn, ho, hf⟩ := h
  obtain ⟨B', Was', ws', F1', F2', hs2, e1, e2, hkp, hkeep⟩ := hsn.turn hs
  have := hkeep hk
  subst this
  refine ⟨B', ws', F1', F2', hs2, ho.kp hkp (fun k hk h => h.elim (hf k hk).1 (hf k hk).2), fun k hk => ?_⟩
  have hlt := ho.lt hk
  exact ⟨fun h => (e1 k h).elim (hf k hk).1 (fun hh => by omega), fun h => (e2 k h).elim (hf k hk).2 (fun hh => by omega)⟩
/-- What an act reads as, at any later world. -/
theorem AcAt.acr {w : World} {ad : Addr} {i : Nat} {x : Ac} (h : AcAt w ad i x) (hl : lightA x.ws_.length x.raw.length x.it.length = true) : AcR w w.heap.size x.nn x.ws_ x.raw x.it x.A1 x.A2 x.A3 x.c1 x.c2 x.c3 :=
  ⟨fun w1 hb => ⟨h.r1.below hb, h.r2.below hb, h.r3.below hb⟩, h.iw, h.ib, h.ii, by simpa [lightA] using hl, h.nb⟩
theorem AcR.to {w W : World} {nn : Int} {ws_ raw it : List Int} {A1 A2 A3 : Option Addr} {c1 c2 c3 : Nat} (h : AcR w w.heap.size nn ws_ raw it A1 A2 A3 c1 c2 c3) (hb : Below w.heap.size w W) : AcR W w.heap.size nn ws_ raw it A1 A2 A3 c1 c2 c3 :=
  ⟨fun w1 hb1 => h.1 w1 (hb.trans hb1), h.2⟩
/-- Words laid over. -/
def layW (C b ws : List Int) : List Int := ws.foldl (fun b a => splice b a.toNat ((C.drop a.toNat).take 8)) b
theorem lay8_len (C : List Int) (a : Nat) (h : a + 8 ≤ C.length) : ((C.drop a).take 8).length = 8 := by rw [List.length_take, List.length_drop]; omega
theorem layW_len (C b : List Int) (hl : b.length = C.length) : ∀ (ws : List Int), (∀ x ∈ ws, 0 ≤ x ∧ x + 8 ≤ (C.length : Int)) → (layW C b ws).length = b.length := by
  intro ws
  induction ws generalizing b with
  | nil => intro _; rfl
  | cons x ws ih =>
    intro h
    have hx := h x (by simp)
    have h8 := lay8_len C x.toNat (by omega)
    have hs : (splice b x.toNat ((C.drop x.toNat).take 8)).length = b.length := length_splice _ _ _ (by rw [h8]; omega)
    rw [layW, List.foldl_cons, ← layW, ih _ (by rw [hs, hl]) (fun y hy => h y (by simp [hy])), hs]
theorem layW_snoc (C b ws : List Int) (k : Nat) (h : k < ws.length) : layW C b (ws.take (k + 1)) = splice (layW C b (ws.take k)) (ws.getD k 0).toNat ((C.drop (ws.getD k 0).toNat).take 8) := by
  rw [layW, List.take_add_one, List.getElem?_eq_getElem h, List.foldl_append, List.getD_eq_getElem?_getD, List.getElem?_eq_getElem h]
  rfl
theorem layW_getD (C : List Int) : ∀ (ws b : List Int), b.length = C.length → (∀ x ∈ ws, 0 ≤ x ∧ x + 8 ≤ (C.length : Int)) → ∀ i, (layW C b ws).getD i 0 = if hit ws i = true then C.getD i 0 else b.getD i 0
  | [], b, _, _, i => by simp [layW, hit]
  | x :: ws, b, hl, h, i => by
    have hx := h x (by simp)
    have h8 := lay8_len C x.toNat (by omega)
    have hs : (splice b x.toNat ((C.drop x.toNat).take 8)).length = b.length := length_splice _ _ _ (by rw [h8]; omega)
    have ih := layW_getD C ws (splice b x.toNat ((C.drop x.toNat).take 8)) (by rw [hs, hl]) (fun y hy => h y (by simp [hy])) i
    rw [layW, List.foldl_cons, ← layW, ih, splice_getD _ _ _ (by rw [h8]; omega), h8]
    have e : hit (x :: ws) i = (hit1 i x || hit ws i) := by simp [hit]
    rw [e]
    cases h2 : hit ws i
    · cases h1 : hit1 i x
      · have := of_decide_eq_false h1
        rw [if_neg (by decide), if_neg this]
        simp
      · have := of_decide_eq_true h1
        rw [if_neg (by decide), if_pos this, if_pos (by decide), List.getD_eq_getElem?_getD, List.getElem?_take_of_lt (by omega), List.getElem?_drop, show x.toNat + (i - x.toNat) = i by omega, ← List.getD_eq_getElem?_getD]
    · simp
/-- What was changed, laid over what was there, is what is there now. -/
theorem lay_all {lim : Int} {B Was ws : List Int} {m : Nat} (h : Gd lim B Was ws m) : layW B (Was ++ B.drop Was.length) ws = B := by
  have hG := h
  obtain ⟨_, ⟨l1, l2, l3⟩, _, hw, _, hz, _⟩ := h
  have hl : (Was ++ B.drop Was.length).length = B.length := by rw [List.length_append, List.length_drop]; omega
  have e := take_eq (q := B.length) (l := layW B (Was ++ B.drop Was.length) ws) (l' := B) (by rw [layW_len _ _ hl ws hG.inB]; omega) (Nat.le_refl _) fun i hi => by
    rw [layW_getD _ _ _ hl hG.inB]
    cases hh : hit ws i
    · rw [if_neg (by decide)]
      by_cases c : i < Was.length
      · rw [List.getD_eq_getElem?_getD, List.getElem?_append_left c, ← List.getD_eq_getElem?_getD]
        conv => lhs; rw [← hz]
        have := zeroW_getD ws B hG.inB i
        rw [hh, if_neg (by decide)] at this
        rw [List.getD_eq_getElem?_getD, List.getElem?_take_of_lt c, ← List.getD_eq_getElem?_getD]
        exact this
      · rw [List.getD_eq_getElem?_getD, List.getElem?_append_right (by omega), List.getElem?_drop, show Was.length + (i - Was.length) = i by omega, ← List.getD_eq_getElem?_getD]
    · rw [if_pos rfl]
  rw [List.take_length, List.take_of_length_le (by rw [layW_len _ _ hl ws hG.inB]; omega)] at e
  exact e
/-- A patch's place and slice, as the walk reads them. -/
theorem PRow.cells7 {W : World} {base : Nat} {A : Option Addr} {n c : Nat} {ps : List (Int × Value)} (h : PRow W base (.slice A n c) ps) (i : Nat) (hi : i < ps.length) : ∃ ad, A = some ad ∧ W.cell? (ad.add (i * 2)) = some (.int .i64 (ps.getD i (0, .slice none 0 0)).1) ∧ W.cell? ⟨(ad.add (i * 2)).block, (ad.add (i * 2)).off + 1, none⟩ = some (ps.getD i (0, .slice none 0 0)).2 := by
  obtain ⟨ad, rfl, h1, h2⟩ := h.cells i hi
  refine ⟨ad, rfl, by rw [Nat.mul_comm]; exact h1, ?_⟩
  rw [← add_field ad (i * 2) 1 (by omega), Nat.mul_comm]
  exact h2
def lays0 : List Int := encZ magicL [5, 6, 4, 4, 0] ++ List.replicate 256 0
theorem lays0_len : lays0.length = 320 := by rw [lays0, List.length_append, List.length_replicate, encZ, List.length_append, encC_len, List.length_replicate]; rfl
theorem lays0_gd : Gd 4000 lays0 lays0 [] 0 :=
  ⟨⟨(encZ_isB magic_isB _).app (zeros_isB 256), (encZ_isB magic_isB _).app (zeros_isB 256)⟩, by rw [lays0_len]; decide, by rw [lays0_len]; decide, fun x hx => by simp at hx, Nat.le_refl _, List.take_length, by decide⟩
set_option maxHeartbeats 8000000 in
set_option maxRecDepth 100000 in
theorem ImageLays_main (A0 : Option Addr) (n0 c0 : Nat) (l : List Ac) (A9 : Option Addr) (n9 c9 : Nat) (k9 : List Ac) (w : World) (h0 : AcRow w A0 n0 c0 l) (h9 : AcRow w A9 n9 c9 k9) : Calls Try.prog 7 #[.slice A0 n0 c0, .slice A9 n9 c9] w fun e w' => e = .returned (.bool true) ∧ Below w.heap.size w w' := by
  have H0 := Aside0.mk h0
  have H9 := Aside0.mk h9
  have hn0 : n0 ≤ 9223372036854775807 := h0.2.1
  have hc0 : n0 ≤ c0 := h0.2.2.1
  have hn9 : n9 ≤ 9223372036854775807 := h9.2.1
  have hc9 : n9 ≤ c9 := h9.2.2.1
  have CN1 := Aside0.mk (fun (T : Nat) (w1 : World) (hT : CrcT w1 T) => by have := New_yes ⟨5, 6, 4, 4, 0⟩ T 4000 w1 hT (by decide) (by decide) (by decide) (by decide) (by decide) (by decide) (by decide) (by decide); dsimp only at this; exact this)
  have CN2 := Aside0.mk (fun (w1 : World) => by have := RNew_yes ⟨5, 6, 4, 4, 0⟩ 4000 w1 (by decide) (by decide) (by decide) (by decide) (by decide) (by decide) (by decide) (by decide); dsimp only at this; exact this)
  rw [show obN ⟨5, 6, 4, 4, 0⟩ = 320 from rfl] at CN1 CN2
  rw [show encZ magicL [5, 6, 4, 4, 0] ++ List.replicate ((320 : Int) - 64).toNat 0 = lays0 from rfl] at CN1 CN2
  clear h0 h9
  go_enter Try.func7, Try.ntmps7

  go_wp2_with fail
  refine (img_awake_calls _).mono ?_
  rintro e w1 ⟨rfl, hb⟩
  have HB := Aside0.mk hb
  clear hb
  go_wp2_with fail
  refine (heads_calls 3 3 4 4 _ (by decide) (by decide) (by decide) (by decide) (by decide) (by decide)).mono ?_
  rintro e w2 ⟨rfl, hb⟩
  replace HB := Aside0.mk (below_step HB.out hb)
  clear hb
  have HX := Aside0.mk (blk_alloc (blk_new w2 (.cells #[.int .u64 5, .int .u64 6, .int .i64 4, .int .i64 4, .int .u64 0] 59)) (.cells #[.int .u64 5, .int .u64 6, .int .i64 4, .int .i64 4, .int .u64 0] 60))
  have HY := Aside0.mk (show ((w2.alloc (.cells #[.int .u64 5, .int .u64 6, .int .i64 4, .int .i64 4, .int .u64 0] 59)).alloc (.cells #[.int .u64 5, .int .u64 6, .int .i64 4, .int .i64 4, .int .u64 0] 60)).heap[w2.heap.size + 1]? = some (.cells #[.int .u64 5, .int .u64 6, .int .i64 4, .int .i64 4, .int .u64 0] 60 (0, 0)) by have := blk_new (w2.alloc (.cells #[.int .u64 5, .int .u64 6, .int .i64 4, .int .i64 4, .int .u64 0] 59)) (.cells #[.int .u64 5, .int .u64 6, .int .i64 4, .int .i64 4, .int .u64 0] 60); simpa using this)
  replace HB := Aside0.mk (below_alloc (below_alloc HB.out (.cells #[.int .u64 5, .int .u64 6, .int .i64 4, .int .i64 4, .int .u64 0] 59)) (.cells #[.int .u64 5, .int .u64 6, .int .i64 4, .int .i64 4, .int .u64 0] 60))
  go_upto_region 4 with fail
  obtain ⟨gx, hgx⟩ : ∃ g, w2.heap.size = g := ⟨_, rfl⟩
  obtain ⟨gy, hgy⟩ : ∃ g, gx + 1 = g := ⟨_, rfl⟩
  rw [hgx] at HX
  rw [hgx, hgy] at HY
  rw [hgx, hgy]
  obtain ⟨w3, hw3⟩ : ∃ w3, (w2.alloc (.cells #[.int .u64 5, .int .u64 6, .int .i64 4, .int .i64 4, .int .u64 0] 59)).alloc (.cells #[.int .u64 5, .int .u64 6, .int .i64 4, .int .i64 4, .int .u64 0] 60) = w3 := ⟨_, rfl⟩
  rw [hw3] at HX HY HB ⊢
  clear hgx hgy hw3

  have x0 := blk_cell HX.out 0
  have y0 := blk_cell HY.out 0
  have x1 := blk_cell HX.out 1
  have y1 := blk_cell HY.out 1
  have x2 := blk_cell HX.out 2
  have y2 := blk_cell HY.out 2
  have x3 := blk_cell HX.out 3
  have y3 := blk_cell HY.out 3
  have x4 := blk_cell HX.out 4
  have y4 := blk_cell HY.out 4


  refine start_ (n := 7) (S := fun w' => w'.cell? ⟨gx, 0, none⟩ = some (.int .u64 5) ∧ w'.cell? ⟨gx, 1, none⟩ = some (.int .u64 6) ∧ w'.cell? ⟨gx, 2, none⟩ = some (.int .i64 4) ∧ w'.cell? ⟨gx, 3, none⟩ = some (.int .i64 4) ∧ w'.cell? ⟨gx, 4, none⟩ = some (.int .u64 0) ∧ w'.cell? ⟨gy, 0, none⟩ = some (.int .u64 5) ∧ w'.cell? ⟨gy, 1, none⟩ = some (.int .u64 6) ∧ w'.cell? ⟨gy, 2, none⟩ = some (.int .i64 4) ∧ w'.cell? ⟨gy, 3, none⟩ = some (.int .i64 4) ∧ w'.cell? ⟨gy, 4, none⟩ = some (.int .u64 0)) (ds := []) #[false, false, false, false, false, false, false] (by kernel_rfl) rfl rfl ⟨x0, x1, x2, x3, x4, y0, y1, y2, y3, y4⟩ (fun hHeld => ?_)
  refine take_ (i := 1) (N := some 22) (v := ?_) (a' := ?_) #[false, true, false, false, false, false, false] rfl rfl (by kernel_rfl) (fun _ _ _ h => h) (Or.inl ⟨by rfl, ?_⟩) hHeld ?_ ?_
  rotate_left
  · rintro w' ⟨s0, s1, s2, s3, s4, s5, s6, s7, s8, s9⟩
    go_simp
    with_reducible rfl
  rotate_left
  · simp only [Act.put, List.setIfInBounds_toArray, List.set_cons_zero, List.set_cons_succ, i64_w, i32_w]
    rfl
  refine take_ (i := 3) (N := some 24) (v := ?_) (a' := ?_) #[false, true, false, true, false, false, false] rfl rfl (by kernel_rfl) (fun _ _ _ h => h) (Or.inl ⟨by rfl, ?_⟩) hHeld ?_ ?_
  rotate_left
  · rintro w' ⟨s0, s1, s2, s3, s4, s5, s6, s7, s8, s9⟩
    go_simp
    with_reducible rfl
  rotate_left
  · simp only [Act.put, List.setIfInBounds_toArray, List.set_cons_zero, List.set_cons_succ, i64_w, i32_w]
    rfl
  refine one_ (i := 0) (N := some 21) #[true, true, false, true, false, false, false] rfl rfl (by kernel_rfl) (by decide) (fun K hK => ?_)
  refine goes_ Try.func22 (by kernel_rfl) rfl #[] (by rfl) rfl rfl (by (try simp only [List.map_toArray, List.map_cons, List.map_nil]); first | done | rfl) ?_
  with_reducible refine (crc_Make_calls _).mono ?_
  rintro e w4 ⟨rfl, hT4, hb4⟩
  refine ⟨_, rfl, ?_⟩
  refine hK.out _ _ ⟨(pw_cell_below hb4 hHeld.1), (pw_cell_below hb4 hHeld.2.1), (pw_cell_below hb4 hHeld.2.2.1), (pw_cell_below hb4 hHeld.2.2.2.1), (pw_cell_below hb4 hHeld.2.2.2.2.1), (pw_cell_below hb4 hHeld.2.2.2.2.2.1), (pw_cell_below hb4 hHeld.2.2.2.2.2.2.1), (pw_cell_below hb4 hHeld.2.2.2.2.2.2.2.1), (pw_cell_below hb4 hHeld.2.2.2.2.2.2.2.2.1), (pw_cell_below hb4 hHeld.2.2.2.2.2.2.2.2.2)⟩ (fun hHeld => ?_)
  clear hK K
  refine norm_ (a' := ?_) ?_ ?_
  rotate_left
  · show Act.put _ (some 21) _ = _
    simp only [Act.put, List.setIfInBounds_toArray, List.set_cons_zero, List.set_cons_succ, i64_w, i32_w]
    rfl
  refine one_ (i := 2) (N := some 23) #[true, true, true, true, false, false, false] rfl rfl (by kernel_rfl) (by decide) (fun K hK => ?_)
  refine goes_ Try.func47 (by kernel_rfl) rfl #[.pointer (some ⟨w3.drew.heap.size, 0, none⟩), .agg #[.int .u64 5, .int .u64 6, .int .i64 4, .int .i64 4, .int .u64 0], .int .i64 4000] (by rfl) rfl rfl (by (try simp only [List.map_toArray, List.map_cons, List.map_nil]); first | done | rfl) ?_
  with_reducible refine (CN1.out _ _ hT4).mono ?_
  rintro e w5 ⟨g1, rfl, ⟨vb, hI5⟩, hb5⟩
  refine ⟨_, rfl, ?_⟩
  refine hK.out _ _ ⟨(pw_cell_below hb5 hHeld.1), (pw_cell_below hb5 hHeld.2.1), (pw_cell_below hb5 hHeld.2.2.1), (pw_cell_below hb5 hHeld.2.2.2.1), (pw_cell_below hb5 hHeld.2.2.2.2.1), (pw_cell_below hb5 hHeld.2.2.2.2.2.1), (pw_cell_below hb5 hHeld.2.2.2.2.2.2.1), (pw_cell_below hb5 hHeld.2.2.2.2.2.2.2.1), (pw_cell_below hb5 hHeld.2.2.2.2.2.2.2.2.1), (pw_cell_below hb5 hHeld.2.2.2.2.2.2.2.2.2)⟩ (fun hHeld => ?_)
  clear hK K
  refine norm_ (a' := ?_) ?_ ?_
  rotate_left
  · show Act.put _ (some 23) _ = _
    simp only [Act.put, List.setIfInBounds_toArray, List.set_cons_zero, List.set_cons_succ, i64_w, i32_w]
    rfl
  refine one_ (i := 4) (N := some 25) #[true, true, true, true, true, false, false] rfl rfl (by kernel_rfl) (by decide) (fun K hK => ?_)
  refine goes_ Try.func48 (by kernel_rfl) rfl #[.agg #[.int .u64 5, .int .u64 6, .int .i64 4, .int .i64 4, .int .u64 0], .int .i64 4000] (by rfl) rfl rfl (by (try simp only [List.map_toArray, List.map_cons, List.map_nil]); first | done | rfl) ?_
  with_reducible refine (CN2.out _).mono ?_
  rintro e w6 ⟨g2, rfl, ⟨xb, xa, b2, hb2, hR6⟩, hb6⟩
  refine ⟨_, rfl, ?_⟩
  refine hK.out _ _ ⟨(pw_cell_below hb6 hHeld.1), (pw_cell_below hb6 hHeld.2.1), (pw_cell_below hb6 hHeld.2.2.1), (pw_cell_below hb6 hHeld.2.2.2.1), (pw_cell_below hb6 hHeld.2.2.2.2.1), (pw_cell_below hb6 hHeld.2.2.2.2.2.1), (pw_cell_below hb6 hHeld.2.2.2.2.2.2.1), (pw_cell_below hb6 hHeld.2.2.2.2.2.2.2.1), (pw_cell_below hb6 hHeld.2.2.2.2.2.2.2.2.1), (pw_cell_below hb6 hHeld.2.2.2.2.2.2.2.2.2)⟩ (fun hHeld => ?_)
  clear hK K
  refine norm_ (a' := ?_) ?_ ?_
  rotate_left
  · show Act.put _ (some 25) _ = _
    simp only [Act.put, List.setIfInBounds_toArray, List.set_cons_zero, List.set_cons_succ, i64_w, i32_w]
    rfl
  refine pure_ (i := 5) (N := some 7) (v := ?_) (a' := ?_) #[true, true, true, true, true, true, false] rfl rfl (by kernel_rfl) (fun _ _ _ h => h) (Or.inl ⟨by rfl, ?_⟩) ?_ ?_
  rotate_left
  · intro w'
    go_simp
    with_reducible rfl
  rotate_left
  · simp only [Act.put, List.setIfInBounds_toArray, List.set_cons_zero, List.set_cons_succ, i64_w, i32_w]
    rfl
  refine pure_ (i := 6) (N := some 8) (v := ?_) (a' := ?_) #[true, true, true, true, true, true, true] rfl rfl (by kernel_rfl) (fun _ _ _ h => h) (Or.inl ⟨by rfl, ?_⟩) ?_ ?_
  rotate_left
  · intro w'
    go_simp
    with_reducible rfl
  rotate_left
  · simp only [Act.put, List.setIfInBounds_toArray, List.set_cons_zero, List.set_cons_succ, i64_w, i32_w]
    rfl
  refine done_ (by kernel_rfl) ?_
  have HB4 := Aside0.mk (below_step (below_drew HB.out) hb4)
  have HSN := Aside0.mk (show Sn w w6 g1 w4.heap.size g2 b2 ⟨5, 6, 4, 4, 0⟩ 4000 0 lays0 lays0 [] (fun k => w4.heap.size ≤ k ∧ k < w5.heap.size) (fun k => b2 ≤ k ∧ k < w6.heap.size) from
    ⟨⟨⟨vb, _, by rw [lays0_len]; exact hI5.below hb6⟩, ⟨xb, xa, _, hR6⟩, fun k h1 h2 => Nat.lt_irrefl _ (Nat.lt_of_lt_of_le h1.2 (Nat.le_trans hb2 h2.1)), lays0_gd⟩, ⟨HB4.out.size, Nat.le_trans HB4.out.size (Nat.le_trans hb5.size hb2)⟩, below_step (below_step HB4.out hb5) hb6⟩)
  obtain ⟨b1, hb1⟩ : ∃ b, w4.heap.size = b := ⟨_, rfl⟩
  rw [hb1] at HSN
  clear hb1 hT4 hb4 hI5 hb5 hb2 hR6 hb6 HB HB4 CN1 CN2 HX HY x0 x1 x2 x3 x4 y0 y1 y2 y3 y4
  go_upto_block 0 with (fail)
  go_cut [] (fun wx => ∃ m B Was ws F1 F2, m ≤ 12 ∧ Aside0 (Sn w wx g1 b1 g2 b2 ⟨5, 6, 4, 4, 0⟩ 4000 m B Was ws F1 F2))
  case first =>
    go_wp2_with fail
    go_loopw [9] (fun v9 w' => ∃ i : Nat, i ≤ n0 ∧ i ≤ 12 ∧ v9 = .int .i64 i ∧ ∃ B Was ws F1 F2, Aside0 (Sn w w' g1 b1 g2 b2 ⟨5, 6, 4, 4, 0⟩ 4000 i B Was ws F1 F2)) (fun v9 _ => 12 - (intOf v9).toNat)
    case atStart => exact ⟨0, by omega, by omega, rfl, _, _, _, _, _, HSN⟩
    case round =>
      obtain ⟨i, hi, hi2, rfl, B, Was, ws, F1, F2, HS⟩ := hrel
      by_cases c2 : i < n0
      · by_cases c3 : i < 12
        · obtain ⟨ad, eA, hat⟩ := H0.out.2.2.2 (by omega)
          obtain ⟨x, hx⟩ : ∃ x, l[i]? = some x := ⟨_, List.getElem?_eq_getElem (show i < l.length by rw [H0.out.1]; exact c2)⟩
          have HA := Aside0.mk (hat i x hx)
          cases eA
          clear hat hx
          have hz0 := pw_cell_below HS.out.bel HA.out.c0
          have hz1 := pw_cell_below HS.out.bel HA.out.c1
          have hz2 := pw_cell_below HS.out.bel HA.out.c2
          have hz3 := pw_cell_below HS.out.bel HA.out.c3
          have hz4 := pw_cell_below HS.out.bel HA.out.c4
          have hz5 := pw_cell_below HS.out.bel HA.out.c5
          have hz6 := pw_cell_below HS.out.bel HA.out.c6
          go_wp2_with fail
          refine (alight_calls x.kind x.at_ x.nn x.kd x.A1 x.A2 x.A3 x.ws_.length x.raw.length x.it.length x.c1 x.c2 x.c3 _).mono ?_
          rintro e wl ⟨rfl, hb⟩
          replace HS := Aside0.mk (HS.out.below hb)
          clear hb hz0 hz1 hz2 hz3 hz4 hz5 hz6
          cases hlt : lightA x.ws_.length x.raw.length x.it.length with
          | false =>
            clear hlt
            go_wp2_with fail
            refine (img_awake_calls _).mono ?_
            rintro e w9 ⟨rfl, hb⟩
            have HE := Aside0.mk (below_step HS.out.bel hb)
            clear hb
            go_wp2_with fail
            go_ret
            exact ⟨rfl, HE.out⟩
          | true =>
            have HAC := Aside0.mk ((HA.out.acr hlt).to HS.out.bel)
            clear hlt
            have hz0 := pw_cell_below HS.out.bel HA.out.c0
            have hz1 := pw_cell_below HS.out.bel HA.out.c1
            have hz2 := pw_cell_below HS.out.bel HA.out.c2
            have hz3 := pw_cell_below HS.out.bel HA.out.c3
            have hz4 := pw_cell_below HS.out.bel HA.out.c4
            have hz5 := pw_cell_below HS.out.bel HA.out.c5
            have hz6 := pw_cell_below HS.out.bel HA.out.c6
            go_wp2_with fail
            refine (does_calls g1 b1 g2 b2 ⟨5, 6, 4, 4, 0⟩ 4000 B Was ws i F1 F2 x.kind x.at_ x.nn x.kd x.ws_ x.raw x.it x.A1 x.A2 x.A3 x.c1 x.c2 x.c3 wl HS.out.1 w.heap.size HS.out.2.1 HAC.out (by omega) HA.out.ab.1 HA.out.ab.2).mono ?_
            rintro e w7 ⟨rfl, hs⟩
            obtain ⟨B', Was', ws', F1', F2', hs2, _, _, _, _⟩ := HS.out.turn hs
            have HS2 := Aside0.mk hs2
            clear hs hs2 hz0 hz1 hz2 hz3 hz4 hz5 hz6
            go_wp2_with fail
            refine ⟨?_, ?measure⟩
            · repeat apply Exists.intro
              refine ⟨⟨i + 1, by omega, by omega, by go_num, _, _, _, _, _, HS2⟩, rfl⟩
            case measure => simp [intOf] <;> omega
        · obtain rfl : i = 12 := by omega
          go_wp2_with fail
          go_meet
          exact ⟨_, _, _, _, _, _, Nat.le_refl _, HS⟩
      · go_wp2_with fail
        go_meet
        exact ⟨_, _, _, _, _, _, hi2, HS⟩
  case rest =>
  obtain ⟨m, B, Was, ws, F1, F2, hm, HS⟩ := hcut
  obtain ⟨⟨⟨vb, vw, hI⟩, ⟨xb, xa, xw, hR⟩, hd, hG⟩, hbb, hB⟩ := id HS.out
  have C1 := Aside0.mk (Done_calls g1 b1 ⟨5, 6, 4, 4, 0⟩ B 4000 _ ws F1 vb vw wc hI _ rfl)
  have C2 := Aside0.mk (fun (w7 : World) (h : Rm w7 g2 b2 ⟨5, 6, 4, 4, 0⟩ B Was 4000 ws F2 xb xa xw) => RDone_calls g2 b2 ⟨5, 6, 4, 4, 0⟩ B Was 4000 ws F2 xb xa xw w7 h _ rfl (Nat.le_trans hG.2.1.2.2 (by decide)))
  have HRM := Aside0.mk (fun (w7 : World) (hk : Kp F1 wc w7) => Pr.rm hd hR (Below.refl _ _) hk (Below.refl w7.heap.size w7))
  have HG := Aside0.mk hG.done
  have HBB := Aside0.mk hbb
  have HBL := Aside0.mk (Nat.le_trans hG.2.1.2.2 (show 70000 ≤ 1000000 by decide))
  clear hI hR hd hG hbb hB
  go_wp2_with fail
  refine (C1.out).mono ?_
  rintro e w7 ⟨rfl, hs1⟩
  have HS1 := Aside0.mk hs1
  clear hs1 C1
  go_wp2_with fail
  refine (C2.out _ (HRM.out _ HS1.out.kp)).mono ?_
  rintro e w8 ⟨rfl, hs2⟩
  obtain ⟨hP8, hk8⟩ := Pr.of HS.out.1 (Below.refl _ _) HS1.out (Below.refl _ _) hs2 HG.out
  have hB8 := below_kp HS.out.bel hk8 (Nat.le_refl _) (fun k hk => by
    obtain ⟨⟨⟨_, _, hI⟩, ⟨_, _, _, hR⟩, _, _⟩, hbb, _⟩ := HS.out
    exact hk.elim (fun h => Nat.le_trans hbb.1 (hI.ge h)) (fun h => Nat.le_trans hbb.2 (hR.ge h)))
  have HS8 := Aside0.mk (show Sn w w8 g1 b1 g2 b2 ⟨5, 6, 4, 4, 0⟩ 4000 (m + 1) B B [] _ _ from ⟨hP8, HBB.out, hB8⟩)
  obtain ⟨⟨vb8, vw8, hI8⟩, ⟨xb8, xa8, xw8, hR8⟩, hd8, hG8⟩ := hP8
  obtain ⟨n, hn⟩ : ∃ n, B.length = n := ⟨_, rfl⟩
  obtain ⟨Ab, cb, ev, _, _⟩ := hR8.b.sl hn
  subst ev
  obtain ⟨Az, cz, w9, hr9, ho9, hb9⟩ := copy_row hR8.b.rd hn (by rw [← hn]; exact HBL.out)
  have HR9 := Aside0.mk hr9
  have HS9 := Aside0.mk (show Sz w w9 g1 b1 g2 b2 ⟨5, 6, 4, 4, 0⟩ 4000 (m + 1) B B [] _ _ (.slice Az n cz) from ⟨HS8.out.below hb9, ho9.ge_ hB8.size, fun k hk => ⟨fun h => Nat.lt_irrefl _ (Nat.lt_of_lt_of_le (hI8.lt h) (ho9.ge hk)), fun h => Nat.lt_irrefl _ (Nat.lt_of_lt_of_le (hR8.lt h) (ho9.ge hk))⟩⟩)
  have y5 : (w8.alloc (.cells #[] 5)).cell? ⟨g2, 5, none⟩ = some (.slice Ab n cb) := blk_cell (blk_alloc hR8.blk _) 5
  have HN := Aside0.mk hn
  clear hs2 hk8 hB8 hI8 hR8 hd8 hG8 hr9 ho9 hb9 HS8 HS1 HS C2 HRM HG HBB HBL hn
  go_upto_block 2 with (first | ((with_reducible refine gate_builtin (b := .append) (xs := #[.tmp 54, .tmp 58]) rfl ?_); at_builtin; refine app_list rfl (.tmp 54) (.tmp 58) rfl rfl rfl HR9.out ?_))
  clear y5 HR9
  go_cut [] (fun wx => ∃ m2 B2 ws2 F1 F2, m2 ≤ 30 ∧ Aside0 (Sz w wx g1 b1 g2 b2 ⟨5, 6, 4, 4, 0⟩ 4000 m2 B2 B ws2 F1 F2 (.slice Az n cz)))
  case first =>
    go_wp2_with fail
    go_loopw [11] (fun v9 w' => ∃ i : Nat, i ≤ n9 ∧ i ≤ 12 ∧ v9 = .int .i64 i ∧ ∃ B2 ws2 F1 F2, Aside0 (Sz w w' g1 b1 g2 b2 ⟨5, 6, 4, 4, 0⟩ 4000 (m + 1 + i) B2 B ws2 F1 F2 (.slice Az n cz))) (fun v9 _ => 12 - (intOf v9).toNat)
    case atStart => exact ⟨0, by omega, by omega, rfl, _, _, _, _, HS9⟩
    case round =>
      obtain ⟨i, hi, hi2, rfl, B2, ws2, F1, F2, HS⟩ := hrel
      by_cases c2 : i < n9
      · by_cases c3 : i < 12
        · obtain ⟨ad, eA, hat⟩ := H9.out.2.2.2 (by omega)
          obtain ⟨x, hx⟩ : ∃ x, k9[i]? = some x := ⟨_, List.getElem?_eq_getElem (show i < k9.length by rw [H9.out.1]; exact c2)⟩
          have HA := Aside0.mk (hat i x hx)
          cases eA
          clear hat hx
          have hz0 := pw_cell_below HS.out.bel HA.out.c0
          have hz1 := pw_cell_below HS.out.bel HA.out.c1
          have hz2 := pw_cell_below HS.out.bel HA.out.c2
          have hz3 := pw_cell_below HS.out.bel HA.out.c3
          have hz4 := pw_cell_below HS.out.bel HA.out.c4
          have hz5 := pw_cell_below HS.out.bel HA.out.c5
          have hz6 := pw_cell_below HS.out.bel HA.out.c6
          go_wp2_with fail
          refine (alight_calls x.kind x.at_ x.nn x.kd x.A1 x.A2 x.A3 x.ws_.length x.raw.length x.it.length x.c1 x.c2 x.c3 _).mono ?_
          rintro e wl ⟨rfl, hb⟩
          replace HS := Aside0.mk (HS.out.below hb)
          clear hb hz0 hz1 hz2 hz3 hz4 hz5 hz6
          cases hlt : lightA x.ws_.length x.raw.length x.it.length with
          | false =>
            clear hlt
            go_wp2_with fail
            refine (img_awake_calls _).mono ?_
            rintro e w9 ⟨rfl, hb⟩
            have HE := Aside0.mk (below_step HS.out.bel hb)
            clear hb
            go_wp2_with fail
            go_ret
            exact ⟨rfl, HE.out⟩
          | true =>
            have HAC := Aside0.mk ((HA.out.acr hlt).to HS.out.bel)
            clear hlt
            have hz0 := pw_cell_below HS.out.bel HA.out.c0
            have hz1 := pw_cell_below HS.out.bel HA.out.c1
            have hz2 := pw_cell_below HS.out.bel HA.out.c2
            have hz3 := pw_cell_below HS.out.bel HA.out.c3
            have hz4 := pw_cell_below HS.out.bel HA.out.c4
            have hz5 := pw_cell_below HS.out.bel HA.out.c5
            have hz6 := pw_cell_below HS.out.bel HA.out.c6
            by_cases d2 : x.kind = 2
            · have e2 : (x.kind == 2) = true := by simpa using d2
              go_wp2_with fail
              refine (img_awake_calls _).mono ?_
              rintro e w9 ⟨rfl, hb⟩
              have HE := Aside0.mk (below_step HS.out.bel hb)
              clear hb
              go_wp2_with fail
              go_ret
              exact ⟨rfl, HE.out⟩
            · have e2 : (x.kind == 2) = false := by simpa using d2
              by_cases d3 : x.kind = 3
              · have e3 : (x.kind == 3) = true := by simpa using d3
                go_wp2_with fail
                refine (img_awake_calls _).mono ?_
                rintro e w9 ⟨rfl, hb⟩
                have HE := Aside0.mk (below_step HS.out.bel hb)
                clear hb
                go_wp2_with fail
                go_ret
                exact ⟨rfl, HE.out⟩
              · have e3 : (x.kind == 3) = false := by simpa using d3
                have HKE := Aside0.mk (And.intro d2 d3)
                go_wp2_with fail
                refine (does_calls g1 b1 g2 b2 ⟨5, 6, 4, 4, 0⟩ 4000 B2 B ws2 (m + 1 + i) F1 F2 x.kind x.at_ x.nn x.kd x.ws_ x.raw x.it x.A1 x.A2 x.A3 x.c1 x.c2 x.c3 wl HS.out.1.1 w.heap.size HS.out.1.2.1 HAC.out (by omega) HA.out.ab.1 HA.out.ab.2).mono ?_
                rintro e w7 ⟨rfl, hs⟩
                obtain ⟨B', ws', F1', F2', hs2⟩ := HS.out.turn hs HKE.out
                have HS2 := Aside0.mk hs2
                clear hs hs2 hz0 hz1 hz2 hz3 hz4 hz5 hz6
                go_wp2_with fail
                go_roundw
                case rel => exact ⟨i + 1, by omega, by omega, by go_num, _, _, _, _, HS2⟩
                case measure => simp [intOf] <;> omega
        · obtain rfl : i = 12 := by omega
          go_wp2_with fail
          go_meet
          exact ⟨_, _, _, _, _, (by omega : m + 1 + 12 ≤ 30), HS⟩
      · go_wp2_with fail
        go_meet
        exact ⟨_, _, _, _, _, (by omega : m + 1 + i ≤ 30), HS⟩
  case rest =>
  obtain ⟨m2, B2, ws2, F1, F2, hm2, HS⟩ := hcut
  clear HS9
  obtain ⟨⟨⟨⟨vb, vw, hI⟩, ⟨xb, xa, xw, hR⟩, hd, hG⟩, hbb, hB⟩, hoz, hfz⟩ := id HS.out
  have HGD := Aside0.mk hG
  rw [HN.out] at hI
  have hq1 : n ≤ B2.length := by rw [← HN.out]; exact hG.2.1.2.1
  have hq2 : B2.length ≤ 70000 := hG.2.1.2.2
  have hq3 : 200 ≤ n := by rw [← HN.out]; exact hG.2.1.1
  obtain ⟨zb, zo, zc, ez, hzc, _⟩ := hoz.form (by rw [HN.out]; omega)
  rw [HN.out] at ez hzc
  simp only [Value.slice.injEq, true_and] at ez
  obtain ⟨rfl, rfl⟩ := ez
  obtain ⟨N2, hN2⟩ : ∃ k, B2.length = k := ⟨_, rfl⟩
  have HN2 := Aside0.mk hN2
  obtain ⟨W2, hW2⟩ : ∃ k, ws2.length = k := ⟨_, rfl⟩
  have HW2 := Aside0.mk hW2
  have hW3 : W2 ≤ 1000000 := by rw [← hW2]; exact Nat.le_trans hG.2.2.2.2.1 (by omega)
  have HXR := Aside0.mk (fun x hx => by have := hG.2.2.2.1 x hx; have := HN.out; exact (⟨by omega, by omega⟩ : 192 ≤ x ∧ x + 8 ≤ (B2.length : Int)))
  have CC := Aside0.mk (Change_calls g1 b1 ⟨5, 6, 4, 4, 0⟩ B2 4000 (n : Int) ws2 F1 vb vw wc hI _ rfl (by omega) n rfl hq1 HXR.out (by omega) (by omega))
  have HDL := Aside0.mk (show (B2.drop n).length = N2 - n by rw [List.length_drop, hN2])
  rw [hN2] at hq1 hq2
  obtain ⟨mv, hmv⟩ : ∃ k, N2 - n = k := ⟨_, rfl⟩
  rw [hmv] at HDL
  have hnm : n + mv = N2 := by omega
  clear hI hR hd hG hbb hB hoz hfz hN2 hW2
  go_wp2_with fail
  refine (CC.out).mono ?_
  rintro e w10 ⟨va, vp, ps, rfl, hva, hvp, hpp, hb10⟩
  obtain ⟨Av, cv, ev, _, _⟩ := hva.sl HDL.out
  subst ev
  obtain ⟨Ap, cp, ev⟩ := hvp.slice (hpp.1.trans HW2.out)
  subst ev
  have HVA := Aside0.mk hva
  have HVP := Aside0.mk hvp
  have HPP := Aside0.mk hpp
  replace HS := Aside0.mk (HS.out.below hb10)
  have HSC := Aside0.mk hb10.size
  clear hva hvp hpp hb10 CC
  have HZC := Aside0.mk (blk_new w10 (.cells #[.int .i64 (n : Int), .slice Av mv cv, .slice Ap W2 cp] 88))
  have hbA := below_alloc (Below.refl w10.heap.size w10) (.cells #[.int .i64 (n : Int), .slice Av mv cv, .slice Ap W2 cp] 88)
  replace HS := Aside0.mk (HS.out.below hbA)
  have HBA := Aside0.mk hbA
  clear hbA
  go_upto_region 21 with fail
  obtain ⟨gc, hgc⟩ : ∃ g, w10.heap.size = g := ⟨_, rfl⟩
  rw [hgc] at HZC
  first | rw [hgc] | skip
  obtain ⟨w11, hw11⟩ : ∃ W, w10.alloc (.cells #[.int .i64 (n : Int), .slice Av mv cv, .slice Ap W2 cp] 88) = W := ⟨_, rfl⟩
  rw [hw11] at HZC HS HBA ⊢
  clear hgc hw11
  replace HVA := Aside0.mk (HVA.out.below HBA.out)
  replace HVP := Aside0.mk (HVP.out.below HBA.out)
  have x0 := blk_cell HZC.out 0
  have x1 := blk_cell HZC.out 1
  have x2 := blk_cell HZC.out 2
  have hmin : min (n : Int) (n : Int) = (n : Int) := by omega
  have hsl := slice_upto zb zo n cz n hzc
  have hl1 : 0 + n ≤ 1000000 := by omega
  have hl2 : n + mv ≤ 1000000 := by omega
  refine start_ (n := 13) (S := fun w' => w'.cell? ⟨gc, 0, none⟩ = some (.int .i64 (n : Int)) ∧ w'.cell? ⟨gc, 1, none⟩ = some (.slice Av mv cv)) (ds := []) #[false, false, false, false, false, false, false, false, false, false, false, false, false] (by kernel_rfl) rfl rfl ⟨x0, x1⟩ (fun hHeld => ?_)
  refine pure_ (i := 1) (N := some 103) (v := ?_) (a' := ?_) #[false, true, false, false, false, false, false, false, false, false, false, false, false] rfl rfl (by kernel_rfl) (fun _ _ _ h => h) (Or.inl ⟨by rfl, ?_⟩) ?_ ?_
  rotate_left
  · intro w'
    go_simp
    with_reducible rfl
  rotate_left
  · simp only [Act.put, List.setIfInBounds_toArray, List.set_cons_zero, List.set_cons_succ, i64_w, i32_w]
    rfl
  refine pure_ (i := 2) (N := some 104) (v := ?_) (a' := ?_) #[false, true, true, false, false, false, false, false, false, false, false, false, false] rfl rfl (by kernel_rfl) (fun _ _ _ h => h) (Or.inl ⟨by rfl, ?_⟩) ?_ ?_
  rotate_left
  · intro w'
    go_simp
    with_reducible rfl
  rotate_left
  · simp only [Act.put, List.setIfInBounds_toArray, List.set_cons_zero, List.set_cons_succ, i64_w, i32_w]
    rfl
  refine pure_ (i := 4) (N := some 106) (v := ?_) (a' := ?_) #[false, true, true, false, true, false, false, false, false, false, false, false, false] rfl rfl (by kernel_rfl) (fun _ _ _ h => h) (Or.inl ⟨by rfl, ?_⟩) ?_ ?_
  rotate_left
  · intro w'
    go_simp
    with_reducible rfl
  rotate_left
  · simp only [Act.put, List.setIfInBounds_toArray, List.set_cons_zero, List.set_cons_succ, i64_w, i32_w]
    rfl
  refine pure_ (i := 5) (N := some 107) (v := ?_) (a' := ?_) #[false, true, true, false, true, true, false, false, false, false, false, false, false] rfl rfl (by kernel_rfl) (fun _ _ _ h => h) (Or.inl ⟨by rfl, ?_⟩) ?_ ?_
  rotate_left
  · intro w'
    go_simp
    with_reducible rfl
  rotate_left
  · simp only [Act.put, List.setIfInBounds_toArray, List.set_cons_zero, List.set_cons_succ, i64_w, i32_w]
    rfl
  refine pure_ (i := 9) (N := some 111) (v := ?_) (a' := ?_) #[false, true, true, false, true, true, false, false, false, true, false, false, false] rfl rfl (by kernel_rfl) (fun _ _ _ h => h) (Or.inl ⟨by rfl, ?_⟩) ?_ ?_
  rotate_left
  · intro w'
    go_simp
    with_reducible rfl
  rotate_left
  · simp only [Act.put, List.setIfInBounds_toArray, List.set_cons_zero, List.set_cons_succ, i64_w, i32_w]
    rfl
  refine take_ (i := 3) (N := some 105) (v := ?_) (a' := ?_) #[false, true, true, true, true, true, false, false, false, true, false, false, false] rfl rfl (by kernel_rfl) (fun _ _ _ h => h) (Or.inl ⟨by rfl, ?_⟩) hHeld ?_ ?_
  rotate_left
  · rintro w' ⟨s0, s1⟩
    go_simp
    with_reducible rfl
  rotate_left
  · simp only [Act.put, List.setIfInBounds_toArray, List.set_cons_zero, List.set_cons_succ, i64_w, i32_w]
    rfl
  refine pure_ (i := 6) (N := some 108) (v := ?_) (a' := ?_) #[false, true, true, true, true, true, true, false, false, true, false, false, false] rfl rfl (by kernel_rfl) (fun _ _ _ h => h) (Or.inl ⟨by rfl, ?_⟩) ?_ ?_
  rotate_left
  · intro w'
    go_simp
    with_reducible rfl
  rotate_left
  · simp only [Act.put, List.setIfInBounds_toArray, List.set_cons_zero, List.set_cons_succ, i64_w, i32_w]
    rfl
  refine pure_ (i := 7) (N := some 109) (v := ?_) (a' := ?_) #[false, true, true, true, true, true, true, true, false, true, false, false, false] rfl rfl (by kernel_rfl) (fun _ _ _ h => h) (Or.inl ⟨by rfl, ?_⟩) ?_ ?_
  rotate_left
  · intro w'
    go_simp
    with_reducible rfl
  rotate_left
  · simp only [Act.put, List.setIfInBounds_toArray, List.set_cons_zero, List.set_cons_succ, i64_w, i32_w]
    rfl
  refine take_ (i := 10) (N := some 112) (v := ?_) (a' := ?_) #[false, true, true, true, true, true, true, true, false, true, true, false, false] rfl rfl (by kernel_rfl) (fun _ _ _ h => h) (Or.inl ⟨by rfl, ?_⟩) hHeld ?_ ?_
  rotate_left
  · rintro w' ⟨s0, s1⟩
    go_simp
    with_reducible rfl
  rotate_left
  · simp only [Act.put, List.setIfInBounds_toArray, List.set_cons_zero, List.set_cons_succ, i64_w, i32_w]
    rfl
  refine one_ (i := 0) (N := some 102) #[true, true, true, true, true, true, true, true, false, true, true, false, false] rfl rfl (by kernel_rfl) (by decide) (fun K hK => ?_)
  refine value_ (w1 := ?_) (v := ?_) (by rfl) rfl ?_ ?_
  rotate_left 2
  · go_simp
    constructor
    · rfl
    · rfl
  have hb3 : Below w11.heap.size w11 ((w11.alloc (.cells #[] 5)).drew) := below_drew (below_alloc (Below.refl _ _) _)
  refine hK.out _ _ ⟨(pw_cell_below (below_alloc (Below.refl _ _) _) hHeld.1), (pw_cell_below (below_alloc (Below.refl _ _) _) hHeld.2)⟩ (fun hHeld => ?_)
  clear hK K
  refine norm_ (a' := ?_) ?_ ?_
  rotate_left
  · show Act.put _ (some 102) _ = _
    simp only [Act.put, List.setIfInBounds_toArray, List.set_cons_zero, List.set_cons_succ, i64_w, i32_w]
    rfl
  refine one_ (i := 8) (N := some 110) #[true, true, true, true, true, true, true, true, true, true, true, false, false] rfl rfl (by kernel_rfl) (by decide) (fun K hK => ?_)
  have ho3 : OwnO (Value.int .u8) ((w11.alloc (.cells #[] 5)).drew) w11.heap.size 5 (.slice (some ⟨w11.heap.size, 0, none⟩) 0 0) [] := (own_empty w11 w11.heap.size (Nat.le_refl _)).below (below_drew (Below.refl _ _))
  obtain ⟨A4, c4, w12, hr4, ho4, hk4⟩ := app_row ho3 (HS.out.2.1.below hb3).rd rfl HN.out hb3.size hl1
  simp only [List.length_nil, Nat.zero_add, List.nil_append] at hr4 ho4
  have hb4 := Kp.from hb3 hk4 (fun b hb => ho3.ge hb)
  refine app_step (by rfl) (.tmp 102) (.tmp 109) rfl rfl rfl hr4 ?_
  refine hK.out _ _ ⟨(blk_cell (blk_below HZC.out hb4) 0), (blk_cell (blk_below HZC.out hb4) 1)⟩ (fun hHeld => ?_)
  clear hK K
  refine norm_ (a' := ?_) ?_ ?_
  rotate_left
  · show Act.put _ (some 110) _ = _
    simp only [Act.put, List.setIfInBounds_toArray, List.set_cons_zero, List.set_cons_succ, i64_w, i32_w]
    rfl
  refine one_ (i := 11) (N := some 113) #[true, true, true, true, true, true, true, true, true, true, true, true, false] rfl rfl (by kernel_rfl) (by decide) (fun K hK => ?_)
  obtain ⟨A6, c6, w13, hr6, ho6, hk6⟩ := app_row ho4 (HVA.out.below hb4).rd HN.out HDL.out hb4.size hl2
  have hb6 := Kp.from hb4 hk6 (fun b hb => ho4.ge hb)
  refine app_step (by rfl) (.tmp 110) (.tmp 112) rfl rfl rfl hr6 ?_
  refine hK.out _ _ ⟨(blk_cell (blk_below HZC.out hb6) 0), (blk_cell (blk_below HZC.out hb6) 1)⟩ (fun hHeld => ?_)
  clear hK K
  refine norm_ (a' := ?_) ?_ ?_
  rotate_left
  · show Act.put _ (some 113) _ = _
    simp only [Act.put, List.setIfInBounds_toArray, List.set_cons_zero, List.set_cons_succ, i64_w, i32_w]
    rfl
  refine pure_ (i := 12) (N := some 13) (v := ?_) (a' := ?_) #[true, true, true, true, true, true, true, true, true, true, true, true, true] rfl rfl (by kernel_rfl) (fun _ _ _ h => h) (Or.inl ⟨by rfl, ?_⟩) ?_ ?_
  rotate_left
  · intro w'
    go_simp
    with_reducible rfl
  rotate_left
  · simp only [Act.put, List.setIfInBounds_toArray, List.set_cons_zero, List.set_cons_succ, i64_w, i32_w]
    rfl
  refine done_ (by kernel_rfl) ?_
  rw [hnm] at ho6 ⊢
  have HO6 := Aside0.mk ho6
  have HB6 := Aside0.mk hb6
  clear ho3 hr4 ho4 hk4 hb3 hb4 hr6 ho6 hk6 hb6 x0 x1 x2 hmin hsl hl1 hl2
  have HBL6 := Aside0.mk (show (B ++ B2.drop n).length = N2 by rw [List.length_append, HN.out, HDL.out, hnm])
  have HLAY := Aside0.mk (show layW B2 (B ++ B2.drop n) ws2 = B2 by have := lay_all HGD.out; rw [HN.out] at this; exact this)
  obtain ⟨bb, bo, cb6, e6, hbc, hbge⟩ := HO6.out.form (by rw [HBL6.out]; omega)
  rw [HBL6.out] at e6 hbc
  simp only [Value.slice.injEq, true_and] at e6
  obtain ⟨rfl, rfl⟩ := e6
  obtain ⟨b0, hb0⟩ : ∃ b, B ++ B2.drop n = b := ⟨_, rfl⟩
  rw [hb0] at HO6 HLAY HBL6
  clear hb0
  go_upto_block 4 with (fail)
  go_cut [] (fun wx => Aside0 (Below w11.heap.size w11 wx) ∧ Aside0 (OwnO (Value.int .u8) wx w11.heap.size 5 (.slice (some ⟨bb, bo, none⟩) N2 c6) B2))
  case first =>
    go_wp2_with fail
    go_loopw [14] (fun v14 w' => ∃ i : Nat, i ≤ W2 ∧ v14 = .int .i64 i ∧ Aside0 (Below w11.heap.size w11 w') ∧ Aside0 (OwnO (Value.int .u8) w' w11.heap.size 5 (.slice (some ⟨bb, bo, none⟩) N2 c6) (layW B2 b0 (ws2.take i)))) (fun v14 _ => W2 - (intOf v14).toNat)
    case atStart => exact ⟨0, by omega, rfl, HB6, by rw [List.take_zero]; exact HO6⟩
    case round =>
      obtain ⟨i, hi, rfl, HBK, HOK⟩ := hrel
      have x2 := blk_cell (blk_below HZC.out HBK.out) 2
      by_cases c2 : i < W2
      · obtain ⟨ad, eA, h0, h1⟩ := (HVP.out.below HBK.out).cells7 i (by rw [HPP.out.1, HW2.out]; exact c2)
        obtain ⟨hp1, hp2⟩ := HPP.out.2 i (by rw [HW2.out]; exact c2)
        have hx := HXR.out (ws2.getD i 0) (by rw [List.getD_eq_getElem?_getD, List.getElem?_eq_getElem (by rw [HW2.out]; exact c2)]; exact List.getElem_mem _)
        rw [HN2.out] at hx
        cases eA
        rw [hp1] at h0
        obtain ⟨j, hj⟩ : ∃ j : Nat, ws2.getD i 0 = (j : Int) := Int.eq_ofNat_of_zero_le (by omega)
        have hsn := layW_snoc B2 b0 ws2 i (by rw [HW2.out]; exact c2)
        rw [hj] at h0 hx hp2 hsn
        rw [Int.toNat_natCast] at hp2 hsn
        have HSN := Aside0.mk hsn
        obtain ⟨hx1, hx2⟩ := hx
        have HD8 := Aside0.mk (lay8_len B2 j (by rw [HN2.out]; omega))
        obtain ⟨ad2, cq, e2, hc2⟩ := rd_slice ((hp2.rd.below (below_step HBA.out HBK.out)).below (below_drew (Below.refl _ _))) HD8.out (by omega)
        rw [e2] at h1
        have hsl := slice_from bb bo N2 c6 j (by omega) (by omega)
        have h8 := sub8 N2 (by omega)
        clear hj hp1 hp2 hsn e2
        go_upto_region 27 with fail
        refine start_ (n := 15) (S := fun w' => w'.cell? ⟨gc, 2, none⟩ = some (.slice (some ad) W2 cp) ∧ w'.cell? (ad.add (i * 2)) = some (.int .i64 (j : Int)) ∧ w'.cell? ⟨(ad.add (i * 2)).block, (ad.add (i * 2)).off + 1, none⟩ = some (.slice (some ad2) 8 cq)) (ds := [14]) #[false, false, false, false, false, false, false, false, false, false, false, false, false, false, false] (by kernel_rfl) rfl rfl ⟨x2, h0, h1⟩ (fun hHeld => ?_)
        refine pure_ (i := 0) (N := some 140) (v := ?_) (a' := ?_) #[true, false, false, false, false, false, false, false, false, false, false, false, false, false, false] rfl rfl (by kernel_rfl) (fun _ _ _ h => h) (Or.inl ⟨by rfl, ?_⟩) ?_ ?_
        rotate_left
        · intro w'
          go_simp
          with_reducible rfl
        rotate_left
        · simp only [Act.put, List.setIfInBounds_toArray, List.set_cons_zero, List.set_cons_succ, i64_w, i32_w]
          rfl
        refine pure_ (i := 1) (N := some 141) (v := ?_) (a' := ?_) #[true, true, false, false, false, false, false, false, false, false, false, false, false, false, false] rfl rfl (by kernel_rfl) (fun _ _ _ h => h) (Or.inl ⟨by rfl, ?_⟩) ?_ ?_
        rotate_left
        · intro w'
          go_simp
          with_reducible rfl
        rotate_left
        · simp only [Act.put, List.setIfInBounds_toArray, List.set_cons_zero, List.set_cons_succ, i64_w, i32_w]
          rfl
        refine pure_ (i := 3) (N := some 143) (v := ?_) (a' := ?_) #[true, true, false, true, false, false, false, false, false, false, false, false, false, false, false] rfl rfl (by kernel_rfl) (fun _ _ _ h => h) (Or.inl ⟨by rfl, ?_⟩) ?_ ?_
        rotate_left
        · intro w'
          go_simp
          with_reducible rfl
        rotate_left
        · simp only [Act.put, List.setIfInBounds_toArray, List.set_cons_zero, List.set_cons_succ, i64_w, i32_w]
          rfl
        refine pure_ (i := 8) (N := some 148) (v := ?_) (a' := ?_) #[true, true, false, true, false, false, false, false, true, false, false, false, false, false, false] rfl rfl (by kernel_rfl) (fun _ _ _ h => h) (Or.inl ⟨by rfl, ?_⟩) ?_ ?_
        rotate_left
        · intro w'
          go_simp
          with_reducible rfl
        rotate_left
        · simp only [Act.put, List.setIfInBounds_toArray, List.set_cons_zero, List.set_cons_succ, i64_w, i32_w]
          rfl
        refine pure_ (i := 10) (N := some 150) (v := ?_) (a' := ?_) #[true, true, false, true, false, false, false, false, true, false, true, false, false, false, false] rfl rfl (by kernel_rfl) (fun _ _ _ h => h) (Or.inl ⟨by rfl, ?_⟩) ?_ ?_
        rotate_left
        · intro w'
          go_simp
          with_reducible rfl
        rotate_left
        · simp only [Act.put, List.setIfInBounds_toArray, List.set_cons_zero, List.set_cons_succ, i64_w, i32_w]
          rfl
        refine take_ (i := 2) (N := some 142) (v := ?_) (a' := ?_) #[true, true, true, true, false, false, false, false, true, false, true, false, false, false, false] rfl rfl (by kernel_rfl) (fun _ _ _ h => h) (Or.inl ⟨by rfl, ?_⟩) hHeld ?_ ?_
        rotate_left
        · rintro w' ⟨s0, s1, s2⟩
          go_simp
          with_reducible rfl
        rotate_left
        · simp only [Act.put, List.setIfInBounds_toArray, List.set_cons_zero, List.set_cons_succ, i64_w, i32_w]
          rfl
        refine pure_ (i := 4) (N := some 144) (v := ?_) (a' := ?_) #[true, true, true, true, true, false, false, false, true, false, true, false, false, false, false] rfl rfl (by kernel_rfl) (fun _ _ _ h => h) (Or.inl ⟨by rfl, ?_⟩) ?_ ?_
        rotate_left
        · intro w'
          go_simp
          with_reducible rfl
        rotate_left
        · simp only [Act.put, List.setIfInBounds_toArray, List.set_cons_zero, List.set_cons_succ, i64_w, i32_w]
          rfl
        refine pure_ (i := 5) (N := some 145) (v := ?_) (a' := ?_) #[true, true, true, true, true, true, false, false, true, false, true, false, false, false, false] rfl rfl (by kernel_rfl) (fun _ _ _ h => h) (Or.inl ⟨by rfl, ?_⟩) ?_ ?_
        rotate_left
        · intro w'
          go_simp
          with_reducible rfl
        rotate_left
        · simp only [Act.put, List.setIfInBounds_toArray, List.set_cons_zero, List.set_cons_succ, i64_w, i32_w]
          rfl
        refine take_ (i := 6) (N := some 146) (v := ?_) (a' := ?_) #[true, true, true, true, true, true, true, false, true, false, true, false, false, false, false] rfl rfl (by kernel_rfl) (fun _ _ _ h => h) (Or.inl ⟨by rfl, ?_⟩) hHeld ?_ ?_
        rotate_left
        · rintro w' ⟨s0, s1, s2⟩
          go_simp
          with_reducible rfl
        rotate_left
        · simp only [Act.put, List.setIfInBounds_toArray, List.set_cons_zero, List.set_cons_succ, i64_w, i32_w]
          rfl
        refine pure_ (i := 7) (N := some 147) (v := ?_) (a' := ?_) #[true, true, true, true, true, true, true, true, true, false, true, false, false, false, false] rfl rfl (by kernel_rfl) (fun _ _ _ h => h) (Or.inl ⟨by rfl, ?_⟩) ?_ ?_
        rotate_left
        · intro w'
          go_simp
          with_reducible rfl
        rotate_left
        · simp only [Act.put, List.setIfInBounds_toArray, List.set_cons_zero, List.set_cons_succ, i64_w, i32_w]
          rfl
        refine take_ (i := 9) (N := some 149) (v := ?_) (a' := ?_) #[true, true, true, true, true, true, true, true, true, true, true, false, false, false, false] rfl rfl (by kernel_rfl) (fun _ _ _ h => h) (Or.inl ⟨by rfl, ?_⟩) hHeld ?_ ?_
        rotate_left
        · rintro w' ⟨s0, s1, s2⟩
          go_simp
          with_reducible rfl
        rotate_left
        · simp only [Act.put, List.setIfInBounds_toArray, List.set_cons_zero, List.set_cons_succ, i64_w, i32_w]
          rfl
        refine pure_ (i := 11) (N := some 151) (v := ?_) (a' := ?_) #[true, true, true, true, true, true, true, true, true, true, true, true, false, false, false] rfl rfl (by kernel_rfl) (fun _ _ _ h => h) (Or.inl ⟨by rfl, ?_⟩) ?_ ?_
        rotate_left
        · intro w'
          go_simp
          with_reducible rfl
        rotate_left
        · simp only [Act.put, List.setIfInBounds_toArray, List.set_cons_zero, List.set_cons_succ, i64_w, i32_w]
          rfl
        refine pure_ (i := 12) (N := some 152) (v := ?_) (a' := ?_) #[true, true, true, true, true, true, true, true, true, true, true, true, true, false, false] rfl rfl (by kernel_rfl) (fun _ _ _ h => h) (Or.inl ⟨by rfl, ?_⟩) ?_ ?_
        rotate_left
        · intro w'
          go_simp
          with_reducible rfl
        rotate_left
        · simp only [Act.put, List.setIfInBounds_toArray, List.set_cons_zero, List.set_cons_succ, i64_w, i32_w]
          rfl
        refine take_ (i := 13) (N := some 153) (v := ?_) (a' := ?_) #[true, true, true, true, true, true, true, true, true, true, true, true, true, true, false] rfl rfl (by kernel_rfl) (fun _ _ _ h => h) (Or.inl ⟨by rfl, ?_⟩) hHeld ?_ ?_
        rotate_left
        · rintro w' ⟨s0, s1, s2⟩
          go_simp
          with_reducible rfl
        rotate_left
        · simp only [Act.put, List.setIfInBounds_toArray, List.set_cons_zero, List.set_cons_succ, i64_w, i32_w]
          rfl
        refine last_ (i := 14) (N := some 154) #[true, true, true, true, true, true, true, true, true, true, true, true, true, true, true] rfl rfl (by kernel_rfl) (by decide) (fun K hK => ?_)
        have hO := HOK.out.below (below_drew (Below.refl _ _))
        refine copyO_step (by rfl) (.tmp 147) (.tmp 153) (by rfl) Try.underlying22 (by kernel_rfl) hO rfl rfl ((B2.drop j).take 8) HD8.out (show 8 = Nat.min 8 (N2 - j) from (Nat.min_eq_left (by omega)).symm) hc2 (by omega) ?_
        intro w3 ho3 hk3
        refine hK.out _ _ ?_
        clear hK K
        refine norm_ (a' := ?_) ?_ ?_
        rotate_left
        · show Act.put _ (some 154) _ = _
          simp only [Act.put, List.setIfInBounds_toArray, List.set_cons_zero, List.set_cons_succ, i64_w, i32_w]
          rfl
        refine done_ (by kernel_rfl) ?_
        rw [← HSN.out] at ho3
        have HO3 := Aside0.mk ho3
        have HB3 := Aside0.mk (Kp.from (below_drew HBK.out) hk3 (fun b hb => by rw [hb]; exact hbge))
        clear ho3 hk3 hO hc2 hsl h8 h0 h1 x2
        go_wp2_with fail
        go_roundw
        case rel => exact ⟨i + 1, by omega, by go_num, HB3, HO3⟩
        case measure => simp [intOf] <;> omega
      · obtain rfl : i = W2 := by omega
        go_wp2_with fail
        go_meet
        have h := HOK.out
        rw [List.take_of_length_le (by rw [HW2.out]; exact Nat.le_refl _), HLAY.out] at h
        exact ⟨HBK, ⟨h⟩⟩
  case rest =>
  obtain ⟨HBK, HOK⟩ := hcut
  replace HS := Aside0.mk (HS.out.below HBK.out)
  clear HVA HVP HPP HZC HBA HO6 HB6 HXR HLAY HBL6
  obtain ⟨⟨⟨⟨vb, vw, hI⟩, ⟨xb, xa, xw, hR⟩, hd, hG⟩, hbb, hB⟩, hoz, hfz⟩ := id HS.out
  rw [HN.out] at hI
  have HI := Aside0.mk hI
  have HR := Aside0.mk hR
  have HFZ := Aside0.mk hfz
  have HZO := Aside0.mk hoz
  have HBI := Aside0.mk (And.intro hG.1.1 hG.1.2)
  have HZW := Aside0.mk (show (zeroW B2 ws2).take n = B by have := hG.2.2.2.2.2.1; rwa [HN.out] at this)
  have HBC := Aside0.mk (fun k (hk : F1 k) => (Nat.le_trans hbb.1 (hI.ge hk) : w.heap.size ≤ k))
  have HIN := Aside0.mk (fun x hx => by have := hG.2.2.2.1 x hx; have := HN.out; have := HN2.out; exact (⟨by omega, by omega⟩ : 192 ≤ x ∧ x + 8 ≤ (B2.length : Int)))
  obtain ⟨Ax, cx, ev, _, _⟩ := hR.b.sl HN2.out
  subst ev
  have HB := Aside0.mk hB
  clear hI hR hd hG hbb hB hoz hfz HS
  go_wp2_with fail
  refine (Bytes_calls g1 b1 ⟨5, 6, 4, 4, 0⟩ B2 4000 (n : Int) ws2 F1 vb vw wc HI.out (by rw [HN2.out]; omega)).mono ?_
  rintro e w14 ⟨v15, rfl, ho15, hb⟩
  have HK := Aside0.mk hb
  have HO15 := Aside0.mk ho15.rd
  clear ho15 hb
  go_wp2_with fail
  refine (Same_calls (.slice (some ⟨bb, bo, none⟩) N2 c6) v15 B2 B2 w14 (HOK.out.below HK.out).rd HO15.out HBI.out.1 HBI.out.1).mono ?_
  rintro e w15 ⟨rfl, hb⟩
  replace HK := Aside0.mk (below_step HK.out hb)
  rw [decide_eq_true (show B2 = B2 from rfl)]
  clear hb HO15
  have y5 : w15.cell? ⟨g2, 5, none⟩ = some (.slice Ax N2 cx) := blk_cell (HR.out.below HK.out).blk 5
  go_wp2_with fail
  refine (Same_calls (.slice (some ⟨bb, bo, none⟩) N2 c6) (.slice Ax N2 cx) B2 B2 w15 (HOK.out.below HK.out).rd (HR.out.below HK.out).b.rd HBI.out.1 HBI.out.1).mono ?_
  rintro e w16 ⟨rfl, hb⟩
  replace HK := Aside0.mk (below_step HK.out hb)
  rw [decide_eq_true (show B2 = B2 from rfl)]
  clear hb y5
  go_wp2_with fail
  refine (Back_calls g1 b1 ⟨5, 6, 4, 4, 0⟩ B2 4000 (n : Int) ws2 F1 vb vw w16 (HI.out.below HK.out) _ rfl (by rw [HN2.out]; omega) n rfl (by rw [HN2.out]; omega) HIN.out (by rw [HW2.out]; exact hW3) (by rw [HN2.out]; omega)).mono ?_
  rintro e w17 ⟨rfl, ⟨vb7, vw7, hI7⟩, hk7⟩
  rw [HZW.out] at hI7
  have HI7 := Aside0.mk hI7
  have HZ7 := Aside0.mk ((HZO.out.below HK.out).kp hk7 (fun k hk => (HFZ.out k hk).1))
  have HB7 := Aside0.mk (below_kp (below_step HB.out HK.out) hk7 (Nat.le_refl _) HBC.out)
  clear hI7 hk7
  go_wp2_with fail
  refine (Bytes_calls g1 b1 ⟨5, 6, 4, 4, 0⟩ B 4000 (n : Int) [] _ vb7 vw7 w17 HI7.out (by rw [HN.out]; omega)).mono ?_
  rintro e w18 ⟨v18, rfl, ho18, hb⟩
  have HO18 := Aside0.mk ho18.rd
  have HK8 := Aside0.mk hb
  clear ho18 hb
  go_wp2_with fail
  refine (Same_calls v18 _ B B w18 HO18.out (HZ7.out.below HK8.out).rd HBI.out.2 HBI.out.2).mono ?_
  rintro e w19 ⟨rfl, hb⟩
  replace HB7 := Aside0.mk (below_step (below_step HB7.out HK8.out) hb)
  rw [decide_eq_true (show B = B from rfl)]
  clear hb
  go_wp2_with fail
  refine (img_awake_calls _).mono ?_
  rintro e w20 ⟨rfl, hb⟩
  replace HB7 := Aside0.mk (below_step HB7.out hb)
  clear hb
  go_wp2_with fail
  go_ret
  exact ⟨rfl, HB7.out⟩
theorem ImageLays_walk (A0 : Option Addr) (n0 c0 : Nat) (l : List Ac) (A9 : Option Addr) (n9 c9 : Nat) (k9 : List Ac) (w : World) (h0 : AcRow w A0 n0 c0 l) (h9 : AcRow w A9 n9 c9 k9) : Calls Try.prog 7 #[.slice A0 n0 c0, .slice A9 n9 c9] w fun e w' => e = .returned (.bool true) ∧ Below w.heap.size w w' := ImageLays_main A0 n0 c0 l A9 n9 c9 k9 w h0 h9
end Go.Proofs.Ytigdchfjcfljjaa
end
