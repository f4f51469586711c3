/- The packer: what stands for itself, written. -/
import Derived.Test.YtigdchfjcfljjaaPkB
namespace Go.Proofs.Ytigdchfjcfljjaa
open Go.RowKit Go.Proofs.YtigdchfjcfljjaaW.PrintWords Go.Proofs.YtigdchfjcfljjaaW.PrintLast Go.Proofs.YtigdchfjcfljjaaW.PrintMore
attribute [local go_sem] max2_int min2_int max_two min_two max_three min_three max_four min_four   -- for this text's walks alone
set_option linter.unusedVariables false
set_option linter.unusedSimpArgs false

theorem app8PL {W : World} {base : Nat} {v : Value} {xs : List Int} (ys : List Int) {cs : Array Value} (hcs : cs = (nums .u8 ys).toArray) {k m : Nat} (HO : OwnO (Value.int .u8) W base 5 v xs) (hk : xs.length = k) (hm : ys.length = m) (hbase : base ≤ W.heap.size) (hl : k + m ≤ 140737488355328) :
    ∃ A1 c1 w1, (Builtin.append_ #[22, 22] 22 #[v, .slice (some ⟨W.heap.size, 0, none⟩) m m]).run Try.prog (W.alloc (.cells cs 5)) = .ok (.slice A1 (k + m) c1) w1 ∧ OwnO (Value.int .u8) w1 base 5 (.slice A1 (k + m) c1) (xs ++ ys) ∧ Kp (fun b => v.ownBlock = some b) W w1 ∧ ((Value.slice A1 (k + m) c1).ownBlock = v.ownBlock ∨ ∃ b, (Value.slice A1 (k + m) c1).ownBlock = some b ∧ W.heap.size ≤ b) :=
  app_lits (P := Try.prog) (d := (0 : Int)) (fun _ => rfl) Try.underlying22 infoU8 rfl (by omega) ys hcs HO hk hm hbase (by omega)
theorem app8PR {W : World} {base : Nat} {v u : Value} {xs ys : List Int} {k m : Nat} (HO : OwnO (Value.int .u8) W base 5 v xs) (HR : Rd W .u8 u ys) (hk : xs.length = k) (hm : ys.length = m) (hbase : base ≤ W.heap.size) (hl : k + m ≤ 140737488355328) :
    ∃ A1 c1 w1, (Builtin.append_ #[22, 22] 22 #[v, u]).run Try.prog W = .ok (.slice A1 (k + m) c1) w1 ∧ OwnO (Value.int .u8) w1 base 5 (.slice A1 (k + m) c1) (xs ++ ys) ∧ Kp (fun b => v.ownBlock = some b) W w1 ∧ ((Value.slice A1 (k + m) c1).ownBlock = v.ownBlock ∨ ∃ b, (Value.slice A1 (k + m) c1).ownBlock = some b ∧ W.heap.size ≤ b) :=
  app_rd (P := Try.prog) (d := (0 : Int)) (fun _ => rfl) Try.underlying22 infoU8 rfl (by omega) HO HR hk hm hbase (by omega)
/-- b[from:to]. -/
theorem Rd.midP {w0 : World} {A : Option Addr} {n c : Nat} {xs : List Int} (h : Rd w0 .u8 (.slice A n c) xs) (hn : xs.length = n) (ki : IntKind) (a b : Nat) (hab : a ≤ b) (hb : b ≤ n) :
    ∃ A', (∀ W : World, (Instr.slice 22 (.slice A n c) (some (.int ki (a : Int))) (some (.int ki (b : Int))) none).run Try.prog W = .ok (.slice A' (b - a) (c - a)) W) ∧ (∀ w : World, Rd w .u8 (.slice A n c) xs → Rd w .u8 (.slice A' (b - a) (c - a)) ((xs.drop a).take (b - a))) := by
  obtain ⟨A2, c2, ev, hc, _⟩ := h
  simp only [Value.slice.injEq] at ev
  obtain ⟨rfl, rfl, rfl⟩ := ev
  have hI : (Try.prog.info? 5).map (·.size) = some 1 := by kernel_rfl
  obtain ⟨i, hi, hz⟩ := Option.map_eq_some_iff.1 hI
  obtain ⟨A', h2, h3, h4⟩ := print_cut_int (P := Try.prog) (k := .u8) 22 5 Try.underlying22 hi hz A c xs (a : Int) (by omega) (by omega) hc
  rw [Int.toNat_natCast] at h2 h3 h4
  have hel : Try.prog.elem 22 = 5 := by simp [Program.elem, Try.underlying22]
  have hu : Try.prog.underlying 22 = some (.slice (Try.prog.elem 22)) := by rw [hel]; exact Try.underlying22
  refine ⟨A', fun W => ?_, fun w hw => ?_⟩
  · have e1 := h2 W
    rw [run_slice_l W 22 A xs.length c hu .i64 (a : Int) (Int.natCast_nonneg _) (by omega), hel] at e1
    rw [run_slice_lh W 22 A xs.length c hu ki ki (a : Int) (b : Int) (Int.natCast_nonneg _) (by omega) (by omega), hel]
    have hsz : (sizeOf 5).run Try.prog W = .ok 1 W := by simp [sizeOf, typeInfo, hi, hz]
    rw [hsz] at e1 ⊢
    simp only [Result.andThen, sliced, Int.toNat_natCast, Result.ok.injEq, Value.slice.injEq] at e1 ⊢
    refine ⟨⟨?_, ?_⟩, ?_⟩ <;> first | exact e1.1.1 | trivial
  · obtain ⟨A2, c2, ev, _, hr⟩ := hw
    simp only [Value.slice.injEq] at ev
    obtain ⟨rfl, _, rfl⟩ := ev
    have := reads_take (h3 w hr) (b - a) (by rw [List.length_drop]; omega)
    rw [show ((xs.drop a).take (b - a)).length = b - a by rw [List.length_take, List.length_drop]; omega] at this
    exact ⟨A', _, by rw [show ((xs.drop a).take (b - a)).length = b - a by rw [List.length_take, List.length_drop]; omega], by rw [List.length_take, List.length_drop]; omega, by rw [show ((xs.drop a).take (b - a)).length = b - a by rw [List.length_take, List.length_drop]; omega]; exact this⟩
/-- The packer's bytes: signs that stand for the first p bytes. -/
def PkQ (B : List Int) (w W : World) (g base : Nat) (vb vm vl v0 : Value) (p q : Nat) : Prop := ∃ (vo : Value) (ts : List Tok), PkV W g vb vo vm vl (p : Int) ∧ OwnO (Value.int .u8) W base 5 vo (pkE ts) ∧ PkS B ts p ∧ szI (pkE ts).length p q ∧ Kp (fun k => k = g ∨ v0.ownBlock = some k) w W ∧ (∀ k, vo.ownBlock = some k → v0.ownBlock = some k ∨ w.heap.size ≤ k) ∧ base ≤ W.heap.size
def plO (g : Nat) (W : World) : Nat := match W.cell? ⟨g, 4, none⟩ with | some (.int _ p) => p.toNat | _ => 0
theorem PkV.plO {W : World} {g : Nat} {vb vo vm vl : Value} {p : Nat} (h : PkV W g vb vo vm vl (p : Int)) : plO g W = p := by simp [Go.Proofs.Ytigdchfjcfljjaa.plO, h.c4]
theorem PkQ.plO {B : List Int} {w W : World} {g base : Nat} {vb vm vl v0 : Value} {p q : Nat} (h : PkQ B w W g base vb vm vl v0 p q) : plO g W = p := by
  obtain ⟨vo, ts, h1, _⟩ := h
  exact h1.plO
theorem pkE_litsum (E c : List Int) (n : Nat) (h : c.length = n) : (E ++ [(n : Int) - 1]) ++ c = E ++ (Tok.enc ⟨0, 0, c⟩) := by rw [enc_lit, h]; simp
set_option maxHeartbeats 8000000 in
set_option maxRecDepth 100000 in
theorem pkFlush_calls (w0 w : World) (g : Nat) (vb vo vm vl : Value) (B : List Int) (ts : List Tok) (p at_ N : Nat) (H : PkV w g vb vo vm vl (p : Int)) (ho : OwnO (Value.int .u8) w w0.heap.size 5 vo (pkE ts)) (hs : PkS B ts p) (hz : szI (pkE ts).length p 0)
    (hr : Rd w0 .u8 vb B) (hb0 : Below w0.heap.size w0 w) (hg : w0.heap.size ≤ g) (hib : isB B) (hBN : B.length = N) (hN : N ≤ 1000000) (hp : p ≤ at_) (ha : at_ ≤ N) :
    Calls Try.prog 86 #[.pointer (some ⟨g, 0, none⟩), .int .i64 (at_ : Int)] w fun e w' => e = .returned (.tuple #[]) ∧ ∃ q, PkQ B w w' g w0.heap.size vb vm vl vo at_ q := by
  obtain ⟨A0, c0, ev, hcap, hm, _⟩ := hr.mid
  subst ev
  rw [hBN] at hr H hcap ⊢
  have HQ := Aside0.mk (show PkQ B w w g w0.heap.size (.slice A0 N c0) vm vl vo p 0 from ⟨vo, ts, H, ho, hs, hz, Kp.refl _ _, fun k hk => .inl hk, hb0.size⟩)
  have HR := Aside0.mk hr
  have HIB := Aside0.mk hib
  have HBN := Aside0.mk hBN
  have HG := Aside0.mk (show ∀ W, Kp (fun k => k = g ∨ vo.ownBlock = some k) w W → Below w0.heap.size w0 W from fun W hk => Kp.from hb0 hk (fun k e => by
    rcases e with rfl | e
    · exact hg
    · exact ho.ge e))
  clear hr hib hBN H ho hs hz hm hcap
  go_enter Try.func86, Try.ntmps86
  go_wp2_with fail
  go_loopw [] (fun w' => ∃ p q : Nat, Aside0 (PkQ B w w' g w0.heap.size (.slice A0 N c0) vm vl vo p q) ∧ (q % 128 = 0 ∨ p = at_) ∧ p ≤ at_) (fun w' => at_ - plO g w')
  case atStart => exact ⟨p, 0, HQ, .inl rfl, hp⟩
  case round =>
    clear HQ
    obtain ⟨p1, q, HQ, hq, hp1⟩ := hrel
    have hpl := HQ.out.plO
    obtain ⟨v1, ts1, h1, h2, h3, h4, h5, h6, h7⟩ := HQ.out
    clear HQ
    have HP := Aside0.mk h1
    have HO := Aside0.mk h2
    have HS := Aside0.mk h3
    have HZ := Aside0.mk h4
    have HK := Aside0.mk h5
    have HV := Aside0.mk h6
    have HSZ := Aside0.mk h7
    have HNE := Aside0.mk (show v1.ownBlock ≠ some g from h2.ne h1 (by decide))
    clear h1 h2 h3 h4 h5 h6 h7
    have x0 := HP.out.c0
    have x1 := HP.out.c1
    have x4 := HP.out.c4
    by_cases c1 : p1 < at_
    · have g1 : decide ((p1 : Int) < (at_ : Int)) = true := decide_eq_true (by omega)
      obtain ⟨n, hn, hn1, hn2, hn3, hn4⟩ : ∃ n : Nat, (if (128 : Int) < (at_ : Int) - (p1 : Int) then (128 : Int) else (at_ : Int) - (p1 : Int)) = (n : Int) ∧ 1 ≤ n ∧ n ≤ 128 ∧ p1 + n ≤ at_ ∧ (n = 128 ∨ p1 + n = at_) := by
        by_cases ck : 128 < at_ - p1
        · exact ⟨128, by rw [if_pos (by omega)]; rfl, by omega, by omega, by omega, .inl rfl⟩
        · exact ⟨at_ - p1, by rw [if_neg (by omega)]; omega, by omega, by omega, by omega, .inr (by omega)⟩
      have hmin : min (128 : Int) ((at_ : Int) - (p1 : Int)) = (n : Int) := by
        by_cases ck : 128 < at_ - p1
        · rw [if_pos (by omega)] at hn; omega
        · rw [if_neg (by omega)] at hn; omega
      have w1 : IntKind.i64.wrap ((at_ : Int) - (p1 : Int)) = (at_ : Int) - (p1 : Int) := by rw [IntKind.wrap_i64]; omega
      have w2 : IntKind.i64.wrap ((n : Int) - 1) = (n : Int) - 1 := by rw [IntKind.wrap_i64]; omega
      have w3 : IntKind.u8.wrap ((n : Int) - 1) = (n : Int) - 1 := by rw [IntKind.wrap_u8]; omega
      go_upto_region 1 with fail
      go_cut [4] (fun v wx => v = .int .i64 (n : Int) ∧ wr = wx)
      case first =>
        clear w2 w3 hmin
        by_cases ck : (at_ : Int) - (p1 : Int) < 128
        · rw [if_neg (by omega)] at hn
          go_wp2_with fail
          go_meet
          exact ⟨rfl, rfl⟩
        · have e1 : n = 128 := by
            by_cases ck2 : (128 : Int) < (at_ : Int) - (p1 : Int)
            · rw [if_pos ck2] at hn; omega
            · rw [if_neg ck2] at hn; omega
          clear hn
          go_wp2_with fail
          go_meet
          exact ⟨by rw [e1]; rfl, rfl⟩
      case rest =>
      obtain ⟨rfl, rfl⟩ := hcut
      obtain ⟨k, hk⟩ : ∃ k, (pkE ts1).length = k := ⟨_, rfl⟩
      have hkl : k ≤ 2000000 := by
        have h := HZ.out.last
        rw [hk] at h
        omega
      obtain ⟨A1, d1, ev1, _, _⟩ := HO.out.sl hk
      subst ev1
      obtain ⟨A5, d5, w5, hr5, ho5, hk5, hv5⟩ := app8PL (m := 1) [(n : Int) - 1] rfl HO.out hk rfl HSZ.out (by omega)
      have HR5 := Aside0.mk hr5
      have HV5 := Aside0.mk hv5
      have HKL := Aside0.mk hk
      have hz5 := hk5.blk HP.out HNE.out
      have s5 : w5.cell? ⟨g, 1, none⟩ = some (.slice A1 k d1) := blk_cell hz5 1
      have f5 := blk_frozen hz5 1
      have HZ5 := Aside0.mk hz5
      have HO5 := Aside0.mk ho5
      have HK5 := Aside0.mk hk5
      clear hr5 hv5 hz5 ho5 hk5 hk
      go_wp2_with (first | ((with_reducible refine gate_builtin (b := .append) (xs := #[.tmp 22, .tmp 26]) rfl ?_); at_builtin; refine app_list rfl (.tmp 22) (.tmp 26) rfl rfl rfl HR5.out ?_) | fail)
      clear s5 f5 x0 x1 x4 w2 w3 hn hmin w1
      have hs6 := Kp.set w5 ⟨g, 1, none⟩ (.slice A5 (k + 1) d5)
      have hg5 : (Value.slice A5 (k + 1) d5).ownBlock ≠ some g := HO5.out.ne HZ5.out (by decide)
      have HP6 := Aside0.mk (show PkV (w5.setCell ⟨g, 1, none⟩ (.slice A5 (k + 1) d5)) g (.slice A0 N c0) (.slice A5 (k + 1) d5) vm vl (p1 : Int) from by have := blk_set HZ5.out 1 (.slice A5 (k + 1) d5); exact this)
      have HO6 := Aside0.mk (HO5.out.kp hs6 (fun b hb e => hg5 (by rw [hb, e])))
      have HK6 := Aside0.mk ((HK.out.trans HK5.out (fun b hb => by
        rcases HV.out b hb with h | h
        · exact .inl (.inr h)
        · exact .inr h)).trans hs6 (fun b hb => .inl (.inl hb)))
      have HV6 := Aside0.mk (show ∀ b, (Value.slice A5 (k + 1) d5).ownBlock = some b → vo.ownBlock = some b ∨ w.heap.size ≤ b from fun b hb => by
        rcases HV5.out with h | ⟨b', h, hb'⟩
        · rw [h] at hb; exact HV.out b hb
        · rw [h] at hb; injection hb with hb; subst hb; exact .inr (Nat.le_trans HK.out.size hb'))
      have HS6 := Aside0.mk (show w0.heap.size ≤ (w5.setCell ⟨g, 1, none⟩ (.slice A5 (k + 1) d5)).heap.size from Nat.le_trans HSZ.out (Nat.le_trans HK5.out.size hs6.size))
      have HG5 := Aside0.mk hg5
      obtain ⟨w6, hw6⟩ : ∃ wx, w5.setCell ⟨g, 1, none⟩ (.slice A5 (k + 1) d5) = wx := ⟨_, rfl⟩
      rw [hw6] at HP6 HO6 HK6 HS6 ⊢
      clear hw6 hs6 hg5 HZ5 HO5 HK5 HV5 HR5 HP HO HK HV HSZ HNE
      obtain ⟨A7, hsl0, hrd0⟩ := Rd.midP HR.out HBN.out .i64 p1 (p1 + n) (by omega) (by omega)
      rw [show p1 + n - p1 = n by omega] at hsl0 hrd0
      rw [show ((p1 + n : Nat) : Int) = (p1 : Int) + (n : Int) by omega] at hsl0
      have HRC := Aside0.mk hrd0
      have HCL := Aside0.mk (show ((B.drop p1).take n).length = n from by rw [List.length_take, List.length_drop, HBN.out]; omega)
      have HEL := Aside0.mk (show (pkE ts1 ++ [(n : Int) - 1]).length = k + 1 from by rw [List.length_append, HKL.out]; rfl)
      have w4 : IntKind.i64.wrap ((p1 : Int) + (n : Int)) = (p1 : Int) + (n : Int) := by rw [IntKind.wrap_i64]; omega
      clear hrd0
      have x0 := HP6.out.c0
      have x1 := HP6.out.c1
      have x4 := HP6.out.c4
      go_upto_region 3 with fail
      refine start_ (n := 24) (S := fun w' => w'.cell? ⟨g, 0, none⟩ = some (.slice A0 N c0) ∧ w'.cell? ⟨g, 1, none⟩ = some (.slice A5 (k + 1) d5) ∧ w'.cell? ⟨g, 4, none⟩ = some (.int .i64 (p1 : Int))) (ds := [20, 23]) #[false, false, false, false, false, false, false, false, false, false, false, false, false, false, false, false, false, false, false, false, false, false, false, false] (by kernel_rfl) rfl rfl ⟨x0, x1, x4⟩ (fun hHeld => ?_)
      refine pure_ (i := 0) (N := some 30) (v := ?_) (a' := ?_) #[true, false, false, false, false, false, false, false, false, false, false, false, false, false, false, false, false, false, false, false, false, false, false, false] rfl rfl (by kernel_rfl) (fun _ _ _ h => h) (Or.inl ⟨by rfl, ?_⟩) ?_ ?_
      rotate_left
      · intro w'
        go_simp
        with_reducible rfl
      rotate_left
      · simp only [Act.put, List.setIfInBounds_toArray, List.set_cons_zero, List.set_cons_succ, i64_w, i32_w]
        rfl
      refine pure_ (i := 1) (N := some 31) (v := ?_) (a' := ?_) #[true, true, false, false, false, false, false, false, false, false, false, false, false, false, false, false, false, false, false, false, false, false, false, false] rfl rfl (by kernel_rfl) (fun _ _ _ h => h) (Or.inl ⟨by rfl, ?_⟩) ?_ ?_
      rotate_left
      · intro w'
        go_simp
        with_reducible rfl
      rotate_left
      · simp only [Act.put, List.setIfInBounds_toArray, List.set_cons_zero, List.set_cons_succ, i64_w, i32_w]
        rfl
      refine pure_ (i := 2) (N := some 32) (v := ?_) (a' := ?_) #[true, true, true, false, false, false, false, false, false, false, false, false, false, false, false, false, false, false, false, false, false, false, false, false] rfl rfl (by kernel_rfl) (fun _ _ _ h => h) (Or.inl ⟨by rfl, ?_⟩) ?_ ?_
      rotate_left
      · intro w'
        go_simp
        with_reducible rfl
      rotate_left
      · simp only [Act.put, List.setIfInBounds_toArray, List.set_cons_zero, List.set_cons_succ, i64_w, i32_w]
        rfl
      refine pure_ (i := 3) (N := some 33) (v := ?_) (a' := ?_) #[true, true, true, true, false, false, false, false, false, false, false, false, false, false, false, false, false, false, false, false, false, false, false, false] rfl rfl (by kernel_rfl) (fun _ _ _ h => h) (Or.inl ⟨by rfl, ?_⟩) ?_ ?_
      rotate_left
      · intro w'
        go_simp
        with_reducible rfl
      rotate_left
      · simp only [Act.put, List.setIfInBounds_toArray, List.set_cons_zero, List.set_cons_succ, i64_w, i32_w]
        rfl
      refine pure_ (i := 5) (N := some 35) (v := ?_) (a' := ?_) #[true, true, true, true, false, true, false, false, false, false, false, false, false, false, false, false, false, false, false, false, false, false, false, false] rfl rfl (by kernel_rfl) (fun _ _ _ h => h) (Or.inl ⟨by rfl, ?_⟩) ?_ ?_
      rotate_left
      · intro w'
        go_simp
        with_reducible rfl
      rotate_left
      · simp only [Act.put, List.setIfInBounds_toArray, List.set_cons_zero, List.set_cons_succ, i64_w, i32_w]
        rfl
      refine pure_ (i := 6) (N := some 36) (v := ?_) (a' := ?_) #[true, true, true, true, false, true, true, false, false, false, false, false, false, false, false, false, false, false, false, false, false, false, false, false] rfl rfl (by kernel_rfl) (fun _ _ _ h => h) (Or.inl ⟨by rfl, ?_⟩) ?_ ?_
      rotate_left
      · intro w'
        go_simp
        with_reducible rfl
      rotate_left
      · simp only [Act.put, List.setIfInBounds_toArray, List.set_cons_zero, List.set_cons_succ, i64_w, i32_w]
        rfl
      refine pure_ (i := 7) (N := some 37) (v := ?_) (a' := ?_) #[true, true, true, true, false, true, true, true, false, false, false, false, false, false, false, false, false, false, false, false, false, false, false, false] rfl rfl (by kernel_rfl) (fun _ _ _ h => h) (Or.inl ⟨by rfl, ?_⟩) ?_ ?_
      rotate_left
      · intro w'
        go_simp
        with_reducible rfl
      rotate_left
      · simp only [Act.put, List.setIfInBounds_toArray, List.set_cons_zero, List.set_cons_succ, i64_w, i32_w]
        rfl
      refine pure_ (i := 9) (N := some 39) (v := ?_) (a' := ?_) #[true, true, true, true, false, true, true, true, false, true, false, false, false, false, false, false, false, false, false, false, false, false, false, false] rfl rfl (by kernel_rfl) (fun _ _ _ h => h) (Or.inl ⟨by rfl, ?_⟩) ?_ ?_
      rotate_left
      · intro w'
        go_simp
        with_reducible rfl
      rotate_left
      · simp only [Act.put, List.setIfInBounds_toArray, List.set_cons_zero, List.set_cons_succ, i64_w, i32_w]
        rfl
      refine pure_ (i := 10) (N := some 40) (v := ?_) (a' := ?_) #[true, true, true, true, false, true, true, true, false, true, true, false, false, false, false, false, false, false, false, false, false, false, false, false] rfl rfl (by kernel_rfl) (fun _ _ _ h => h) (Or.inl ⟨by rfl, ?_⟩) ?_ ?_
      rotate_left
      · intro w'
        go_simp
        with_reducible rfl
      rotate_left
      · simp only [Act.put, List.setIfInBounds_toArray, List.set_cons_zero, List.set_cons_succ, i64_w, i32_w]
        rfl
      refine pure_ (i := 11) (N := some 41) (v := ?_) (a' := ?_) #[true, true, true, true, false, true, true, true, false, true, true, true, false, false, false, false, false, false, false, false, false, false, false, false] rfl rfl (by kernel_rfl) (fun _ _ _ h => h) (Or.inl ⟨by rfl, ?_⟩) ?_ ?_
      rotate_left
      · intro w'
        go_simp
        with_reducible rfl
      rotate_left
      · simp only [Act.put, List.setIfInBounds_toArray, List.set_cons_zero, List.set_cons_succ, i64_w, i32_w]
        rfl
      refine pure_ (i := 13) (N := some 43) (v := ?_) (a' := ?_) #[true, true, true, true, false, true, true, true, false, true, true, true, false, true, false, false, false, false, false, false, false, false, false, false] rfl rfl (by kernel_rfl) (fun _ _ _ h => h) (Or.inl ⟨by rfl, ?_⟩) ?_ ?_
      rotate_left
      · intro w'
        go_simp
        with_reducible rfl
      rotate_left
      · simp only [Act.put, List.setIfInBounds_toArray, List.set_cons_zero, List.set_cons_succ, i64_w, i32_w]
        rfl
      refine pure_ (i := 14) (N := some 44) (v := ?_) (a' := ?_) #[true, true, true, true, false, true, true, true, false, true, true, true, false, true, true, false, false, false, false, false, false, false, false, false] rfl rfl (by kernel_rfl) (fun _ _ _ h => h) (Or.inl ⟨by rfl, ?_⟩) ?_ ?_
      rotate_left
      · intro w'
        go_simp
        with_reducible rfl
      rotate_left
      · simp only [Act.put, List.setIfInBounds_toArray, List.set_cons_zero, List.set_cons_succ, i64_w, i32_w]
        rfl
      refine pure_ (i := 15) (N := some 45) (v := ?_) (a' := ?_) #[true, true, true, true, false, true, true, true, false, true, true, true, false, true, true, true, false, false, false, false, false, false, false, false] rfl rfl (by kernel_rfl) (fun _ _ _ h => h) (Or.inl ⟨by rfl, ?_⟩) ?_ ?_
      rotate_left
      · intro w'
        go_simp
        with_reducible rfl
      rotate_left
      · simp only [Act.put, List.setIfInBounds_toArray, List.set_cons_zero, List.set_cons_succ, i64_w, i32_w]
        rfl
      refine pure_ (i := 17) (N := some 47) (v := ?_) (a' := ?_) #[true, true, true, true, false, true, true, true, false, true, true, true, false, true, true, true, false, true, false, false, false, false, false, false] rfl rfl (by kernel_rfl) (fun _ _ _ h => h) (Or.inl ⟨by rfl, ?_⟩) ?_ ?_
      rotate_left
      · intro w'
        go_simp
        with_reducible rfl
      rotate_left
      · simp only [Act.put, List.setIfInBounds_toArray, List.set_cons_zero, List.set_cons_succ, i64_w, i32_w]
        rfl
      refine take_ (i := 4) (N := some 34) (v := ?_) (a' := ?_) #[true, true, true, true, true, true, true, true, false, true, true, true, false, true, true, true, false, true, false, false, false, false, false, false] rfl rfl (by kernel_rfl) (fun _ _ _ h => h) (Or.inl ⟨by rfl, ?_⟩) hHeld ?_ ?_
      rotate_left
      · rintro w' ⟨s0, s1, s2⟩
        go_simp
        with_reducible rfl
      rotate_left
      · simp only [Act.put, List.setIfInBounds_toArray, List.set_cons_zero, List.set_cons_succ, i64_w, i32_w]
        rfl
      refine take_ (i := 8) (N := some 38) (v := ?_) (a' := ?_) #[true, true, true, true, true, true, true, true, true, true, true, true, false, true, true, true, false, true, false, false, false, false, false, false] rfl rfl (by kernel_rfl) (fun _ _ _ h => h) (Or.inl ⟨by rfl, ?_⟩) hHeld ?_ ?_
      rotate_left
      · rintro w' ⟨s0, s1, s2⟩
        go_simp
        with_reducible rfl
      rotate_left
      · simp only [Act.put, List.setIfInBounds_toArray, List.set_cons_zero, List.set_cons_succ, i64_w, i32_w]
        rfl
      refine take_ (i := 12) (N := some 42) (v := ?_) (a' := ?_) #[true, true, true, true, true, true, true, true, true, true, true, true, true, true, true, true, false, true, false, false, false, false, false, false] rfl rfl (by kernel_rfl) (fun _ _ _ h => h) (Or.inl ⟨by rfl, ?_⟩) hHeld ?_ ?_
      rotate_left
      · rintro w' ⟨s0, s1, s2⟩
        go_simp
        with_reducible rfl
      rotate_left
      · simp only [Act.put, List.setIfInBounds_toArray, List.set_cons_zero, List.set_cons_succ, i64_w, i32_w]
        rfl
      refine take_ (i := 16) (N := some 46) (v := ?_) (a' := ?_) #[true, true, true, true, true, true, true, true, true, true, true, true, true, true, true, true, true, true, false, false, false, false, false, false] rfl rfl (by kernel_rfl) (fun _ _ _ h => h) (Or.inl ⟨by rfl, ?_⟩) hHeld ?_ ?_
      rotate_left
      · rintro w' ⟨s0, s1, s2⟩
        go_simp
        with_reducible rfl
      rotate_left
      · simp only [Act.put, List.setIfInBounds_toArray, List.set_cons_zero, List.set_cons_succ, i64_w, i32_w]
        rfl
      refine pure_ (i := 18) (N := some 48) (v := ?_) (a' := ?_) #[true, true, true, true, true, true, true, true, true, true, true, true, true, true, true, true, true, true, true, false, false, false, false, false] rfl rfl (by kernel_rfl) (fun _ _ _ h => h) (Or.inl ⟨by rfl, ?_⟩) ?_ ?_
      rotate_left
      · intro w'
        go_simp
        with_reducible rfl
      rotate_left
      · simp only [Act.put, List.setIfInBounds_toArray, List.set_cons_zero, List.set_cons_succ, i64_w, i32_w]
        rfl
      refine pure_ (i := 19) (N := some 49) (v := ?_) (a' := ?_) #[true, true, true, true, true, true, true, true, true, true, true, true, true, true, true, true, true, true, true, true, false, false, false, false] rfl rfl (by kernel_rfl) (fun _ _ _ h => h) (Or.inl ⟨by rfl, ?_⟩) ?_ ?_
      rotate_left
      · intro w'
        go_simp
        with_reducible rfl
      rotate_left
      · simp only [Act.put, List.setIfInBounds_toArray, List.set_cons_zero, List.set_cons_succ, i64_w, i32_w]
        rfl
      refine last_ (i := 20) (N := some 50) #[true, true, true, true, true, true, true, true, true, true, true, true, true, true, true, true, true, true, true, true, true, false, false, false] rfl rfl (by kernel_rfl) (by decide) (fun K hK => ?_)
      obtain ⟨A8, d8, w8, hr8, ho8, hk8, hv8⟩ := app8PR (HO6.out.below (below_drew (Below.refl _ _))) (HRC.out _ ((HR.out.below (HG.out _ HK6.out)).below (below_drew (Below.refl _ _)))) HEL.out HCL.out HS6.out (by omega)
      refine app_step (by rfl) (.tmp 34) (.tmp 49) rfl rfl rfl hr8 ?_
      refine hK.out _ _ ?_
      clear hK K
      refine norm_ (a' := ?_) ?_ ?_
      rotate_left
      · show Act.put _ (some 50) _ = _
        simp only [Act.put, List.setIfInBounds_toArray, List.set_cons_zero, List.set_cons_succ, i64_w, i32_w]
        rfl
      refine pure_ (i := 21) (N := some 51) (v := ?_) (a' := ?_) #[true, true, true, true, true, true, true, true, true, true, true, true, true, true, true, true, true, true, true, true, true, true, false, false] rfl rfl (by kernel_rfl) (fun _ _ _ h => h) (Or.inl ⟨by rfl, ?_⟩) ?_ ?_
      rotate_left
      · intro w'
        go_simp
        with_reducible rfl
      rotate_left
      · simp only [Act.put, List.setIfInBounds_toArray, List.set_cons_zero, List.set_cons_succ, i64_w, i32_w]
        rfl
      refine pure_ (i := 22) (N := some 52) (v := ?_) (a' := ?_) #[true, true, true, true, true, true, true, true, true, true, true, true, true, true, true, true, true, true, true, true, true, true, true, false] rfl rfl (by kernel_rfl) (fun _ _ _ h => h) (Or.inl ⟨by rfl, ?_⟩) ?_ ?_
      rotate_left
      · intro w'
        go_simp
        with_reducible rfl
      rotate_left
      · simp only [Act.put, List.setIfInBounds_toArray, List.set_cons_zero, List.set_cons_succ, i64_w, i32_w]
        rfl
      refine last_ (i := 23) (N := none) #[true, true, true, true, true, true, true, true, true, true, true, true, true, true, true, true, true, true, true, true, true, true, true, true] rfl rfl (by kernel_rfl) (by decide) (fun K hK => ?_)
      have hz8 := hk8.blk (blk_drew HP6.out) HG5.out
      have s8 : w8.cell? ⟨g, 1, none⟩ = some (.slice A5 (k + 1) d5) := blk_cell hz8 1
      have f8 := blk_frozen hz8 1
      refine skip_ (w1 := ?_) (by rfl) rfl ?_ ?_
      rotate_left
      · go_simp
        rfl
      refine hK.out _ _ ?_
      clear hK K
      refine done_ (by kernel_rfl) ?_
      have hb6 : Below w6.heap.size w6 w6.drew := below_drew (Below.refl _ _)
      have hs9 := Kp.set w8 ⟨g, 1, none⟩ (.slice A8 (k + 1 + n) d8)
      have hg8 : (Value.slice A8 (k + 1 + n) d8).ownBlock ≠ some g := ho8.ne hz8 (by decide)
      have HP9 := Aside0.mk (show PkV (w8.setCell ⟨g, 1, none⟩ (.slice A8 (k + 1 + n) d8)) g (.slice A0 N c0) (.slice A8 (k + 1 + n) d8) vm vl (p1 : Int) from by have := blk_set hz8 1 (.slice A8 (k + 1 + n) d8); exact this)
      have HO9 := Aside0.mk (ho8.kp hs9 (fun b hb e => hg8 (by rw [hb, e])))
      have HK9 := Aside0.mk (((HK6.out.below hb6).trans hk8 (fun b hb => by
        rcases HV6.out b hb with h | h
        · exact .inl (.inr h)
        · exact .inr h)).trans hs9 (fun b hb => .inl (.inl hb)))
      have HV9 := Aside0.mk (show ∀ b, (Value.slice A8 (k + 1 + n) d8).ownBlock = some b → vo.ownBlock = some b ∨ w.heap.size ≤ b from fun b hb => by
        rcases hv8 with h | ⟨b', h, hb'⟩
        · rw [h] at hb; exact HV6.out b hb
        · rw [h] at hb; injection hb with hb; subst hb; exact .inr (Nat.le_trans (HK6.out.below hb6).size hb'))
      have HG8 := Aside0.mk hg8
      have HS9 := Aside0.mk (show w0.heap.size ≤ (w8.setCell ⟨g, 1, none⟩ (.slice A8 (k + 1 + n) d8)).heap.size from Nat.le_trans HS6.out (Nat.le_trans hb6.size (Nat.le_trans hk8.size hs9.size)))
      obtain ⟨w9, hw9⟩ : ∃ wx, w8.setCell ⟨g, 1, none⟩ (.slice A8 (k + 1 + n) d8) = wx := ⟨_, rfl⟩
      rw [hw9] at HP9 HO9 HK9 HS9 ⊢
      clear hw9 hs9 hg8 hz8 ho8 hk8 hv8 hr8 s8 f8 HP6 HO6 HK6 HV6 HS6 HG5 x0 x1 x4 hsl0 hb6
      rw [pkE_litsum _ _ _ HCL.out, ← pkE_snoc] at HO9
      have y4 := HP9.out.c4
      have f4 := blk_frozen HP9.out 4
      have hl9 : g < w9.heap.size := blk_lt HP9.out
      go_wp2_with fail
      have hs10 := Kp.set w9 ⟨g, 4, none⟩ (.int .i64 ((p1 : Int) + (n : Int)))
      have HQ10 := Aside0.mk (show PkQ B w (w9.setCell ⟨g, 4, none⟩ (.int .i64 ((p1 : Int) + (n : Int)))) g w0.heap.size (.slice A0 N c0) vm vl vo (p1 + n) (q + n) from ⟨_, _, by have := blk_set HP9.out 4 (.int .i64 ((p1 : Int) + (n : Int))); exact this, HO9.out.kp hs10 (fun b hb e => HG8.out (by rw [hb, e])), HS.out.lit n hn1 hn2 (by rw [HBN.out]; omega), by
        have h1 := HZ.out.lit n (by rcases hq with h | h <;> omega) hn1 hn2
        have h2 : (pkE (ts1 ++ [⟨0, 0, (B.drop p1).take n⟩])).length = (pkE ts1).length + 1 + n := by rw [pkE_snoc, enc_lit, List.length_append, List.length_cons, HCL.out]; omega
        rw [h2]; exact h1, HK9.out.trans hs10 (fun b hb => .inl (.inl hb)), HV9.out, Nat.le_trans HS9.out hs10.size⟩)
      have hq2 : (q + n) % 128 = 0 ∨ p1 + n = at_ := by
        rcases hq with h | h
        · rcases hn4 with h4 | h4
          · left; omega
          · exact .inr h4
        · omega
      obtain ⟨w10, hw10⟩ : ∃ wx, w9.setCell ⟨g, 4, none⟩ (.int .i64 ((p1 : Int) + (n : Int))) = wx := ⟨_, rfl⟩
      rw [hw10] at HQ10 ⊢
      clear hw10 hs10 y4 f4 hl9 w4
      go_roundw
      case rel => exact ⟨p1 + n, q + n, HQ10, hq2, hn3⟩
      case measure =>
        rw [HQ10.out.plO, hpl]
        omega
    · have g1 : decide ((p1 : Int) < (at_ : Int)) = false := decide_eq_false (by omega)
      obtain rfl : p1 = at_ := by omega
      go_wp2_with fail
      go_end0
      exact ⟨rfl, q, v1, ts1, HP.out, HO.out, HS.out, HZ.out, HK.out, HV.out, HSZ.out⟩
end Go.Proofs.Ytigdchfjcfljjaa
