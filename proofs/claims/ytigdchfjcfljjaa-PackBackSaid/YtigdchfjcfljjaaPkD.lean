/- The packer: Pack. -/
import Derived.Test.YtigdchfjcfljjaaPkC
import Derived.Test.YtigdchfjcfljjaaFill
import Derived.Laws.MakeOwn
namespace Go.Proofs.Ytigdchfjcfljjaa
open Go.RowKit Go.Proofs.YtigdchfjcfljjaaW.PrintWords Go.Proofs.YtigdchfjcfljjaaW.PrintLast Go.Proofs.YtigdchfjcfljjaaW.PrintMore
attribute [local go_sem] max2_int min2_int max_two min_two max_three min_three max_four min_four   -- for this text's walks alone
set_option linter.unusedVariables false
set_option linter.unusedSimpArgs false

theorem infoIntP : (Try.prog.info? 3).map (fun i => (i.zero, i.size, i.bytes)) = some (some (.int .i64 0), 1, 8) := by kernel_rfl
theorem mk_zerosP (n : Nat) (h : n ≤ 1000000) (W : World) : (Instr.makeSlice 83 (.int .i64 (n : Int)) (.int .i64 (n : Int))).run Try.prog W = .ok (.slice (some ⟨W.heap.size, 0, none⟩) n n) (W.alloc (.cells (nums .i64 (List.replicate n 0)).toArray 3)) := by
  have hi := infoIntP
  cases e : Try.prog.info? 3 with
  | none => rw [e] at hi; cases hi
  | some i =>
    rw [e] at hi
    simp only [Option.map_some, Option.some.injEq, Prod.mk.injEq] at hi
    obtain ⟨h1, h2, h3⟩ := hi
    have hm := made_fill .i64 (fun _ => 0) n
    rw [show fillL (fun _ => 0) n 0 = List.replicate n 0 by simp [fillL]] at hm
    have := run_makeSlice (P := Try.prog) (w := W) 83 3 i (.int .i64 0) Try.underlying83 e h1 .i64 .i64 (n : Int) (n : Int) (by omega) (Int.le_refl _) (by rw [h2]; simp; omega) (by rw [h3]; omega) (by omega)
    rw [Int.toNat_natCast, h2, Nat.mul_one] at this
    rw [this, ← hm]
    rfl
theorem MpV.apart {α : Type} {enc : α → Value} {W : World} {b n base e : Nat} {D : DataW Unit} {v : Value} {xs : List α} (h : MpV W b n D) (ho : OwnO enc W base e v xs) : v.ownBlock ≠ some b := fun hk => by
  obtain ⟨es, clock, h1, _⟩ := h
  rcases ho with ⟨rfl, _⟩ | ⟨g, o, cap, cur, rfl, hb, hg, r⟩
  · cases hk
  · injection hk with hk
    subst hk
    rw [h1] at hg
    injection hg with hg
    cases hg
/-- The packer's blocks. -/
structure PkB4 (base g bm l : Nat) : Prop where
  gl : g ≠ l
  gb : g ≠ bm
  bl : bm ≠ l
  g0 : base ≤ g
  b0 : base ≤ bm
  l0 : base ≤ l
/-- The packer's memory: out holds the bytes E, plain is pl, the places ahead of at_ are put down. -/
structure PkMem (w0 W : World) (g bm l N : Nat) (vb vo : Value) (pl : Int) (E : List Int) (at_ : Nat) : Prop where
  p : PkV W g vb vo (.map (some bm)) (.slice (some ⟨l, 0, none⟩) N N) pl
  o : OwnO (Value.int .u8) W w0.heap.size 5 vo E
  h : PkH W bm l at_ N
  b : Below w0.heap.size w0 W
section
variable {w0 W W1 : World} {g bm l N : Nat} {vb vo v1 : Value} {pl : Int} {E E1 : List Int} {at_ : Nat}
theorem PkMem.below (m : PkMem w0 W g bm l N vb vo pl E at_) (hb : Below W.heap.size W W1) : PkMem w0 W1 g bm l N vb vo pl E at_ := ⟨m.p.below hb, m.o.below hb, m.h.below hb, below_step m.b hb⟩
theorem PkMem.og (m : PkMem w0 W g bm l N vb vo pl E at_) : vo.ownBlock ≠ some g := m.o.ne m.p (by decide)
theorem PkMem.om (m : PkMem w0 W g bm l N vb vo pl E at_) : vo.ownBlock ≠ some bm := by
  obtain ⟨nm, D, LK, _, h2, _⟩ := m.h
  exact h2.apart m.o
theorem PkMem.ol (m : PkMem w0 W g bm l N vb vo pl E at_) : vo.ownBlock ≠ some l := by
  obtain ⟨nm, D, LK, _, _, _, h4, _⟩ := m.h
  exact m.o.ne h4 (by decide)
theorem PkMem.note (m : PkMem w0 W g bm l N vb vo pl E at_) (B4 : PkB4 w0.heap.size g bm l) (hh : PkH W1 bm l (at_ + 1) N) (hk : Kp (fun k => k = l ∨ k = bm) W W1) : PkMem w0 W1 g bm l N vb vo pl E (at_ + 1) :=
  ⟨hk.blk m.p (fun e => e.elim B4.gl B4.gb), m.o.kp hk (fun k hb e => by
    rcases e with rfl | rfl
    · exact m.ol hb
    · exact m.om hb), hh, Kp.from m.b hk (fun k e => by
    rcases e with rfl | rfl
    · exact B4.l0
    · exact B4.b0)⟩
/-- Another out, the rest kept. -/
theorem PkMem.kept (m : PkMem w0 W g bm l N vb vo pl E at_) (B4 : PkB4 w0.heap.size g bm l) (hk : Kp (fun k => k = g ∨ vo.ownBlock = some k) W W1) : PkH W1 bm l at_ N ∧ Below w0.heap.size w0 W1 :=
  ⟨m.h.kp hk (fun e => e.elim (fun e => B4.gb e.symm) m.om) (fun e => e.elim (fun e => B4.gl e.symm) m.ol), Kp.from m.b hk (fun k e => by
    rcases e with rfl | e
    · exact B4.g0
    · exact m.o.ge e)⟩
theorem PkMem.flush {B : List Int} {p q : Nat} (m : PkMem w0 W g bm l N vb vo pl E at_) (B4 : PkB4 w0.heap.size g bm l) (hq : PkQ B W W1 g w0.heap.size vb (.map (some bm)) (.slice (some ⟨l, 0, none⟩) N N) vo p q) :
    ∃ v1 ts1, PkMem w0 W1 g bm l N vb v1 (p : Int) (pkE ts1) at_ ∧ PkS B ts1 p ∧ szI (pkE ts1).length p q := by
  obtain ⟨v1, ts1, h1, h2, h3, h4, h5, h6, h7⟩ := hq
  obtain ⟨h8, h9⟩ := m.kept B4 h5
  exact ⟨v1, ts1, ⟨h1, h2, h8, h9⟩, h3, h4⟩
/-- out := append(out, ..) -/
theorem PkMem.out (m : PkMem w0 W g bm l N vb vo pl E at_) (B4 : PkB4 w0.heap.size g bm l) (ho : OwnO (Value.int .u8) W1 w0.heap.size 5 v1 E1) (hk : Kp (fun b => vo.ownBlock = some b) W W1) : PkMem w0 (W1.setCell ⟨g, 1, none⟩ v1) g bm l N vb v1 pl E1 at_ := by
  have hz := hk.blk m.p m.og
  have hs := Kp.set W1 ⟨g, 1, none⟩ v1
  have hg1 : v1.ownBlock ≠ some g := ho.ne hz (by decide)
  obtain ⟨h8, h9⟩ := m.kept B4 ((hk.mono (S1 := fun k => k = g ∨ vo.ownBlock = some k) (fun k h => .inr h)).trans hs (fun k h => .inl (.inl h)))
  exact ⟨by have := blk_set hz 1 v1; exact this, ho.kp hs (fun b hb e => hg1 (by rw [hb, e])), h8, h9⟩
theorem PkMem.plain (m : PkMem w0 W g bm l N vb vo pl E at_) (B4 : PkB4 w0.heap.size g bm l) (x : Int) : PkMem w0 (W.setCell ⟨g, 4, none⟩ (.int .i64 x)) g bm l N vb vo x E at_ := by
  have hs := Kp.set W ⟨g, 4, none⟩ (.int .i64 x)
  obtain ⟨h8, h9⟩ := m.kept B4 (hs.mono (S1 := fun k => k = g ∨ vo.ownBlock = some k) (fun k h => .inl h))
  exact ⟨by have := blk_set m.p 4 (.int .i64 x); exact this, m.o.kp hs (fun b hb e => m.og (by rw [hb, e])), h8, h9⟩
end
set_option maxHeartbeats 8000000 in
set_option maxRecDepth 100000 in
theorem Pack_calls (w : World) (vb : Value) (B : List Int) (hr : Rd w .u8 vb B) (hib : isB B) (hN : B.length ≤ 4000) :
    Calls Try.prog 16 #[vb] w fun e w' => ∃ (v : Value) (ts : List Tok), e = .returned (.tuple #[v, .int .i64 0]) ∧ OwnO (Value.int .u8) w' w.heap.size 5 v (pkE ts) ∧ pkOk ts ∧ pkX ts = B ∧ (pkE ts).length ≤ B.length + (B.length + 127) / 128 ∧ Below w.heap.size w w' := by
  obtain ⟨N, hBN⟩ : ∃ N, B.length = N := ⟨_, rfl⟩
  obtain ⟨A0, c0, ev, hcap, hm, _⟩ := hr.mid
  subst ev
  rw [hBN] at hr hN ⊢
  have HR := Aside0.mk hr
  have HIB := Aside0.mk hib
  have HBN := Aside0.mk hBN
  have hmk1 := fun W => run_makeMap (P := Try.prog) 146 W
  have hmk2 := mk_zerosP N (by omega)
  have g1 : decide (65536 < (N : Int)) = false := decide_eq_false (by omega)
  clear hr hib hBN
  go_enter Try.func16, Try.ntmps16
  go_upto_region 4 with fail
  obtain ⟨W3, hW3⟩ : ∃ W, ((w.alloc (Obj.map #[] 0)).alloc (Obj.cells (nums IntKind.i64 (List.replicate N 0)).toArray 3)).alloc (Obj.cells #[Value.slice A0 N c0, Value.slice none 0 0, Value.map (some w.heap.size), Value.slice (some ⟨w.heap.size + 1, 0, none⟩) N N, Value.int IntKind.i64 0] 148) = W := ⟨_, rfl⟩
  have HM := Aside0.mk (show PkMem w W3 (w.heap.size + 1 + 1) w.heap.size (w.heap.size + 1) N (.slice A0 N c0) (.slice none 0 0) 0 [] 0 from by
    have b1 := below_alloc (Below.refl w.heap.size w) (Obj.map #[] 0)
    have b2 := below_alloc (Below.refl _ (w.alloc (Obj.map #[] 0))) (Obj.cells (nums IntKind.i64 (List.replicate N 0)).toArray 3)
    have b3 := below_alloc (Below.refl _ ((w.alloc (Obj.map #[] 0)).alloc (Obj.cells (nums IntKind.i64 (List.replicate N 0)).toArray 3))) (Obj.cells #[Value.slice A0 N c0, Value.slice none 0 0, Value.map (some w.heap.size), Value.slice (some ⟨w.heap.size + 1, 0, none⟩) N N, Value.int IntKind.i64 0] 148)
    rw [hW3] at b3
    refine ⟨?_, OwnO.nil _ _ _ _, ⟨0, .map [], List.replicate N 0, Nat.le_refl _, ((show MpV (w.alloc (Obj.map #[] 0)) w.heap.size 0 (.map []) from World.ownsMap_made w _ _ _).below b2).below b3, ⟨Go.Maps.isMap_empty, fun kl c hk _ => by simp [Go.Maps.has] at hk⟩, ?_, by simp, fun j hj => by simp at hj; simp [hj]⟩, below_step (below_step b1 b2) b3⟩
    · have := blk_new ((w.alloc (Obj.map #[] 0)).alloc (Obj.cells (nums IntKind.i64 (List.replicate N 0)).toArray 3)) (Obj.cells #[Value.slice A0 N c0, Value.slice none 0 0, Value.map (some w.heap.size), Value.slice (some ⟨w.heap.size + 1, 0, none⟩) N N, Value.int IntKind.i64 0] 148)
      rw [hW3] at this
      simpa [PkV] using this
    · have := blk_below (blk_new (w.alloc (Obj.map #[] 0)) (Obj.cells (nums IntKind.i64 (List.replicate N 0)).toArray 3)) b3
      simpa [LkV] using this)
  rw [hW3]
  have B4 := Aside0.mk (show PkB4 w.heap.size (w.heap.size + 1 + 1) w.heap.size (w.heap.size + 1) from ⟨by omega, by omega, by omega, by omega, by omega, by omega⟩)
  obtain ⟨g, hg⟩ : ∃ g, w.heap.size + 1 + 1 = g := ⟨_, rfl⟩
  obtain ⟨l, hl⟩ : ∃ l, w.heap.size + 1 = l := ⟨_, rfl⟩
  rw [hg, hl] at HM B4 ⊢
  obtain ⟨bm, hbm⟩ : ∃ bm, w.heap.size = bm := ⟨_, rfl⟩
  have hB4 : PkB4 w.heap.size g bm l := by have := B4.out; rwa [← hbm]
  replace B4 := Aside0.mk hB4
  have hHM : PkMem w W3 g bm l N (.slice A0 N c0) (.slice none 0 0) 0 [] 0 := by have := HM.out; rwa [← hbm]
  replace HM := Aside0.mk hHM
  rw [hbm]
  clear hW3 hB4 hHM hg hl hbm hmk1 hmk2 g1 hcap hm
  go_upto_block 0 with (fail)
  go_cut [] (fun wx => ∃ (vo : Value) (ts : List Tok) (p : Nat), Aside0 (PkMem w wx g bm l N (.slice A0 N c0) vo (p : Int) (pkE ts) N) ∧ Aside0 (PkS B ts p) ∧ Aside0 (szI (pkE ts).length p 0))
  case first =>
    go_wp2_with fail
    go_loopw [5] (fun v5 w' => ∃ (at_ : Nat) (vo : Value) (ts : List Tok) (p : Nat), v5 = .int .i64 (at_ : Int) ∧ at_ ≤ N ∧ p ≤ at_ ∧ Aside0 (PkMem w w' g bm l N (.slice A0 N c0) vo (p : Int) (pkE ts) at_) ∧ Aside0 (PkS B ts p) ∧ Aside0 (szI (pkE ts).length p 0)) (fun v5 _ => N - (intOf v5).toNat)
    case atStart => exact ⟨0, _, [], 0, rfl, Nat.zero_le _, Nat.le_refl _, HM, Aside0.mk (PkS.nil B), Aside0.mk szI.nil⟩
    case round =>
      obtain ⟨at_, vo, ts, p, rfl, hat, hp, HM, HS, HZ⟩ := hrel
      by_cases c1 : at_ < N
      · have g1 : decide ((at_ : Int) < (N : Int)) = true := decide_eq_true (by omega)
        have w1 : IntKind.i64.wrap ((at_ : Int) + 4) = (at_ : Int) + 4 := by rw [IntKind.wrap_i64]; omega
        obtain ⟨b2, g2⟩ : ∃ b2, decide ((at_ : Int) + 4 ≤ (N : Int)) = b2 := ⟨_, rfl⟩
        go_upto_if 26 with fail
        go_cut [6, 7] (fun v6 v7 wx => ∃ bf n : Nat, v6 = .int .i64 (bf : Int) ∧ v7 = .int .i64 (n : Int) ∧ Aside0 (PkFd B at_ bf n) ∧ Aside0 (PkMem w wx g bm l N (.slice A0 N c0) vo (p : Int) (pkE ts) at_))
        case first =>
          cases b2 with
          | true =>
            have c2 : at_ + 4 ≤ N := by have := of_decide_eq_true g2; omega
            obtain ⟨nm, D, LK, h1, h2, h3, h4, h5, h6⟩ := HM.out.h
            have HFC := Aside0.mk (pkFind_calls wr g bm l nm _ _ _ B LK D at_ N HM.out.p h2 h3 h4 h5 h6 (HR.out.below HM.out.b) HIB.out HBN.out c2 (by omega))
            clear h1 h2 h3 h4 h5 h6
            go_wp2_with fail
            with_reducible refine HFC.out.mono ?_
            rintro e w2 ⟨bf, n, rfl, hf, hb⟩
            have HF := Aside0.mk hf
            have HM2 := Aside0.mk (HM.out.below hb)
            clear hf hb
            go_wp2_with fail
            go_meet
            exact ⟨bf, n, rfl, rfl, HF, HM2⟩
          | false =>
            go_wp2_with fail
            go_meet
            exact ⟨0, 0, rfl, rfl, Aside0.mk ⟨by omega, by rw [HBN.out]; omega, .inl rfl⟩, HM⟩
        case rest =>
        obtain ⟨bf, n, rfl, rfl, HF, HM1⟩ := hcut
        have hn1 := HF.out.n1
        have hn2 : at_ + n ≤ N := by have := HF.out.le; rwa [HBN.out] at this
        clear w1 g2
        by_cases c3 : n < 4
        · have g3 : decide ((n : Int) < 4) = true := decide_eq_true (by omega)
          have HNC := Aside0.mk (pkNote_calls wc g bm l _ _ _ B at_ N HM1.out.p HM1.out.h (HR.out.below HM1.out.b) HIB.out HBN.out (by omega) (by omega) B4.out.bl B4.out.gl B4.out.gb)
          go_wp2_with fail
          with_reducible refine HNC.out.mono ?_
          rintro e w3 ⟨rfl, hh, hk⟩
          have HM3 := Aside0.mk (HM1.out.note B4.out hh hk)
          clear hh hk
          go_wp2_with fail
          go_roundw
          case rel => exact ⟨at_ + 1, vo, ts, p, by go_num, by omega, by omega, HM3, HS, HZ⟩
          case measure => simp [intOf] <;> omega
        · have g3 : decide ((n : Int) < 4) = false := decide_eq_false (by omega)
          obtain ⟨hf1, hf2, hf3⟩ : bf < at_ ∧ at_ - bf ≤ 4096 ∧ Aside0 (∀ i, i < n → B.getD (bf + i) 0 = B.getD (at_ + i) 0) := by
            rcases HF.out.e with h | ⟨h1, h2, h3⟩
            · omega
            · exact ⟨h1, h2, Aside0.mk h3⟩
          have HFC := Aside0.mk (pkFlush_calls w wc g _ vo _ _ B ts p at_ N HM1.out.p HM1.out.o HS.out HZ.out HR.out HM1.out.b B4.out.g0 HIB.out HBN.out (by omega) hp hat)
          go_wp2_with fail
          with_reducible refine HFC.out.mono ?_
          rintro e w3 ⟨rfl, q, hq⟩
          obtain ⟨v3, ts3, hm3, hs3, hz3⟩ := HM1.out.flush B4.out hq
          have HM3 := Aside0.mk hm3
          have HS3 := Aside0.mk hs3
          have HZ3 := Aside0.mk hz3
          clear hq hm3 hs3 hz3 HFC HM1 HS HZ HM g3
          obtain ⟨k, hk⟩ : ∃ k, (pkE ts3).length = k := ⟨_, rfl⟩
          have hkl : k ≤ 20000 := by
            have h := HZ3.out.last
            rw [hk] at h
            omega
          have hO3 := HM3.out.o
          obtain ⟨A3, d3, ev3, _, _⟩ := hO3.sl hk
          subst ev3
          have HKL := Aside0.mk hk
          obtain ⟨z, hz⟩ : ∃ z, 128 + (n : Int) - 4 = z := ⟨_, rfl⟩
          have w2 : IntKind.i64.wrap (128 + (n : Int)) = 128 + (n : Int) := by rw [IntKind.wrap_i64]; omega
          have w3' : IntKind.i64.wrap (128 + (n : Int) - 4) = z := by rw [IntKind.wrap_i64]; omega
          have w4 : IntKind.u8.wrap z = z := by rw [IntKind.wrap_u8]; omega
          have HZV := Aside0.mk hz
          clear hz
          obtain ⟨A5, d5, w5, hr5, ho5, hk5, hv5⟩ := app8PL (m := 1) [z] rfl hO3 hk rfl HM3.out.b.size (by omega)
          have HR5 := Aside0.mk hr5
          have hz5 := hk5.blk HM3.out.p HM3.out.og
          have s5 : w5.cell? ⟨g, 1, none⟩ = some (.slice A3 k d3) := blk_cell hz5 1
          have f5 := blk_frozen hz5 1
          have hl5 : g < w5.heap.size := blk_lt hz5
          have x1 := HM3.out.p.c1
          have HM6 := Aside0.mk (HM3.out.out B4.out ho5 hk5)
          clear hr5 hv5 hz5 ho5 hk5 hk hO3 HM3
          go_upto_region 13 with fail
          go_wp2_with (first | ((with_reducible refine gate_builtin (b := .append) (xs := #[.tmp 47, .tmp 52]) rfl ?_); at_builtin; refine app_list rfl (.tmp 47) (.tmp 52) rfl rfl rfl HR5.out ?_) | fail)
          obtain ⟨w6, hw6⟩ : ∃ wx, w5.setCell ⟨g, 1, none⟩ (.slice A5 (k + 1) d5) = wx := ⟨_, rfl⟩
          rw [hw6] at HM6 ⊢
          clear hw6 s5 f5 hl5 x1 w2 w3' w4
          obtain ⟨y, hy⟩ : ∃ y, at_ - bf = y := ⟨_, rfl⟩
          have w5' : IntKind.i64.wrap ((at_ : Int) - (bf : Int)) = (y : Int) := by rw [IntKind.wrap_i64]; omega
          have w6' : IntKind.u64.wrap (y : Int) = (y : Int) := by rw [IntKind.wrap_u64]; omega
          have HY := Aside0.mk hy
          have hy1 : y ≤ 4096 := by omega
          clear hy
          have HEL := Aside0.mk (show (pkE ts3 ++ [z]).length = k + 1 from by rw [List.length_append, HKL.out]; rfl)
          have x1 := HM6.out.p.c1
          go_upto_region 14 with fail
          refine start_ (n := 14) (S := fun w' => w'.cell? ⟨g, 1, none⟩ = some (.slice A5 (k + 1) d5)) (ds := [10, 13]) #[false, false, false, false, false, false, false, false, false, false, false, false, false, false] (by kernel_rfl) rfl rfl (x1) (fun hHeld => ?_)
          refine pure_ (i := 0) (N := some 56) (v := ?_) (a' := ?_) #[true, false, false, false, false, false, false, false, false, false, false, false, false, false] rfl rfl (by kernel_rfl) (fun _ _ _ h => h) (Or.inl ⟨by rfl, ?_⟩) ?_ ?_
          rotate_left
          · intro w'
            go_simp
            with_reducible rfl
          rotate_left
          · simp only [Act.put, List.setIfInBounds_toArray, List.set_cons_zero, List.set_cons_succ, i64_w, i32_w]
            rfl
          refine pure_ (i := 1) (N := some 57) (v := ?_) (a' := ?_) #[true, true, false, false, false, false, false, false, false, false, false, false, false, false] rfl rfl (by kernel_rfl) (fun _ _ _ h => h) (Or.inl ⟨by rfl, ?_⟩) ?_ ?_
          rotate_left
          · intro w'
            go_simp
            with_reducible rfl
          rotate_left
          · simp only [Act.put, List.setIfInBounds_toArray, List.set_cons_zero, List.set_cons_succ, i64_w, i32_w]
            rfl
          refine pure_ (i := 2) (N := some 58) (v := ?_) (a' := ?_) #[true, true, true, false, false, false, false, false, false, false, false, false, false, false] rfl rfl (by kernel_rfl) (fun _ _ _ h => h) (Or.inl ⟨by rfl, ?_⟩) ?_ ?_
          rotate_left
          · intro w'
            go_simp
            with_reducible rfl
          rotate_left
          · simp only [Act.put, List.setIfInBounds_toArray, List.set_cons_zero, List.set_cons_succ, i64_w, i32_w]
            rfl
          refine pure_ (i := 3) (N := some 59) (v := ?_) (a' := ?_) #[true, true, true, true, false, false, false, false, false, false, false, false, false, false] rfl rfl (by kernel_rfl) (fun _ _ _ h => h) (Or.inl ⟨by rfl, ?_⟩) ?_ ?_
          rotate_left
          · intro w'
            go_simp
            with_reducible rfl
          rotate_left
          · simp only [Act.put, List.setIfInBounds_toArray, List.set_cons_zero, List.set_cons_succ, i64_w, i32_w]
            rfl
          refine pure_ (i := 5) (N := some 61) (v := ?_) (a' := ?_) #[true, true, true, true, false, true, false, false, false, false, false, false, false, false] rfl rfl (by kernel_rfl) (fun _ _ _ h => h) (Or.inl ⟨by rfl, ?_⟩) ?_ ?_
          rotate_left
          · intro w'
            go_simp
            with_reducible rfl
          rotate_left
          · simp only [Act.put, List.setIfInBounds_toArray, List.set_cons_zero, List.set_cons_succ, i64_w, i32_w]
            rfl
          refine pure_ (i := 6) (N := some 62) (v := ?_) (a' := ?_) #[true, true, true, true, false, true, true, false, false, false, false, false, false, false] rfl rfl (by kernel_rfl) (fun _ _ _ h => h) (Or.inl ⟨by rfl, ?_⟩) ?_ ?_
          rotate_left
          · intro w'
            go_simp
            with_reducible rfl
          rotate_left
          · simp only [Act.put, List.setIfInBounds_toArray, List.set_cons_zero, List.set_cons_succ, i64_w, i32_w]
            rfl
          refine pure_ (i := 7) (N := some 63) (v := ?_) (a' := ?_) #[true, true, true, true, false, true, true, true, false, false, false, false, false, false] rfl rfl (by kernel_rfl) (fun _ _ _ h => h) (Or.inl ⟨by rfl, ?_⟩) ?_ ?_
          rotate_left
          · intro w'
            go_simp
            with_reducible rfl
          rotate_left
          · simp only [Act.put, List.setIfInBounds_toArray, List.set_cons_zero, List.set_cons_succ, i64_w, i32_w]
            rfl
          refine pure_ (i := 8) (N := some 64) (v := ?_) (a' := ?_) #[true, true, true, true, false, true, true, true, true, false, false, false, false, false] rfl rfl (by kernel_rfl) (fun _ _ _ h => h) (Or.inl ⟨by rfl, ?_⟩) ?_ ?_
          rotate_left
          · intro w'
            go_simp
            with_reducible rfl
          rotate_left
          · simp only [Act.put, List.setIfInBounds_toArray, List.set_cons_zero, List.set_cons_succ, i64_w, i32_w]
            rfl
          refine take_ (i := 4) (N := some 60) (v := ?_) (a' := ?_) #[true, true, true, true, true, true, true, true, true, false, false, false, false, false] rfl rfl (by kernel_rfl) (fun _ _ _ h => h) (Or.inl ⟨by rfl, ?_⟩) hHeld ?_ ?_
          rotate_left
          · intro w' s0
            go_simp
            with_reducible rfl
          rotate_left
          · simp only [Act.put, List.setIfInBounds_toArray, List.set_cons_zero, List.set_cons_succ, i64_w, i32_w]
            rfl
          refine one_ (i := 9) (N := some 65) #[true, true, true, true, true, true, true, true, true, true, false, false, false, false] rfl rfl (by kernel_rfl) (by decide) (fun K hK => ?_)
          refine goes_ Try.func87 (by kernel_rfl) rfl #[.int .u64 (y : Int), .int .i64 2] (by rfl) rfl rfl (by (try simp only [List.map_toArray, List.map_cons, List.map_nil]); first | done | rfl) ?_
          with_reducible refine (le_Bytes_calls (y : Int) 2 _ (by omega) (by omega)).mono ?_
          rintro e w7 ⟨v7, rfl, hR7, hb7⟩
          refine ⟨_, rfl, ?_⟩
          refine hK.out _ _ ((pw_cell_below hb7 hHeld)) (fun hHeld => ?_)
          clear hK K
          refine norm_ (a' := ?_) ?_ ?_
          rotate_left
          · show Act.put _ (some 65) _ = _
            simp only [Act.put, List.setIfInBounds_toArray, List.set_cons_zero, List.set_cons_succ, i64_w, i32_w]
            rfl
          refine last_ (i := 10) (N := some 66) #[true, true, true, true, true, true, true, true, true, true, true, false, false, false] rfl rfl (by kernel_rfl) (by decide) (fun K hK => ?_)
          have hm7 := (HM6.out.below (below_drew (Below.refl _ _))).below hb7
          rw [show leW 2 = 2 by decide] at hR7
          obtain ⟨A8, d8, w8, hr8, ho8, hk8, hv8⟩ := app8PR hm7.o (Own.rd (Own.of_R hR7)) HEL.out (leB_len _ _) hm7.b.size (by omega)
          refine app_step (by rfl) (.tmp 60) (.tmp 65) rfl rfl rfl hr8 ?_
          refine hK.out _ _ ?_
          clear hK K
          refine norm_ (a' := ?_) ?_ ?_
          rotate_left
          · show Act.put _ (some 66) _ = _
            simp only [Act.put, List.setIfInBounds_toArray, List.set_cons_zero, List.set_cons_succ, i64_w, i32_w]
            rfl
          refine pure_ (i := 11) (N := some 67) (v := ?_) (a' := ?_) #[true, true, true, true, true, true, true, true, true, true, true, true, false, false] rfl rfl (by kernel_rfl) (fun _ _ _ h => h) (Or.inl ⟨by rfl, ?_⟩) ?_ ?_
          rotate_left
          · intro w'
            go_simp
            with_reducible rfl
          rotate_left
          · simp only [Act.put, List.setIfInBounds_toArray, List.set_cons_zero, List.set_cons_succ, i64_w, i32_w]
            rfl
          refine pure_ (i := 12) (N := some 68) (v := ?_) (a' := ?_) #[true, true, true, true, true, true, true, true, true, true, true, true, true, false] rfl rfl (by kernel_rfl) (fun _ _ _ h => h) (Or.inl ⟨by rfl, ?_⟩) ?_ ?_
          rotate_left
          · intro w'
            go_simp
            with_reducible rfl
          rotate_left
          · simp only [Act.put, List.setIfInBounds_toArray, List.set_cons_zero, List.set_cons_succ, i64_w, i32_w]
            rfl
          refine last_ (i := 13) (N := none) #[true, true, true, true, true, true, true, true, true, true, true, true, true, true] rfl rfl (by kernel_rfl) (by decide) (fun K hK => ?_)
          have hz8 := hk8.blk hm7.p hm7.og
          have s8 : w8.cell? ⟨g, 1, none⟩ = some (.slice A5 (k + 1) d5) := blk_cell hz8 1
          have f8 := blk_frozen hz8 1
          refine skip_ (w1 := ?_) (by rfl) rfl ?_ ?_
          rotate_left
          · go_simp
            rfl
          refine hK.out _ _ ?_
          clear hK K
          refine done_ (by kernel_rfl) ?_
          have HM9 := Aside0.mk (hm7.out B4.out ho8 hk8)
          obtain ⟨w9, hw9⟩ : ∃ wx, w8.setCell ⟨g, 1, none⟩ (.slice A8 (k + 1 + 2) d8) = wx := ⟨_, rfl⟩
          rw [hw9] at HM9 ⊢
          clear hw9 hz8 s8 f8 ho8 hk8 hv8 hr8 hm7 hR7 hb7 x1 w5' w6' HM6
          have HTS := Aside0.mk (show (pkE ts3 ++ [z]) ++ leB (y : Int) 2 = pkE (ts3 ++ [⟨at_ - bf, n, []⟩]) from by
            rw [pkE_snoc, enc_run (by omega), HY.out, ← HZV.out, show (128 + (n : Int) - 4) = ((124 + n : Nat) : Int) by omega]; simp)
          rw [HTS.out] at HM9
          go_upto_block 2 with (fail)
          go_cut [5] (fun v5 wx => ∃ a : Nat, v5 = .int .i64 (a : Int) ∧ Aside0 (a = at_ + n) ∧ Aside0 (PkMem w wx g bm l N (.slice A0 N c0) (.slice A8 (k + 1 + 2) d8) (at_ : Int) (pkE (ts3 ++ [⟨at_ - bf, n, []⟩])) a))
          case first =>
            go_wp2_with fail
            go_loopw [5, 70] (fun v5 v70 w' => ∃ i a : Nat, v5 = .int .i64 (a : Int) ∧ v70 = .int .i64 (i : Int) ∧ i ≤ n ∧ Aside0 (a = at_ + i) ∧ Aside0 (PkMem w w' g bm l N (.slice A0 N c0) (.slice A8 (k + 1 + 2) d8) (at_ : Int) (pkE (ts3 ++ [⟨at_ - bf, n, []⟩])) a)) (fun _ v70 _ => n - (intOf v70).toNat)
            case atStart => exact ⟨0, at_, rfl, rfl, Nat.zero_le _, Aside0.mk rfl, HM9⟩
            case round =>
              obtain ⟨i, a, rfl, rfl, hi, hai, HMI⟩ := hrel
              by_cases c4 : i < n
              · have g4 : decide ((i : Int) < (n : Int)) = true := decide_eq_true (by omega)
                have hal : a ≤ N := by have := hai.out; omega
                have HNC := Aside0.mk (pkNote_calls wr g bm l _ _ _ B a N HMI.out.p HMI.out.h (HR.out.below HMI.out.b) HIB.out HBN.out (by omega) (by have := hai.out; omega) B4.out.bl B4.out.gl B4.out.gb)
                go_wp2_with fail
                with_reducible refine HNC.out.mono ?_
                rintro e w3 ⟨rfl, hh, hk⟩
                have HM3 := Aside0.mk (HMI.out.note B4.out hh hk)
                clear hh hk
                go_wp2_with fail
                go_roundw
                case rel => exact ⟨i + 1, a + 1, by go_num, by go_num, by omega, Aside0.mk (by have := hai.out; omega), HM3⟩
                case measure => simp [intOf] <;> omega
              · have g4 : decide ((i : Int) < (n : Int)) = false := decide_eq_false (by omega)
                obtain rfl : i = n := by omega
                go_wp2_with fail
                go_meet
                exact ⟨a, rfl, hai, HMI⟩
          case rest =>
          obtain ⟨a, rfl, ha, HM10⟩ := hcut
          have HM11 := Aside0.mk (HM10.out.plain B4.out (a : Int))
          have x4 := HM10.out.p.c4
          have f4 := blk_frozen HM10.out.p 4
          have hl4 : g < wc.heap.size := blk_lt HM10.out.p
          have HS11 := Aside0.mk (show PkS B (ts3 ++ [⟨at_ - bf, n, []⟩]) a from by rw [ha.out]; exact HS3.out.run hf1 hf2 (by omega) hn1 (by rw [HBN.out]; exact hn2) hf3.out)
          have HZ11 := Aside0.mk (show szI (pkE (ts3 ++ [⟨at_ - bf, n, []⟩])).length a 0 from by
            have h1 := HZ3.out.run (n := n) (by omega)
            have h2 : (pkE (ts3 ++ [⟨at_ - bf, n, []⟩])).length = (pkE ts3).length + 3 := by rw [← HTS.out, List.length_append, List.length_append, leB_len]; rfl
            rw [h2, ha.out]; exact h1)
          go_wp2_with fail
          obtain ⟨w11, hw11⟩ : ∃ wx, wc.setCell ⟨g, 4, none⟩ (.int .i64 (a : Int)) = wx := ⟨_, rfl⟩
          rw [hw11] at HM11 ⊢
          clear hw11 x4 f4 hl4 HM10
          go_roundw
          case rel => exact ⟨a, _, _, a, rfl, by have := ha.out; omega, Nat.le_refl _, HM11, HS11, HZ11⟩
          case measure => have := ha.out; simp [intOf] <;> omega
      · have g1 : decide ((at_ : Int) < (N : Int)) = false := decide_eq_false (by omega)
        obtain rfl : at_ = N := by omega
        go_wp2_with fail
        go_meet
        exact ⟨vo, ts, p, HM, HS, HZ⟩
  case rest =>
  obtain ⟨vo, ts, p, HM, HS, HZ⟩ := hcut
  have hp := HS.out.le
  rw [HBN.out] at hp
  have HFC := Aside0.mk (pkFlush_calls w wc g _ vo _ _ B ts p N N HM.out.p HM.out.o HS.out HZ.out HR.out HM.out.b B4.out.g0 HIB.out HBN.out (by omega) hp (Nat.le_refl _))
  go_wp2_with fail
  with_reducible refine HFC.out.mono ?_
  rintro e w3 ⟨rfl, q, hq⟩
  obtain ⟨v3, ts3, hm3, hs3, hz3⟩ := HM.out.flush B4.out hq
  have HM3 := Aside0.mk hm3
  have HS3 := Aside0.mk hs3
  have HZ3 := Aside0.mk hz3
  clear hq hm3 hs3 hz3
  have x1 := HM3.out.p.c1
  go_wp2_with fail
  go_ret2
  exact ⟨_, _, rfl, HM3.out.o, HS3.out.ok, by rw [HS3.out.x, ← HBN.out, List.take_length], HZ3.out.last, HM3.out.b⟩
end Go.Proofs.Ytigdchfjcfljjaa
