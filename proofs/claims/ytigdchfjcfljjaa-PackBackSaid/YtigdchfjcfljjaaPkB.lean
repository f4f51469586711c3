/- The packer: the longest run ahead. -/
import Derived.Test.YtigdchfjcfljjaaPkA
import Derived.Maps.Views
namespace Go.Proofs.Ytigdchfjcfljjaa
open Go.RowKit Go.Proofs.YtigdchfjcfljjaaW.PrintWords Go.Proofs.YtigdchfjcfljjaaW.PrintLast Go.Proofs.YtigdchfjcfljjaaW.PrintMore
open Go.Maps (Keyed int_keyed keyOf_int_mk has IsMap atKey_put_same)
attribute [local go_sem] max2_int min2_int max_two min_two max_three min_three max_four min_four   -- for this text's walks alone
set_option linter.unusedVariables false
set_option linter.unusedSimpArgs false

theorem look_if {P : Program} {ops : Array Oper} {o : Oper} {a : Act} {W : World} {Q : Exit → Act → World → Prop} {Kc : Act → World → Prop} (hw : Region.wanted o (yielded ops a.tmps) = true) {t : TypeId} {m x : Operand} (ho : o.op = .lookup t m x true) {vm key v : Value} (hm : a.eval m = vm) (hx : a.eval x = key)
    (hr : (Instr.lookup t vm key true).run P W = .ok v W) (h : Kc (a.put o.dst v) W) : if Region.wanted o (yielded ops a.tmps) = true then Oper.wp P o a W Kc Q else Kc (a.put o.dst undef) W := by
  rw [if_pos hw]
  unfold Oper.wp
  simp [execOp, ho, hm, hx, hr, Result.andThen]
  exact h
/-- The packer's map: places ahead. -/
def MpV (W : World) (b n : Nat) (D : DataW Unit) : Prop := W.ownsMap Try.prog 154 (plainElem Try.prog 3) b n D
def MInv (D : DataW Unit) (m : Nat) : Prop := IsMap D ∧ ∀ (kl : Lit) (c : Int), has D kl = true → D.atKey kl (.lit (.int .i64 0)) = .lit (.int .i64 c) → 0 ≤ c ∧ c < m
theorem MpV.below {W W1 : World} {b n : Nat} {D : DataW Unit} (h : MpV W b n D) (hb : Below W.heap.size W W1) : MpV W1 b n D := by
  have hlt := World.ownsMap.lt h
  obtain ⟨es, clock, h1, F, hs, hD⟩ := h
  exact ⟨es, clock, (hb.block b hlt).trans h1, F, hs, hD⟩
theorem kyB_wf (B : List Int) (a : Int) : (Lit.int .u32 (kyB B a)).wf = true := by
  have h0 : 0 ≤ kyB B a := Int.emod_nonneg _ (by decide)
  have h1 : kyB B a < 4294967296 := Int.emod_lt_of_pos _ (by decide)
  simp [Lit.wf, IntKind.min, IntKind.max, IntKind.signed, IntKind.bits]
  omega
theorem MpV.look {W : World} {b n : Nat} {D : DataW Unit} {m : Nat} (h : MpV W b n D) (hi : MInv D m) (B : List Int) (a : Int) :
    ∃ (c : Int) (k : Bool), (Instr.lookup 146 (.map (some b)) (.int .u32 (kyB B a)) true).run Try.prog W = .ok (.tuple #[.int .i64 c, .bool k]) W ∧ (k = true → 0 ≤ c ∧ c < m) := by
  have hz : (zeroValue 3).run Try.prog W = .ok (.int .i64 0) W := by kernel_rfl
  obtain ⟨v, ps, hrun, hv⟩ := World.ownsMap.look_ok h (int_keyed Try.underlying154) Try.underlying146 hz (plainElem_int Try.underlying3 (by decide)) (keyOf_int_mk Try.underlying154 (kyB_wf B a))
  obtain ⟨c, rfl, hc, hw⟩ := plainElem_int_inv Try.underlying3 hv
  exact ⟨c, _, hrun, fun hk => hi.2 _ c hk (congrArg Prod.fst hc)⟩
theorem PkV.c0 {W : World} {g : Nat} {vb vo vm vl : Value} {pl : Int} (h : PkV W g vb vo vm vl pl) : W.cell? ⟨g, 0, none⟩ = some vb := blk_cell h 0
theorem PkV.c1 {W : World} {g : Nat} {vb vo vm vl : Value} {pl : Int} (h : PkV W g vb vo vm vl pl) : W.cell? ⟨g, 1, none⟩ = some vo := blk_cell h 1
theorem PkV.c2 {W : World} {g : Nat} {vb vo vm vl : Value} {pl : Int} (h : PkV W g vb vo vm vl pl) : W.cell? ⟨g, 2, none⟩ = some vm := blk_cell h 2
theorem PkV.c3 {W : World} {g : Nat} {vb vo vm vl : Value} {pl : Int} (h : PkV W g vb vo vm vl pl) : W.cell? ⟨g, 3, none⟩ = some vl := blk_cell h 3
theorem PkV.c4 {W : World} {g : Nat} {vb vo vm vl : Value} {pl : Int} (h : PkV W g vb vo vm vl pl) : W.cell? ⟨g, 4, none⟩ = some (.int .i64 pl) := blk_cell h 4
/-- The packer's links: each to a place ahead. -/
def LkV (W : World) (l : Nat) (LK : List Int) : Prop := W.heap[l]? = some (.cells (nums .i64 LK).toArray 3 (0, 0))
def LInv (LK : List Int) : Prop := ∀ j, j < LK.length → -1 ≤ LK.getD j 0 ∧ LK.getD j 0 ≤ j
theorem LkV.below {W W1 : World} {l : Nat} {LK : List Int} (h : LkV W l LK) (hb : Below W.heap.size W W1) : LkV W1 l LK := blk_below h hb
theorem LkV.cell {W : World} {l : Nat} {LK : List Int} (h : LkV W l LK) (k : Nat) (hk : k < LK.length) : W.cell? ⟨l, k, none⟩ = some (.int .i64 (LK.getD k 0)) := by
  have h1 := blk_cell h k
  rw [h1]
  simp [nums, List.getD_eq_getElem?_getD, List.getElem?_eq_getElem hk]
structure PkFd (B : List Int) (at_ bf n : Nat) : Prop where
  n1 : n ≤ 130
  le : at_ + n ≤ B.length
  e : n = 0 ∨ (bf < at_ ∧ at_ - bf ≤ 4096 ∧ ∀ i, i < n → B.getD (bf + i) 0 = B.getD (at_ + i) 0)

set_option maxHeartbeats 8000000 in
set_option maxRecDepth 100000 in
theorem pkFind_calls (w : World) (g bm l nm : Nat) (vb vo : Value) (pl : Int) (B LK : List Int) (D : DataW Unit) (at_ N : Nat) (H : PkV w g vb vo (.map (some bm)) (.slice (some ⟨l, 0, none⟩) N N) pl) (hm : MpV w bm nm D) (hi : MInv D at_) (hl : LkV w l LK) (hln : LK.length = N) (hli : LInv LK)
    (hr : Rd w .u8 vb B) (hib : isB B) (hBN : B.length = N) (ha : at_ + 4 ≤ N) (hN : N ≤ 1000000) :
    Calls Try.prog 84 #[.pointer (some ⟨g, 0, none⟩), .int .i64 (at_ : Int)] w fun e w' => ∃ bf n : Nat, e = .returned (.tuple #[.int .i64 (bf : Int), .int .i64 (n : Int)]) ∧ PkFd B at_ bf n ∧ Below w.heap.size w w' := by
  have HR := Aside0.mk hr
  have HIB := Aside0.mk hib
  have HM := Aside0.mk hm
  have HI := Aside0.mk hi
  have HL := Aside0.mk hl
  have HLN := Aside0.mk hln
  have HLI := Aside0.mk hli
  have HBN := Aside0.mk hBN
  have HP := Aside0.mk H
  clear hr hib H hm hi hl hln hli hBN
  go_enter Try.func84, Try.ntmps84
  have x0 : w.cell? ⟨g, 2, none⟩ = some (.map (some bm)) := blk_cell HP.out 2
  go_upto_region 2 with fail
  refine start_ (n := 13) (S := fun w' => w'.cell? ⟨g, 2, none⟩ = some (.map (some bm)) ∧ Below w.heap.size w w') (ds := []) #[false, false, false, false, false, false, false, false, false, false, false, false, false] (by kernel_rfl) rfl rfl ⟨x0, below_drew (Below.refl _ _)⟩ (fun hHeld => ?_)
  refine pure_ (i := 0) (N := some 13) (v := ?_) (a' := ?_) #[true, false, false, false, false, false, false, false, false, false, false, false, false] rfl rfl (by kernel_rfl) (fun _ _ _ h => h) (Or.inl ⟨by rfl, ?_⟩) ?_ ?_
  rotate_left
  · intro w'
    go_simp
    with_reducible rfl
  rotate_left
  · simp only [Act.put, List.setIfInBounds_toArray, List.set_cons_zero, List.set_cons_succ, i64_w, i32_w]
    rfl
  refine pure_ (i := 1) (N := some 14) (v := ?_) (a' := ?_) #[true, true, false, false, false, false, false, false, false, false, false, false, false] rfl rfl (by kernel_rfl) (fun _ _ _ h => h) (Or.inl ⟨by rfl, ?_⟩) ?_ ?_
  rotate_left
  · intro w'
    go_simp
    with_reducible rfl
  rotate_left
  · simp only [Act.put, List.setIfInBounds_toArray, List.set_cons_zero, List.set_cons_succ, i64_w, i32_w]
    rfl
  refine pure_ (i := 2) (N := some 15) (v := ?_) (a' := ?_) #[true, true, true, false, false, false, false, false, false, false, false, false, false] rfl rfl (by kernel_rfl) (fun _ _ _ h => h) (Or.inl ⟨by rfl, ?_⟩) ?_ ?_
  rotate_left
  · intro w'
    go_simp
    with_reducible rfl
  rotate_left
  · simp only [Act.put, List.setIfInBounds_toArray, List.set_cons_zero, List.set_cons_succ, i64_w, i32_w]
    rfl
  refine pure_ (i := 4) (N := some 17) (v := ?_) (a' := ?_) #[true, true, true, false, true, false, false, false, false, false, false, false, false] rfl rfl (by kernel_rfl) (fun _ _ _ h => h) (Or.inl ⟨by rfl, ?_⟩) ?_ ?_
  rotate_left
  · intro w'
    go_simp
    with_reducible rfl
  rotate_left
  · simp only [Act.put, List.setIfInBounds_toArray, List.set_cons_zero, List.set_cons_succ, i64_w, i32_w]
    rfl
  refine pure_ (i := 5) (N := some 18) (v := ?_) (a' := ?_) #[true, true, true, false, true, true, false, false, false, false, false, false, false] rfl rfl (by kernel_rfl) (fun _ _ _ h => h) (Or.inl ⟨by rfl, ?_⟩) ?_ ?_
  rotate_left
  · intro w'
    go_simp
    with_reducible rfl
  rotate_left
  · simp only [Act.put, List.setIfInBounds_toArray, List.set_cons_zero, List.set_cons_succ, i64_w, i32_w]
    rfl
  refine take_ (i := 3) (N := some 16) (v := ?_) (a' := ?_) #[true, true, true, true, true, true, false, false, false, false, false, false, false] rfl rfl (by kernel_rfl) (fun _ _ _ h => h) (Or.inl ⟨by rfl, ?_⟩) hHeld ?_ ?_
  rotate_left
  · rintro w' ⟨s0, s1⟩
    go_simp
    with_reducible rfl
  rotate_left
  · simp only [Act.put, List.setIfInBounds_toArray, List.set_cons_zero, List.set_cons_succ, i64_w, i32_w]
    rfl
  refine one_ (i := 6) (N := some 19) #[true, true, true, true, true, true, true, false, false, false, false, false, false] rfl rfl (by kernel_rfl) (by decide) (fun K hK => ?_)
  refine goes_ Try.func140 (by kernel_rfl) rfl #[.pointer (some ⟨g, 0, none⟩), .int .i64 (at_ : Int)] (by rfl) rfl rfl (by (try simp only [List.map_toArray, List.map_cons, List.map_nil]); first | done | rfl) ?_
  with_reducible refine (pkKey_calls _ g vb vo _ _ pl B (at_ : Int) (HP.out.below hHeld.2) (HR.out.below hHeld.2) HIB.out).mono ?_
  rintro v w3 ⟨rfl, hb3⟩
  refine ⟨_, rfl, ?_⟩
  refine hK.out _ _ ⟨(pw_cell_below hb3 hHeld.1), below_step hHeld.2 hb3⟩ (fun hHeld => ?_)
  clear hK K
  refine norm_ (a' := ?_) ?_ ?_
  rotate_left
  · show Act.put _ (some 19) _ = _
    simp only [Act.put, List.setIfInBounds_toArray, List.set_cons_zero, List.set_cons_succ, i64_w, i32_w]
    rfl
  refine one_ (i := 7) (N := some 20) #[true, true, true, true, true, true, true, true, false, false, false, false, false] rfl rfl (by kernel_rfl) (by decide) (fun K hK => ?_)
  obtain ⟨c, kk, hrun, hck⟩ := (HM.out.below hHeld.2).look HI.out B (at_ : Int)
  refine look_if (by rfl) rfl rfl rfl hrun ?_
  refine hK.out _ _ ⟨hHeld.1, hHeld.2⟩ (fun hHeld => ?_)
  clear hK K
  refine norm_ (a' := ?_) ?_ ?_
  rotate_left
  · show Act.put _ (some 20) _ = _
    simp only [Act.put, List.setIfInBounds_toArray, List.set_cons_zero, List.set_cons_succ, i64_w, i32_w]
    rfl
  refine pure_ (i := 8) (N := some 12) (v := ?_) (a' := ?_) #[true, true, true, true, true, true, true, true, true, false, false, false, false] rfl rfl (by kernel_rfl) (fun _ _ _ h => h) (Or.inl ⟨by rfl, ?_⟩) ?_ ?_
  rotate_left
  · intro w'
    go_simp
    with_reducible rfl
  rotate_left
  · simp only [Act.put, List.setIfInBounds_toArray, List.set_cons_zero, List.set_cons_succ, i64_w, i32_w]
    rfl
  refine pure_ (i := 9) (N := some 21) (v := ?_) (a' := ?_) #[true, true, true, true, true, true, true, true, true, true, false, false, false] rfl rfl (by kernel_rfl) (fun _ _ _ h => h) (Or.inl ⟨by rfl, ?_⟩) ?_ ?_
  rotate_left
  · intro w'
    go_simp
    with_reducible rfl
  rotate_left
  · simp only [Act.put, List.setIfInBounds_toArray, List.set_cons_zero, List.set_cons_succ, i64_w, i32_w]
    rfl
  refine pure_ (i := 10) (N := some 22) (v := ?_) (a' := ?_) #[true, true, true, true, true, true, true, true, true, true, true, false, false] rfl rfl (by kernel_rfl) (fun _ _ _ h => h) (Or.inl ⟨by rfl, ?_⟩) ?_ ?_
  rotate_left
  · intro w'
    go_simp
    with_reducible rfl
  rotate_left
  · simp only [Act.put, List.setIfInBounds_toArray, List.set_cons_zero, List.set_cons_succ, i64_w, i32_w]
    rfl
  refine pure_ (i := 11) (N := some 8) (v := ?_) (a' := ?_) #[true, true, true, true, true, true, true, true, true, true, true, true, false] rfl rfl (by kernel_rfl) (fun _ _ _ h => h) (Or.inl ⟨by rfl, ?_⟩) ?_ ?_
  rotate_left
  · intro w'
    go_simp
    with_reducible rfl
  rotate_left
  · simp only [Act.put, List.setIfInBounds_toArray, List.set_cons_zero, List.set_cons_succ, i64_w, i32_w]
    rfl
  refine pure_ (i := 12) (N := some 9) (v := ?_) (a' := ?_) #[true, true, true, true, true, true, true, true, true, true, true, true, true] rfl rfl (by kernel_rfl) (fun _ _ _ h => h) (Or.inl ⟨by rfl, ?_⟩) ?_ ?_
  rotate_left
  · intro w'
    go_simp
    with_reducible rfl
  rotate_left
  · simp only [Act.put, List.setIfInBounds_toArray, List.set_cons_zero, List.set_cons_succ, i64_w, i32_w]
    rfl
  refine done_ (by kernel_rfl) ?_
  have HB1 := Aside0.mk hHeld.2
  clear hHeld x0 hrun
  have HCK := Aside0.mk hck
  clear hck
  go_upto_block 0 with (fail)
  go_cut [6, 7] (fun v6 v7 wx => ∃ bf n : Nat, v6 = .int .i64 (bf : Int) ∧ v7 = .int .i64 (n : Int) ∧ Aside0 (PkFd B at_ bf n) ∧ Aside0 (Below w.heap.size w wx))
  case first =>
    go_wp2_with fail
    go_loopw [6, 7, 8, 9, 10] (fun v6 v7 v8 v9 v10 w' => ∃ (bf n : Nat) (c : Int) (k : Bool) (t : Nat), v6 = .int .i64 (bf : Int) ∧ v7 = .int .i64 (n : Int) ∧ v8 = .int .i64 c ∧ v9 = .bool k ∧ v10 = .int .i64 (t : Int) ∧ t ≤ 32 ∧ Aside0 (PkFd B at_ bf n) ∧ (k = true → 0 ≤ c ∧ c < at_) ∧ Aside0 (Below w.heap.size w w')) (fun _ _ _ _ v10 _ => 32 - (intOf v10).toNat)
    case atStart => exact ⟨0, 0, c, kk, 0, rfl, rfl, rfl, rfl, rfl, by omega, Aside0.mk ⟨by omega, by have := HBN.out; omega, .inl rfl⟩, HCK.out, HB1⟩
    case round =>
      obtain ⟨bf, n, c, k, t, rfl, rfl, rfl, rfl, rfl, ht, HE, hk, HB⟩ := hrel
      cases k with
      | false =>
        go_wp2_with fail
        go_meet
        exact ⟨bf, n, rfl, rfl, HE, HB⟩
      | true =>
        obtain ⟨k0, k1⟩ := hk rfl
        obtain ⟨f, rfl⟩ := Int.eq_ofNat_of_zero_le k0
        clear hk
        have w1 : IntKind.i64.wrap ((at_ : Int) - (f : Int)) = (at_ : Int) - (f : Int) := by rw [IntKind.wrap_i64]; omega
        by_cases q1 : at_ - f ≤ 4096
        · have g1 : decide ((at_ : Int) - (f : Int) ≤ 4096) = true := decide_eq_true (by omega)
          by_cases q2 : t < 32
          · have g2 : decide ((t : Int) < 32) = true := decide_eq_true (by omega)
            go_wp2_with fail
            clear w1 g1 g2
            with_reducible refine (pkSame_calls _ g vb vo _ _ pl B f at_ (HP.out.below HB.out) (HR.out.below HB.out) HIB.out (by omega) (by rw [HBN.out]; omega) (by rw [HBN.out]; omega)).mono ?_
            rintro e w2 ⟨m, rfl, hm1, hm2, hm3, hb⟩
            have HB2 := Aside0.mk (below_step HB.out hb)
            have HM3 := Aside0.mk hm3
            have HM2 := Aside0.mk hm2
            clear hb hm3 hm2
            obtain ⟨x, hx⟩ : ∃ x, LK.getD f 0 = x := ⟨_, rfl⟩
            have hx2 := HLI.out f (by rw [HLN.out]; omega)
            rw [hx] at hx2
            by_cases q3 : n < m
            · have g3 : decide ((n : Int) < (m : Int)) = true := decide_eq_true (by omega)
              have HD2 := Aside0.mk (show PkFd B at_ f m from ⟨hm1, HM2.out, .inr ⟨by omega, q1, HM3.out⟩⟩)
              have y0 : w2.cell? ⟨g, 3, none⟩ = some (.slice (some ⟨l, 0, none⟩) N N) := blk_cell (HP.out.below HB2.out) 3
              have y1 := (HL.out.below HB2.out).cell f (by rw [HLN.out]; omega)
              rw [hx] at y1
              go_wp2_with fail
              go_roundw
              case rel => exact ⟨f, m, x, decide (0 ≤ x), t + 1, rfl, rfl, rfl, by simp, by go_num, by omega, HD2, fun h => ⟨of_decide_eq_true h, by omega⟩, HB2⟩
              case measure => simp [intOf] <;> omega
            · have g3 : decide ((n : Int) < (m : Int)) = false := decide_eq_false (by omega)
              have HD2 := Aside0.mk (HE.out)
              have y0 : w2.cell? ⟨g, 3, none⟩ = some (.slice (some ⟨l, 0, none⟩) N N) := blk_cell (HP.out.below HB2.out) 3
              have y1 := (HL.out.below HB2.out).cell f (by rw [HLN.out]; omega)
              rw [hx] at y1
              go_wp2_with fail
              go_roundw
              case rel => exact ⟨bf, n, x, decide (0 ≤ x), t + 1, rfl, rfl, rfl, by simp, by go_num, by omega, HD2, fun h => ⟨of_decide_eq_true h, by omega⟩, HB2⟩
              case measure => simp [intOf] <;> omega
          · have g2 : decide ((t : Int) < 32) = false := decide_eq_false (by omega)
            go_wp2_with fail
            go_meet
            exact ⟨bf, n, rfl, rfl, HE, HB⟩
        · have g1 : decide ((at_ : Int) - (f : Int) ≤ 4096) = false := decide_eq_false (by omega)
          go_wp2_with fail
          go_meet
          exact ⟨bf, n, rfl, rfl, HE, HB⟩
  case rest =>
  obtain ⟨bf, n, rfl, rfl, HE, HB⟩ := hcut
  go_wp2_with fail
  go_ret2
  exact ⟨bf, n, rfl, HE.out, HB.out⟩
theorem MInv.mono {D : DataW Unit} {m m1 : Nat} (h : MInv D m) (hm : m ≤ m1) : MInv D m1 := ⟨h.1, fun kl c hk hc => by have := h.2 kl c hk hc; omega⟩
theorem MInv.put {D : DataW Unit} {m : Nat} (h : MInv D m) (B : List Int) (a : Int) : MInv (D.put (.int .u32 (kyB B a)) (.lit (.int .i64 (m : Int)))) (m + 1) := by
  refine ⟨h.1.put _ _, fun kl c hk hc => ?_⟩
  by_cases e : kl = .int .u32 (kyB B a)
  · subst e
    rw [atKey_put_same h.1 (by trivial)] at hc
    injection hc with hc
    injection hc with _ hc
    omega
  · rw [Go.Maps.atKey_put_other e] at hc
    rw [Go.Maps.has_put_other e] at hk
    have := h.2 kl c hk hc
    omega
theorem LkV.set {W : World} {l : Nat} {LK : List Int} (h : LkV W l LK) (k : Nat) (x : Int) : LkV (W.setCell ⟨l, k, none⟩ (.int .i64 x)) l (LK.set k x) := by
  have h1 := blk_set h k (.int .i64 x)
  rw [LkV, h1]
  simp [nums, List.map_set]
theorem LInv.set {LK : List Int} (h : LInv LK) (k : Nat) (x : Int) (h0 : -1 ≤ x) (h1 : x ≤ k) : LInv (LK.set k x) := fun j hj => by
  rw [List.length_set] at hj
  rw [List.getD_eq_getElem?_getD, List.getElem?_set]
  split
  · rename_i e
    subst e
    rw [if_pos hj]
    exact ⟨h0, h1⟩
  · have := h j hj
    rwa [List.getD_eq_getElem?_getD] at this
/-- The packer's map and links: places ahead. -/
def PkH (W : World) (bm l at_ N : Nat) : Prop := ∃ (nm : Nat) (D : DataW Unit) (LK : List Int), nm ≤ at_ ∧ MpV W bm nm D ∧ MInv D at_ ∧ LkV W l LK ∧ LK.length = N ∧ LInv LK
theorem MpV.kp {W W1 : World} {b n : Nat} {D : DataW Unit} {S : Nat → Prop} (h : MpV W b n D) (hk : Kp S W W1) (hn : ¬ S b) : MpV W1 b n D := by
  have hlt := World.ownsMap.lt h
  obtain ⟨es, clock, h1, F, hs, hD⟩ := h
  exact ⟨es, clock, (hk.block b hlt hn).trans h1, F, hs, hD⟩
theorem PkH.kp {W W1 : World} {bm l at_ N : Nat} {S : Nat → Prop} (h : PkH W bm l at_ N) (hk : Kp S W W1) (hn : ¬ S bm) (hn2 : ¬ S l) : PkH W1 bm l at_ N := by
  obtain ⟨nm, D, LK, h1, h2, h3, h4, h5, h6⟩ := h
  exact ⟨nm, D, LK, h1, h2.kp hk hn, h3, hk.blk h4 hn2, h5, h6⟩
theorem PkH.below {W W1 : World} {bm l at_ N : Nat} (h : PkH W bm l at_ N) (hb : Below W.heap.size W W1) : PkH W1 bm l at_ N := h.kp (Kp.of_below hb (fun _ => False)) (fun h => h) (fun h => h)
theorem MpV.ne {W : World} {b n g t : Nat} {D : DataW Unit} {cs : Array Value} (h : MpV W b n D) (hg : W.heap[g]? = some (.cells cs t (0, 0))) : b ≠ g := fun e => by
  subst e
  obtain ⟨es, clock, h1, _⟩ := h
  rw [h1] at hg
  injection hg with hg
  cases hg
set_option maxHeartbeats 8000000 in
set_option maxRecDepth 100000 in
theorem pkNote_calls (w : World) (g bm l : Nat) (vb vo : Value) (pl : Int) (B : List Int) (at_ N : Nat) (H : PkV w g vb vo (.map (some bm)) (.slice (some ⟨l, 0, none⟩) N N) pl) (hh : PkH w bm l at_ N)
    (hr : Rd w .u8 vb B) (hib : isB B) (hBN : B.length = N) (hN : N ≤ 1000000) (ha : at_ ≤ N) (hbl : bm ≠ l) (hgl : g ≠ l) (hgb : g ≠ bm) :
    Calls Try.prog 85 #[.pointer (some ⟨g, 0, none⟩), .int .i64 (at_ : Int)] w fun e w' => e = .returned (.tuple #[]) ∧ PkH w' bm l (at_ + 1) N ∧ Kp (fun k => k = l ∨ k = bm) w w' := by
  have HR := Aside0.mk hr
  have HIB := Aside0.mk hib
  have HBN := Aside0.mk hBN
  have HP := Aside0.mk H
  obtain ⟨A0, c0, ev, hcap, hm, _⟩ := hr.mid
  subst ev
  rw [hBN] at hr hm hcap
  obtain ⟨nm, D, LK, hnm, hm, hi, hl, hln, hli⟩ := hh
  have HM := Aside0.mk hm
  have HI := Aside0.mk hi
  have HL := Aside0.mk hl
  have HLN := Aside0.mk hln
  have HLI := Aside0.mk hli
  clear hr hib H hm hi hl hln hli
  go_enter Try.func85, Try.ntmps85
  have x0 : w.cell? ⟨g, 0, none⟩ = some (.slice A0 N c0) := by rw [← hBN]; exact blk_cell HP.out 0
  clear hBN
  have w1 : IntKind.i64.wrap ((at_ : Int) + 4) = (at_ : Int) + 4 := by rw [IntKind.wrap_i64]; omega
  by_cases q1 : N < at_ + 4
  · have g1 : decide ((N : Int) < (at_ : Int) + 4) = true := decide_eq_true (by omega)
    go_wp2_with fail
    refine bodyPost_ret (results_none rfl _ _ _) rfl ?_
    exact ⟨rfl, ⟨nm, D, LK, by omega, HM.out, HI.out.mono (by omega), HL.out, HLN.out, HLI.out⟩, Kp.refl _ _⟩
  · have g1 : decide ((N : Int) < (at_ : Int) + 4) = false := decide_eq_false (by omega)
    go_wp2_with fail
    with_reducible refine (pkKey_calls _ g (.slice A0 B.length c0) vo _ _ pl B (at_ : Int) HP.out HR.out HIB.out).mono ?_
    rintro e w2 ⟨rfl, hb⟩
    have HB2 := Aside0.mk hb
    have hl2 := HL.out.below hb
    have HL2 := Aside0.mk hl2
    have HM2 := Aside0.mk (HM.out.below hb)
    have HP2 := Aside0.mk (HP.out.below hb)
    have y3 : w2.cell? ⟨g, 3, none⟩ = some (.slice (some ⟨l, 0, none⟩) N N) := blk_cell (HP.out.below hb) 3
    have y4 := hl2.cell at_ (by rw [HLN.out]; omega)
    have y5 := blk_frozen hl2 at_
    have hlt2 : l < w2.heap.size := blk_lt hl2
    clear hb hl2 w1 g1
    obtain ⟨y, hy⟩ : ∃ y, LK.getD at_ 0 = y := ⟨_, rfl⟩
    rw [hy] at y4
    clear hy
    go_upto_region 3 with fail
    have HK3 := Aside0.mk (show Kp (fun k => k = l ∨ k = bm) w (w2.setCell ⟨l, at_, none⟩ (.int .i64 (-1))) from (Kp.of_below HB2.out _).trans (Kp.set w2 ⟨l, at_, none⟩ (.int .i64 (-1))) (fun k hk => .inl (.inl hk)))
    have HL3 := Aside0.mk (HL2.out.set at_ (-1))
    have HM3 := Aside0.mk (HM2.out.kp (Kp.set w2 ⟨l, at_, none⟩ (.int .i64 (-1))) hbl)
    have HP3 := Aside0.mk ((Kp.set w2 ⟨l, at_, none⟩ (.int .i64 (-1))).blk HP2.out hgl)
    obtain ⟨w3, hw3⟩ : ∃ wx, w2.setCell ⟨l, at_, none⟩ (.int .i64 (-1)) = wx := ⟨_, rfl⟩
    rw [hw3] at HK3 HL3 HM3 HP3 ⊢
    clear hw3 y3 y4 y5 hlt2
    have z2 : w3.cell? ⟨g, 2, none⟩ = some (.map (some bm)) := blk_cell HP3.out 2
    obtain ⟨c, kk, hrun, hck⟩ := HM3.out.look HI.out B (at_ : Int)
    have HCK := Aside0.mk hck
    clear hck
    have HH3 := Aside0.mk (show PkH w3 bm l at_ N from ⟨nm, D, LK.set at_ (-1), hnm, HM3.out, HI.out, HL3.out, by rw [List.length_set]; exact HLN.out, HLI.out.set at_ (-1) (by omega) (by omega)⟩)
    go_upto_if 33 with fail
    clear z2 hrun
    go_cut [] (fun wx => Aside0 (PkH wx bm l at_ N) ∧ Aside0 (PkV wx g (.slice A0 B.length c0) vo (.map (some bm)) (.slice (some ⟨l, 0, none⟩) N N) pl) ∧ Aside0 (Kp (fun k => k = l ∨ k = bm) w wx))
    case first =>
      cases kk with
      | false =>
        go_wp2_with fail
        go_meet
        exact ⟨HH3, HP3, HK3⟩
      | true =>
        obtain ⟨k0, k1⟩ := HCK.out rfl
        have z3 : w3.cell? ⟨g, 3, none⟩ = some (.slice (some ⟨l, 0, none⟩) N N) := blk_cell HP3.out 3
        obtain ⟨y, hy⟩ : ∃ y, (LK.set at_ (-1)).getD at_ 0 = y := ⟨_, rfl⟩
        have z4 := HL3.out.cell at_ (by rw [List.length_set, HLN.out]; omega)
        rw [hy] at z4
        have z5 := blk_frozen HL3.out at_
        have hlt3 : l < w3.heap.size := blk_lt HL3.out
        clear hy
        go_wp2_with fail
        go_meet
        have hs := Kp.set w3 ⟨l, at_, none⟩ (.int .i64 c)
        exact ⟨Aside0.mk ⟨nm, D, _, hnm, HM3.out.kp hs hbl, HI.out, HL3.out.set at_ c, by rw [List.length_set, List.length_set]; exact HLN.out, (HLI.out.set at_ (-1) (by omega) (by omega)).set at_ c (by omega) (by omega)⟩, Aside0.mk (hs.blk HP3.out hgl), Aside0.mk (HK3.out.trans hs (fun k hk => .inl (.inl hk)))⟩
    case rest =>
    clear HH3 HP3 HK3 HM3 HL3 HL2 HM2 HP2 HB2 HL HLI HLN HM HI HCK
    obtain ⟨HH, HP4, HK⟩ := hcut
    obtain ⟨nm, D, LK, hnm, hm, hi, hl, hln, hli⟩ := HH.out
    have HM := Aside0.mk hm
    have HI := Aside0.mk hi
    have HL := Aside0.mk hl
    have HLN := Aside0.mk hln
    have HLI := Aside0.mk hli
    clear hm hi hl hln hli HH
    have z2 := HP4.out.c2
    go_wp2_with (first | (at_mapUpdate; refine wpList_mapUpdate_own _ rfl _ _ _ 146 rfl 154 3 (int_keyed Try.underlying154) Try.underlying146 _ bm nm D rfl HM.out (by rw [show maxLen = 9223372036854775807 from rfl]; omega) _ _ _ rfl rfl (keyOf_int_mk Try.underlying154 (kyB_wf B (at_ : Int))) _ [] (plainElem_int Try.underlying3 (by simp [Lit.wf, IntKind.min, IntKind.max, IntKind.signed, IntKind.bits]; omega)) ?_) | fail)
    intro w5 hm5 hg5
    go_wp2_with fail
    go_end0
    have hk := Kp.of_grown hg5
    exact ⟨rfl, ⟨nm + 1, _, LK, by omega, hm5, HI.out.put B (at_ : Int), hk.blk HL.out (fun e => hbl (Option.some.inj e)), HLN.out, HLI.out⟩, HK.out.trans hk (fun k e => .inl (.inr (Option.some.inj e).symm))⟩
end Go.Proofs.Ytigdchfjcfljjaa
