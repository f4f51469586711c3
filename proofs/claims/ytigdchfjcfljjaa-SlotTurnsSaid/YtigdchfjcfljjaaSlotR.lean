/- Slots read: contracts of the two Decodes, and of the choice between two slots. -/
import Derived.Test.YtigdchfjcfljjaaEnc2
import Derived.Test.YtigdchfjcfljjaaCut
import Derived.Test.YtigdchfjcfljjaaArr
namespace Go.Proofs.Ytigdchfjcfljjaa
open Go.RowKit Go.Proofs.YtigdchfjcfljjaaW.PrintWords Go.Proofs.YtigdchfjcfljjaaW.PrintLast Go.Proofs.YtigdchfjcfljjaaW.PrintMore
attribute [local go_sem] max2_int min2_int max_two min_two max_three min_three max_four min_four   -- for this text's walks alone
set_option linter.unusedVariables false
set_option linter.unusedSimpArgs false


/-- Is there a slot? -/
def sdW (l : List Int) : List Int := [getN l 0 8, getN l 8 8, getN l 16 8, getN l 24 8, getN l 32 8, getN l 40 8]
def sdOk (l : List Int) : Bool := decide (64 ≤ l.length) && sR (getN l 0 8) (getN l 40 8) (getN l 8 8) && decide (encZ [] (sdW l) = l.take 64)
abbrev sd0 : Value := .agg #[.int .u64 0, .int .u64 0, .int .u64 0, .int .u64 0, .int .u64 0, .int .u64 0]
abbrev sdA (l : List Int) : Value := .agg #[.int .u64 (getN l 0 8), .int .u64 (getN l 8 8), .int .u64 (getN l 16 8), .int .u64 (getN l 24 8), .int .u64 (getN l 32 8), .int .u64 (getN l 40 8)]
def sdV (l : List Int) : Value := if sdOk l = true then .tuple #[sdA l, .bool true] else .tuple #[sd0, .bool false]
theorem sdV_no {l : List Int} (h : sdOk l = false) : sdV l = .tuple #[sd0, .bool false] := by rw [sdV, h]; rfl
theorem set6 {W : World} {b T : Nat} {a0 a1 a2 a3 a4 a5 : Value} (H : W.heap[b]? = some (.cells #[a0, a1, a2, a3, a4, a5] T (0, 0))) (x0 x1 x2 x3 x4 x5 : Value) :
    ((((((W.setCell ⟨b, 0, none⟩ x0).setCell ⟨b, 1, none⟩ x1).setCell ⟨b, 2, none⟩ x2).setCell ⟨b, 3, none⟩ x3).setCell ⟨b, 4, none⟩ x4).setCell ⟨b, 5, none⟩ x5).heap[b]? = some (.cells #[x0, x1, x2, x3, x4, x5] T (0, 0)) := by
  have h0 := blk_set H 0 x0
  have h1 := blk_set h0 1 x1
  have h2 := blk_set h1 2 x2
  have h3 := blk_set h2 3 x3
  have h4 := blk_set h3 4 x4
  have h5 := blk_set h4 5 x5
  simpa using h5
theorem sbelow_set {w W : World} (h : Below w.heap.size w W) (p : Addr) (hg : w.heap.size ≤ p.block) (v : Value) : Below w.heap.size w (W.setCell p v) := h.setCell hg v
theorem below_set6 {w W : World} (h : Below w.heap.size w W) (b : Nat) (hg : w.heap.size ≤ b) (x0 x1 x2 x3 x4 x5 : Value) : Below w.heap.size w ((((((W.setCell ⟨b, 0, none⟩ x0).setCell ⟨b, 1, none⟩ x1).setCell ⟨b, 2, none⟩ x2).setCell ⟨b, 3, none⟩ x3).setCell ⟨b, 4, none⟩ x4).setCell ⟨b, 5, none⟩ x5) :=
  sbelow_set (sbelow_set (sbelow_set (sbelow_set (sbelow_set (sbelow_set h _ hg _) _ hg _) _ hg _) _ hg _) _ hg _) _ hg _
theorem words6 (l : List Int) : wordsAt l 0 6 = sdW l := by simp [wordsAt, sdW, List.range_succ]
set_option maxHeartbeats 8000000 in
set_option maxRecDepth 100000 in
theorem slot_Decode_calls (v : Value) (l : List Int) (w : World) (T : Nat) (hT : CrcT w T) (hr : Rd w .u8 v l) (hb : isB l) (hlen : l.length ≤ 100000) :
    Calls Try.prog 90 #[.pointer (some ⟨T, 0, none⟩), v] w fun e w' => e = .returned (sdV l) ∧ Below w.heap.size w w' := by
  have HT := Aside0.mk hT
  have HV := Aside0.mk hr
  have HIB := Aside0.mk hb
  obtain ⟨A, c, ev, hc, hm, hrd⟩ := hr.mid
  have HOLD := Aside0.mk (fun (A : Addr) n c (e : v = .slice (some A) n c) (hp : 0 < l.length) => rd_old hr e hp)
  clear hr hb hrd hT
  have HZ0 := Aside0.mk (blk_new w (.cells #[.int .u64 0, .int .u64 0, .int .u64 0, .int .u64 0, .int .u64 0, .int .u64 0] 38))
  subst ev
  go_enter Try.func90, Try.ntmps90
  go_wp2_with fail
  with_reducible refine (le_Read_calls _ l 0 _ (HV.out.below (below_alloc (Below.refl _ _) _)) (by omega)).mono ?_
  rintro e w1 ⟨rfl, hb, hrr⟩
  rw [if_pos (by omega)] at hrr
  have HB1 := Aside0.mk (below_step (below_alloc (Below.refl _ _) (.cells #[.int .u64 0, .int .u64 0, .int .u64 0, .int .u64 0, .int .u64 0, .int .u64 0] 38)) hb)
  have HZ1 := Aside0.mk (blk_below HZ0.out hb)
  have HG1 := Aside0.mk (show RrV w1 (w.heap.size + 1) (.slice A l.length c) 0 false by simpa using hrr)
  clear hb hrr
  go_wp2_with fail
  with_reducible refine (Reader_Words_calls 6 _ (w.heap.size + 1) (.slice A l.length c) l 0 false HG1.out (HV.out.below HB1.out) HIB.out (fun A n c e hp => by have := HOLD.out A n c e hp; omega) (by omega) (by omega) (by omega)).mono ?_
  rintro e w2 ⟨u2, rfl, ho, hw⟩
  have HB2 := Aside0.mk (Kp.from HB1.out hw.2 (fun k hk => by omega))
  have HZ2 := Aside0.mk (hw.2.blk HZ1.out (by omega))
  clear hw
  have H0 := HZ2.out
  have r0 := blk_cell H0 0
  have r1 := blk_cell H0 1
  have r2 := blk_cell H0 2
  have r3 := blk_cell H0 3
  have r4 := blk_cell H0 4
  have r5 := blk_cell H0 5
  have f0 := blk_frozen H0 0
  have f1 := blk_frozen H0 1
  have f2 := blk_frozen H0 2
  have f3 := blk_frozen H0 3
  have f4 := blk_frozen H0 4
  have f5 := blk_frozen H0 5

  clear H0
  by_cases c1 : 48 ≤ l.length
  · have hk : wOk false l.length 0 6 = true := by simp [wOk]; omega
    rw [hk] at ho
    have ho2 : Own (Value.int .u64) w2 w1.heap.size 32 u2 (sdW l) := by rw [← words6]; exact ho
    obtain ⟨g, cap, eu⟩ := Go.Joins.ownsRow_form ho2 (by simp [sdW])
    have hl6 : (sdW l).length = 6 := rfl
    rw [hl6] at eu
    obtain ⟨A2, cc2, e2, hx1, hx2, hr2⟩ := (Own.rd ho2).mid
    rw [eu] at e2
    simp only [Value.slice.injEq] at e2
    obtain ⟨rfl, hx3, rfl⟩ := e2
    clear hx1 hx2 hx3
    have hg0 := getN_bound l HIB.out 0 8
    obtain ⟨turn, e0⟩ : ∃ x, getN l 0 8 = x := ⟨_, rfl⟩
    have hg1 := getN_bound l HIB.out 8 8
    obtain ⟨tail, e1⟩ : ∃ x, getN l 8 8 = x := ⟨_, rfl⟩
    have hg2 := getN_bound l HIB.out 16 8
    obtain ⟨count, e2⟩ : ∃ x, getN l 16 8 = x := ⟨_, rfl⟩
    have hg3 := getN_bound l HIB.out 24 8
    obtain ⟨first, e3⟩ : ∃ x, getN l 24 8 = x := ⟨_, rfl⟩
    have hg4 := getN_bound l HIB.out 32 8
    obtain ⟨last, e4⟩ : ∃ x, getN l 32 8 = x := ⟨_, rfl⟩
    have hg5 := getN_bound l HIB.out 40 8
    obtain ⟨state, e5⟩ : ∃ x, getN l 40 8 = x := ⟨_, rfl⟩

    have HSD := Aside0.mk (show sdW l = [turn, tail, count, first, last, state] by rw [sdW, e0, e1, e2, e3, e4, e5])
    have q0 : w2.cell? ⟨g, 0, none⟩ = some (.int .u64 turn) := by
      obtain ⟨ad, ea, hcell⟩ := rd_at hr2 0 (by rw [hl6]; omega)
      injection ea with ea
      subst ea
      rw [add_plain, HSD.out] at hcell
      exact hcell
    have q1 : w2.cell? ⟨g, 1, none⟩ = some (.int .u64 tail) := by
      obtain ⟨ad, ea, hcell⟩ := rd_at hr2 1 (by rw [hl6]; omega)
      injection ea with ea
      subst ea
      rw [add_plain, HSD.out] at hcell
      exact hcell
    have q2 : w2.cell? ⟨g, 2, none⟩ = some (.int .u64 count) := by
      obtain ⟨ad, ea, hcell⟩ := rd_at hr2 2 (by rw [hl6]; omega)
      injection ea with ea
      subst ea
      rw [add_plain, HSD.out] at hcell
      exact hcell
    have q3 : w2.cell? ⟨g, 3, none⟩ = some (.int .u64 first) := by
      obtain ⟨ad, ea, hcell⟩ := rd_at hr2 3 (by rw [hl6]; omega)
      injection ea with ea
      subst ea
      rw [add_plain, HSD.out] at hcell
      exact hcell
    have q4 : w2.cell? ⟨g, 4, none⟩ = some (.int .u64 last) := by
      obtain ⟨ad, ea, hcell⟩ := rd_at hr2 4 (by rw [hl6]; omega)
      injection ea with ea
      subst ea
      rw [add_plain, HSD.out] at hcell
      exact hcell
    have q5 : w2.cell? ⟨g, 5, none⟩ = some (.int .u64 state) := by
      obtain ⟨ad, ea, hcell⟩ := rd_at hr2 5 (by rw [hl6]; omega)
      injection ea with ea
      subst ea
      rw [add_plain, HSD.out] at hcell
      exact hcell

    have HA := Aside0.mk (show sdA l = .agg #[.int .u64 turn, .int .u64 tail, .int .u64 count, .int .u64 first, .int .u64 last, .int .u64 state] by rw [sdA, e0, e1, e2, e3, e4, e5])
    have HN := Aside0.mk (show 64 ≤ l.length → sdOk l = (sR turn state tail && decide (encZ [] [turn, tail, count, first, last, state] = l.take 64)) by intro h; rw [sdOk, HSD.out, e0, e1, e5, decide_eq_true h, Bool.true_and])
    rw [e0] at hg0
    obtain ⟨turn0, turn1⟩ := hg0
    rw [e1] at hg1
    obtain ⟨tail0, tail1⟩ := hg1
    rw [e2] at hg2
    obtain ⟨count0, count1⟩ := hg2
    rw [e3] at hg3
    obtain ⟨first0, first1⟩ := hg3
    rw [e4] at hg4
    obtain ⟨last0, last1⟩ := hg4
    rw [e5] at hg5
    obtain ⟨state0, state1⟩ := hg5

    clear e0 e1 e2 e3 e4 e5 hk ho ho2 hr2 hl6
    subst eu
    by_cases c2 : l.length < 64
    · have HNO := Aside0.mk (sdV_no (l := l) (by simp [sdOk]; omega))
      go_wp2_with fail
      refine bodyPost_ret (v := .tuple #[sd0, .bool false]) (by simp [results, Try.results90, go_sem, r0, r1, r2, r3, r4, r5]) rfl ⟨by rw [HNO.out], ?_⟩
      exact below_set6 HB2.out _ (Nat.le_refl _) _ _ _ _ _ _

    · have hlo : 64 ≤ l.length := by omega
      have HN1 := Aside0.mk (HN.out hlo)
      clear c2 HN
      obtain ⟨i5, hi5, hz5⟩ := infoU8'
      obtain ⟨v', hcut, hrd⟩ := Rd.takeTo 22 5 Try.underlying22 hi5 hz5 HV.out 64 (by omega) (by omega)
      have HRD := Aside0.mk (show ∀ w1 : World, Rd w1 .u8 (.slice A l.length c) l → Rd w1 .u8 v' (l.take 64) from hrd)
      clear hrd hi5 hz5
      go_wp2_with fail
      clear r0 r1 r2 r3 r4 r5 f0 f1 f2 f3 f4 f5
      refine start_ (n := 21) (S := fun w' => w'.cell? ⟨g, 0, none⟩ = some (.int .u64 turn) ∧ w'.cell? ⟨g, 1, none⟩ = some (.int .u64 tail) ∧ w'.cell? ⟨g, 2, none⟩ = some (.int .u64 count) ∧ w'.cell? ⟨g, 3, none⟩ = some (.int .u64 first) ∧ w'.cell? ⟨g, 4, none⟩ = some (.int .u64 last) ∧ w'.cell? ⟨g, 5, none⟩ = some (.int .u64 state)) (ds := [20]) #[false, false, false, false, false, false, false, false, false, false, false, false, false, false, false, false, false, false, false, false, false] (by kernel_rfl) rfl rfl ⟨q0, q1, q2, q3, q4, q5⟩ (fun hHeld => ?_)
      refine pure_ (i := 0) (N := some 21) (v := ?_) (a' := ?_) #[true, false, false, false, false, false, false, false, false, false, false, false, false, false, false, false, false, false, false, false, false] rfl rfl (by kernel_rfl) (fun _ _ _ h => h) (Or.inl ⟨by rfl, ?_⟩) ?_ ?_
      rotate_left
      · intro w'
        go_simp
        with_reducible rfl
      rotate_left
      · simp only [Act.put, List.setIfInBounds_toArray, List.set_cons_zero, List.set_cons_succ, i64_w, i32_w]
        rfl
      refine pure_ (i := 1) (N := some 22) (v := ?_) (a' := ?_) #[true, true, false, false, false, false, false, false, false, false, false, false, false, false, false, false, false, false, false, false, false] rfl rfl (by kernel_rfl) (fun _ _ _ h => h) (Or.inl ⟨by rfl, ?_⟩) ?_ ?_
      rotate_left
      · intro w'
        go_simp
        with_reducible rfl
      rotate_left
      · simp only [Act.put, List.setIfInBounds_toArray, List.set_cons_zero, List.set_cons_succ, i64_w, i32_w]
        rfl
      refine pure_ (i := 3) (N := some 24) (v := ?_) (a' := ?_) #[true, true, false, true, false, false, false, false, false, false, false, false, false, false, false, false, false, false, false, false, false] rfl rfl (by kernel_rfl) (fun _ _ _ h => h) (Or.inl ⟨by rfl, ?_⟩) ?_ ?_
      rotate_left
      · intro w'
        go_simp
        with_reducible rfl
      rotate_left
      · simp only [Act.put, List.setIfInBounds_toArray, List.set_cons_zero, List.set_cons_succ, i64_w, i32_w]
        rfl
      refine pure_ (i := 4) (N := some 25) (v := ?_) (a' := ?_) #[true, true, false, true, true, false, false, false, false, false, false, false, false, false, false, false, false, false, false, false, false] rfl rfl (by kernel_rfl) (fun _ _ _ h => h) (Or.inl ⟨by rfl, ?_⟩) ?_ ?_
      rotate_left
      · intro w'
        go_simp
        with_reducible rfl
      rotate_left
      · simp only [Act.put, List.setIfInBounds_toArray, List.set_cons_zero, List.set_cons_succ, i64_w, i32_w]
        rfl
      refine pure_ (i := 6) (N := some 27) (v := ?_) (a' := ?_) #[true, true, false, true, true, false, true, false, false, false, false, false, false, false, false, false, false, false, false, false, false] rfl rfl (by kernel_rfl) (fun _ _ _ h => h) (Or.inl ⟨by rfl, ?_⟩) ?_ ?_
      rotate_left
      · intro w'
        go_simp
        with_reducible rfl
      rotate_left
      · simp only [Act.put, List.setIfInBounds_toArray, List.set_cons_zero, List.set_cons_succ, i64_w, i32_w]
        rfl
      refine pure_ (i := 7) (N := some 28) (v := ?_) (a' := ?_) #[true, true, false, true, true, false, true, true, false, false, false, false, false, false, false, false, false, false, false, false, false] rfl rfl (by kernel_rfl) (fun _ _ _ h => h) (Or.inl ⟨by rfl, ?_⟩) ?_ ?_
      rotate_left
      · intro w'
        go_simp
        with_reducible rfl
      rotate_left
      · simp only [Act.put, List.setIfInBounds_toArray, List.set_cons_zero, List.set_cons_succ, i64_w, i32_w]
        rfl
      refine pure_ (i := 9) (N := some 30) (v := ?_) (a' := ?_) #[true, true, false, true, true, false, true, true, false, true, false, false, false, false, false, false, false, false, false, false, false] rfl rfl (by kernel_rfl) (fun _ _ _ h => h) (Or.inl ⟨by rfl, ?_⟩) ?_ ?_
      rotate_left
      · intro w'
        go_simp
        with_reducible rfl
      rotate_left
      · simp only [Act.put, List.setIfInBounds_toArray, List.set_cons_zero, List.set_cons_succ, i64_w, i32_w]
        rfl
      refine pure_ (i := 10) (N := some 31) (v := ?_) (a' := ?_) #[true, true, false, true, true, false, true, true, false, true, true, false, false, false, false, false, false, false, false, false, false] rfl rfl (by kernel_rfl) (fun _ _ _ h => h) (Or.inl ⟨by rfl, ?_⟩) ?_ ?_
      rotate_left
      · intro w'
        go_simp
        with_reducible rfl
      rotate_left
      · simp only [Act.put, List.setIfInBounds_toArray, List.set_cons_zero, List.set_cons_succ, i64_w, i32_w]
        rfl
      refine pure_ (i := 12) (N := some 33) (v := ?_) (a' := ?_) #[true, true, false, true, true, false, true, true, false, true, true, false, true, false, false, false, false, false, false, false, false] rfl rfl (by kernel_rfl) (fun _ _ _ h => h) (Or.inl ⟨by rfl, ?_⟩) ?_ ?_
      rotate_left
      · intro w'
        go_simp
        with_reducible rfl
      rotate_left
      · simp only [Act.put, List.setIfInBounds_toArray, List.set_cons_zero, List.set_cons_succ, i64_w, i32_w]
        rfl
      refine pure_ (i := 13) (N := some 34) (v := ?_) (a' := ?_) #[true, true, false, true, true, false, true, true, false, true, true, false, true, true, false, false, false, false, false, false, false] rfl rfl (by kernel_rfl) (fun _ _ _ h => h) (Or.inl ⟨by rfl, ?_⟩) ?_ ?_
      rotate_left
      · intro w'
        go_simp
        with_reducible rfl
      rotate_left
      · simp only [Act.put, List.setIfInBounds_toArray, List.set_cons_zero, List.set_cons_succ, i64_w, i32_w]
        rfl
      refine pure_ (i := 15) (N := some 36) (v := ?_) (a' := ?_) #[true, true, false, true, true, false, true, true, false, true, true, false, true, true, false, true, false, false, false, false, false] rfl rfl (by kernel_rfl) (fun _ _ _ h => h) (Or.inl ⟨by rfl, ?_⟩) ?_ ?_
      rotate_left
      · intro w'
        go_simp
        with_reducible rfl
      rotate_left
      · simp only [Act.put, List.setIfInBounds_toArray, List.set_cons_zero, List.set_cons_succ, i64_w, i32_w]
        rfl
      refine pure_ (i := 16) (N := some 37) (v := ?_) (a' := ?_) #[true, true, false, true, true, false, true, true, false, true, true, false, true, true, false, true, true, false, false, false, false] rfl rfl (by kernel_rfl) (fun _ _ _ h => h) (Or.inl ⟨by rfl, ?_⟩) ?_ ?_
      rotate_left
      · intro w'
        go_simp
        with_reducible rfl
      rotate_left
      · simp only [Act.put, List.setIfInBounds_toArray, List.set_cons_zero, List.set_cons_succ, i64_w, i32_w]
        rfl
      refine take_ (i := 2) (N := some 23) (v := ?_) (a' := ?_) #[true, true, true, true, true, false, true, true, false, true, true, false, true, true, false, true, true, false, false, false, false] rfl rfl (by kernel_rfl) (fun _ _ _ h => h) (Or.inl ⟨by rfl, ?_⟩) hHeld ?_ ?_
      rotate_left
      · rintro w' ⟨s0, s1, s2, s3, s4, s5⟩
        go_simp
        with_reducible rfl
      rotate_left
      · simp only [Act.put, List.setIfInBounds_toArray, List.set_cons_zero, List.set_cons_succ, i64_w, i32_w]
        rfl
      refine take_ (i := 5) (N := some 26) (v := ?_) (a' := ?_) #[true, true, true, true, true, true, true, true, false, true, true, false, true, true, false, true, true, false, false, false, false] rfl rfl (by kernel_rfl) (fun _ _ _ h => h) (Or.inl ⟨by rfl, ?_⟩) hHeld ?_ ?_
      rotate_left
      · rintro w' ⟨s0, s1, s2, s3, s4, s5⟩
        go_simp
        with_reducible rfl
      rotate_left
      · simp only [Act.put, List.setIfInBounds_toArray, List.set_cons_zero, List.set_cons_succ, i64_w, i32_w]
        rfl
      refine take_ (i := 8) (N := some 29) (v := ?_) (a' := ?_) #[true, true, true, true, true, true, true, true, true, true, true, false, true, true, false, true, true, false, false, false, false] rfl rfl (by kernel_rfl) (fun _ _ _ h => h) (Or.inl ⟨by rfl, ?_⟩) hHeld ?_ ?_
      rotate_left
      · rintro w' ⟨s0, s1, s2, s3, s4, s5⟩
        go_simp
        with_reducible rfl
      rotate_left
      · simp only [Act.put, List.setIfInBounds_toArray, List.set_cons_zero, List.set_cons_succ, i64_w, i32_w]
        rfl
      refine take_ (i := 11) (N := some 32) (v := ?_) (a' := ?_) #[true, true, true, true, true, true, true, true, true, true, true, true, true, true, false, true, true, false, false, false, false] rfl rfl (by kernel_rfl) (fun _ _ _ h => h) (Or.inl ⟨by rfl, ?_⟩) hHeld ?_ ?_
      rotate_left
      · rintro w' ⟨s0, s1, s2, s3, s4, s5⟩
        go_simp
        with_reducible rfl
      rotate_left
      · simp only [Act.put, List.setIfInBounds_toArray, List.set_cons_zero, List.set_cons_succ, i64_w, i32_w]
        rfl
      refine take_ (i := 14) (N := some 35) (v := ?_) (a' := ?_) #[true, true, true, true, true, true, true, true, true, true, true, true, true, true, true, true, true, false, false, false, false] rfl rfl (by kernel_rfl) (fun _ _ _ h => h) (Or.inl ⟨by rfl, ?_⟩) hHeld ?_ ?_
      rotate_left
      · rintro w' ⟨s0, s1, s2, s3, s4, s5⟩
        go_simp
        with_reducible rfl
      rotate_left
      · simp only [Act.put, List.setIfInBounds_toArray, List.set_cons_zero, List.set_cons_succ, i64_w, i32_w]
        rfl
      refine take_ (i := 17) (N := some 38) (v := ?_) (a' := ?_) #[true, true, true, true, true, true, true, true, true, true, true, true, true, true, true, true, true, true, false, false, false] rfl rfl (by kernel_rfl) (fun _ _ _ h => h) (Or.inl ⟨by rfl, ?_⟩) hHeld ?_ ?_
      rotate_left
      · rintro w' ⟨s0, s1, s2, s3, s4, s5⟩
        go_simp
        with_reducible rfl
      rotate_left
      · simp only [Act.put, List.setIfInBounds_toArray, List.set_cons_zero, List.set_cons_succ, i64_w, i32_w]
        rfl
      refine pure_ (i := 18) (N := some 39) (v := ?_) (a' := ?_) #[true, true, true, true, true, true, true, true, true, true, true, true, true, true, true, true, true, true, true, false, false] rfl rfl (by kernel_rfl) (fun _ _ _ h => h) (Or.inl ⟨by rfl, ?_⟩) ?_ ?_
      rotate_left
      · intro w'
        go_simp
        with_reducible rfl
      rotate_left
      · simp only [Act.put, List.setIfInBounds_toArray, List.set_cons_zero, List.set_cons_succ, i64_w, i32_w]
        rfl
      refine one_ (i := 19) (N := some 7) #[true, true, true, true, true, true, true, true, true, true, true, true, true, true, true, true, true, true, true, true, false] rfl rfl (by kernel_rfl) (by decide) (fun K hK => ?_)
      refine value_ (w1 := ?_) (v := ?_) (by rfl) rfl ?_ ?_
      rotate_left 2
      · go_simp
        constructor
        · rfl
        · rfl
      refine hK.out _ _ ⟨(pw_cell_below (below_alloc (Below.refl _ _) _) hHeld.1), (pw_cell_below (below_alloc (Below.refl _ _) _) hHeld.2.1), (pw_cell_below (below_alloc (Below.refl _ _) _) hHeld.2.2.1), (pw_cell_below (below_alloc (Below.refl _ _) _) hHeld.2.2.2.1), (pw_cell_below (below_alloc (Below.refl _ _) _) hHeld.2.2.2.2.1), (pw_cell_below (below_alloc (Below.refl _ _) _) hHeld.2.2.2.2.2)⟩ (fun hHeld => ?_)
      clear hK K
      refine norm_ (a' := ?_) ?_ ?_
      rotate_left
      · show Act.put _ (some 7) _ = _
        simp only [Act.put, List.setIfInBounds_toArray, List.set_cons_zero, List.set_cons_succ, i64_w, i32_w]
        rfl
      refine last_ (i := 20) (N := none) #[true, true, true, true, true, true, true, true, true, true, true, true, true, true, true, true, true, true, true, true, true] rfl rfl (by kernel_rfl) (by decide) (fun K hK => ?_)
      refine skip_ (w1 := ?_) (by rfl) rfl ?_ ?_
      rotate_left
      · go_simp
        rfl
      refine hK.out _ _ ?_
      clear hK K
      refine done_ (by kernel_rfl) ?_
      have HB3 := Aside0.mk (below_drew (below_alloc HB2.out (.cells #[.int .u64 turn, .int .u64 tail, .int .u64 count, .int .u64 first, .int .u64 last, .int .u64 state] 38)))
      have HZ3 := Aside0.mk (blk_drew (blk_alloc HZ2.out (.cells #[.int .u64 turn, .int .u64 tail, .int .u64 count, .int .u64 first, .int .u64 last, .int .u64 state] 38)))
      have HA3 := Aside0.mk (blk_drew (blk_new w2 (.cells #[.int .u64 turn, .int .u64 tail, .int .u64 count, .int .u64 first, .int .u64 last, .int .u64 state] 38)))
      clear q0 q1 q2 q3 q4 q5
      cases hh : sR turn state tail with
      | false =>
        have HNO := Aside0.mk (sdV_no (l := l) (by rw [HN1.out, hh]; rfl))
        have HH := Aside0.mk hh
        clear hh
        go_wp2_with fail
        with_reducible refine (slot_Encode_no turn tail count first last state _ _ HH.out turn0 tail0).mono ?_
        rintro e w7 ⟨rfl, hb⟩
        have HB7 := Aside0.mk (below_step HB3.out hb)
        have H0 := blk_below HZ3.out hb
        clear hb
        have r0 := blk_cell H0 0
        have r1 := blk_cell H0 1
        have r2 := blk_cell H0 2
        have r3 := blk_cell H0 3
        have r4 := blk_cell H0 4
        have r5 := blk_cell H0 5
        have f0 := blk_frozen H0 0
        have f1 := blk_frozen H0 1
        have f2 := blk_frozen H0 2
        have f3 := blk_frozen H0 3
        have f4 := blk_frozen H0 4
        have f5 := blk_frozen H0 5

        clear H0
        go_wp2_with fail
        go_quiet (fail)
        go_wp2_with fail
        refine bodyPost_ret (v := .tuple #[sd0, .bool false]) (by simp [results, Try.results90, go_sem, r0, r1, r2, r3, r4, r5]) rfl ⟨by rw [HNO.out], ?_⟩
        exact below_set6 (pw_below_drewN HB7.out _) _ (Nat.le_refl _) _ _ _ _ _ _

      | true =>
        have HH := Aside0.mk hh
        rw [hh, Bool.true_and] at HN1
        clear hh
        go_wp2_with fail
        with_reducible refine (slot_Encode_yes turn tail count first last state _ T (HT.out.below HB3.out) HH.out turn0 turn1 tail0 tail1 count0 count1 first0 first1 last0 last1 state0 state1).mono ?_
        rintro e w7 ⟨v7, rfl, ho, hb⟩
        have HB7 := Aside0.mk (below_step HB3.out hb)
        have H0 := blk_below HZ3.out hb
        have H2 := blk_below HA3.out hb
        have r0 := blk_cell H0 0
        have r1 := blk_cell H0 1
        have r2 := blk_cell H0 2
        have r3 := blk_cell H0 3
        have r4 := blk_cell H0 4
        have r5 := blk_cell H0 5
        have f0 := blk_frozen H0 0
        have f1 := blk_frozen H0 1
        have f2 := blk_frozen H0 2
        have f3 := blk_frozen H0 3
        have f4 := blk_frozen H0 4
        have f5 := blk_frozen H0 5

        have q0 := blk_cell H2 0
        have q1 := blk_cell H2 1
        have q2 := blk_cell H2 2
        have q3 := blk_cell H2 3
        have q4 := blk_cell H2 4
        have q5 := blk_cell H2 5

        obtain ⟨A7, c7, e7⟩ := own_slice ho
        rw [show (encZ [] [turn, tail, count, first, last, state]).length = 64 by simp [encZ, encC_len]] at e7
        obtain ⟨A8, c8, e8, _, _, hr8⟩ := (Own.rd ho).mid
        obtain ⟨A9, c9, e9, _, _, hr9⟩ := (HRD.out _ (HV.out.below HB7.out)).mid
        have hc7 : ∀ n, (convert 22 9 v7).run Try.prog (w7.drewN n) = .ok (.string (strOfNums (encZ [] [turn, tail, count, first, last, state]))) (w7.drewN n) := fun n => by rw [e8]; exact string_of_reads (w := w7.drewN n) Try.underlying22 Try.underlying5 Try.underlying9 (hr8.below (pw_below_drewN (Below.refl _ _) n))
        have hc9 : ∀ n, (convert 22 9 v').run Try.prog (w7.drewN n) = .ok (.string (strOfNums (l.take 64))) (w7.drewN n) := fun n => by rw [e9]; exact string_of_reads (w := w7.drewN n) Try.underlying22 Try.underlying5 Try.underlying9 (hr9.below (pw_below_drewN (Below.refl _ _) n))
        have hs := same_iff (encZ_isB isB_nil [turn, tail, count, first, last, state]) (HIB.out.take 64)
        clear ho hb H0 H2 hr8 hr9 e8 e9
        obtain ⟨s1, hs1⟩ : ∃ s, strOfNums (encZ [] [turn, tail, count, first, last, state]) = s := ⟨_, rfl⟩
        obtain ⟨s2, hs2⟩ : ∃ s, strOfNums (l.take 64) = s := ⟨_, rfl⟩
        rw [hs1] at hc7 hs
        rw [hs2] at hc9 hs
        clear hs1 hs2
        subst e7
        cases hq : decide (encZ [] [turn, tail, count, first, last, state] = l.take 64) with
        | false =>
          rw [hq] at hs HN1
          have HNO := Aside0.mk (sdV_no HN1.out)
          clear hq
          go_wp2_with fail
          go_quiet (fail)
          go_wp2_with fail
          refine bodyPost_ret (v := .tuple #[sd0, .bool false]) (by simp [results, Try.results90, go_sem, r0, r1, r2, r3, r4, r5]) rfl ⟨by rw [HNO.out], ?_⟩
          exact below_set6 (pw_below_drewN HB7.out _) _ (Nat.le_refl _) _ _ _ _ _ _

        | true =>
          rw [hq] at hs HN1
          have HYES := Aside0.mk (show sdV l = .tuple #[.agg #[.int .u64 turn, .int .u64 tail, .int .u64 count, .int .u64 first, .int .u64 last, .int .u64 state], .bool true] by rw [sdV, HN1.out, HA.out]; rfl)
          clear hq
          go_wp2_with fail
          go_quiet (fail)
          go_wp2_with fail
          refine bodyPost_ret (v := .tuple #[.agg #[.int .u64 turn, .int .u64 tail, .int .u64 count, .int .u64 first, .int .u64 last, .int .u64 state], .bool true]) (by simp [results, Try.results90, go_sem, r0, r1, r2, r3, r4, r5]) rfl ⟨by rw [HYES.out], ?_⟩
          exact below_set6 (pw_below_drewN HB7.out _) _ (Nat.le_refl _) _ _ _ _ _ _

  · have hk : wOk false l.length 0 6 = false := by simp [wOk]; omega
    rw [hk] at ho
    obtain ⟨Au, cu, eu⟩ := own_slice (show Own (Value.int .u64) w2 w1.heap.size 32 u2 [] from ho)
    rw [List.length_nil] at eu
    have HNO := Aside0.mk (sdV_no (l := l) (by simp [sdOk]; omega))
    clear ho hk
    subst eu
    go_wp2_with fail
    refine bodyPost_ret (v := .tuple #[sd0, .bool false]) (by simp [results, Try.results90, go_sem, r0, r1, r2, r3, r4, r5]) rfl ⟨by rw [HNO.out], ?_⟩
    exact below_set6 HB2.out _ (Nat.le_refl _) _ _ _ _ _ _


def sdN (l : List Int) (i : Nat) : Int := if sdOk l = true then (sdW l).getD i 0 else 0
theorem sdV_eq (l : List Int) : sdV l = .tuple #[.agg #[.int .u64 (sdN l 0), .int .u64 (sdN l 1), .int .u64 (sdN l 2), .int .u64 (sdN l 3), .int .u64 (sdN l 4), .int .u64 (sdN l 5)], .bool (sdOk l)] := by
  unfold sdV sdN
  cases h : sdOk l <;> rfl
theorem sdN_bd (l : List Int) (hb : isB l) (i : Nat) : 0 ≤ sdN l i ∧ sdN l i ≤ 18446744073709551615 := by
  unfold sdN
  split
  · have hw : isW (sdW l) := by
      intro x hx
      simp only [sdW, List.mem_cons, List.not_mem_nil, or_false] at hx
      rcases hx with rfl | rfl | rfl | rfl | rfl | rfl <;> exact getN_bound l hb _ _
    exact hw.getD i
  · omega
/-- Does the second slot count? -/
def chB (l : List Int) : Bool := sdOk (l.drop 128) && (!sdOk (l.drop 64) || decide (sdN (l.drop 64) 0 < sdN (l.drop 128) 0))
def chV (l : List Int) : Value := if chB l = true then sdV (l.drop 128) else sdV (l.drop 64)
set_option maxHeartbeats 8000000 in
set_option maxRecDepth 100000 in
theorem slot_hSlot_calls (n : Int) (w : World) (h0 : 0 ≤ n) (h1 : n ≤ 1) : Calls Try.prog 91 #[.int .i64 n] w fun e w' => e = .returned (.int .i64 (64 * (1 + n))) ∧ w = w' := by
  have ha : bits .and .i64 n 1 = n := by
    have : n = 0 ∨ n = 1 := by omega
    rcases this with rfl | rfl <;> decide
  go_enter Try.func91, Try.ntmps91
  go_wp2
  go_ret
  exact ⟨rfl, rfl⟩
end Go.Proofs.Ytigdchfjcfljjaa
