/- le.Reader's Words and Raw; the reference's Words. -/
import Derived.Test.YtigdchfjcfljjaaReader
import Derived.Test.YtigdchfjcfljjaaFill
namespace Go.Proofs.Ytigdchfjcfljjaa
open Go.RowKit Go.Proofs.YtigdchfjcfljjaaW.PrintWords Go.Proofs.YtigdchfjcfljjaaW.PrintLast Go.Proofs.YtigdchfjcfljjaaW.PrintMore
attribute [local go_sem] max2_int min2_int max_two min_two max_three min_three max_four min_four   -- for this text's walks alone
set_option linter.unusedVariables false
set_option linter.unusedSimpArgs false

/-- The numbers of eight bytes from a on. -/
def wordsAt (l : List Int) (a : Int) (k : Nat) : List Int := (List.range k).map fun i : Nat => getN l (a + 8 * (i : Int)) 8
theorem wordsAt_len (l : List Int) (a : Int) (k : Nat) : (wordsAt l a k).length = k := by simp [wordsAt]
theorem wordsAt_fill (l : List Int) (a : Int) (k : Nat) : fillL (fun i => getN l (a + 8 * i) 8) k k = wordsAt l a k := by simp [fillL, wordsAt]
theorem wordsAt_isW (l : List Int) (hb : isB l) (a : Int) (k : Nat) : isW (wordsAt l a k) := by
  intro x hx
  simp only [wordsAt, List.mem_map] at hx
  obtain ⟨i, _, rfl⟩ := hx
  exact getN_bound l hb _ _
def wOk (bad : Bool) (n a k : Int) : Bool := !bad && decide (0 ≤ k ∧ k ≤ (n - a) / 8)
theorem infoU64 : (Try.prog.info? 32).map (fun i => (i.zero, i.size, i.bytes)) = some (some (.int .u64 0), 1, 8) := by kernel_rfl
def RrW (w w' : World) (g : Nat) (v : Value) (l : List Int) (a : Int) (bad : Bool) (k : Int) : Prop := RrV w' g v (bif wOk bad l.length a k then a + 8 * k else a) (!(wOk bad l.length a k)) ∧ Kp (fun b => b = g) w w'
set_option maxHeartbeats 8000000 in
set_option maxRecDepth 100000 in
theorem Reader_Words_calls (k : Int) (w : World) (g : Nat) (v : Value) (l : List Int) (a : Int) (bad : Bool) (h : RrV w g v a bad) (hr : Rd w .u8 v l) (hb : isB l) (hfar : ∀ (A : Addr) n c, v = .slice (some A) n c → 0 < l.length → A.block ≠ g) (ha0 : 0 ≤ a) (ha1 : a ≤ (l.length : Int)) (hl : l.length ≤ 140737488355328) :
    Calls Try.prog 104 #[.pointer (some ⟨g, 0, none⟩), .int .i64 k] w fun e w' => ∃ u, e = .returned u ∧ Own (Value.int .u64) w' w.heap.size 32 u (bif wOk bad l.length a k then wordsAt l a k.toNat else []) ∧ RrW w w' g v l a bad k := by
  have HH := Aside0.mk h
  have HV := Aside0.mk hr
  have HIB := Aside0.mk hb
  have HFAR := Aside0.mk hfar
  have hc0 := h.c0
  have hc1 := h.c1
  have hc2 := h.c2
  have hf2 := blk_frozen h 2
  obtain ⟨A, c, ev, hc, hm, hrd⟩ := hr.mid
  clear h hr hb hfar hrd
  subst ev
  obtain ⟨q, hq⟩ : ∃ q : Int, ((l.length : Int) - a) / 8 = q := ⟨_, rfl⟩
  obtain ⟨hq0, hq1, hq2⟩ : 0 ≤ q ∧ a + 8 * q ≤ (l.length : Int) ∧ q ≤ 17592186044416 := by omega
  have hsub : IntKind.i64.wrap ((l.length : Int) - a) = (l.length : Int) - a := by rw [IntKind.wrap_i64]; omega
  have hquo : IntKind.i64.wrap (((l.length : Int) - a).tdiv 8) = q := by rw [Int.tdiv_eq_ediv_of_nonneg (by omega), hq, IntKind.wrap_i64]; omega
  have HQ := Aside0.mk hq
  clear hq
  have HNO : wOk bad l.length a k = false → Aside0 (∀ nq, ∃ u, (.returned (.slice none 0 0) : Ending) = .returned u ∧ Own (Value.int .u64) ((w.drewN nq).setCell ⟨g, 2, none⟩ (.bool true)) w.heap.size 32 u (bif wOk bad l.length a k then wordsAt l a k.toNat else []) ∧ RrW w ((w.drewN nq).setCell ⟨g, 2, none⟩ (.bool true)) g (.slice A l.length c) l a bad k) := fun e => ⟨fun nq => ⟨_, rfl, by rw [e]; exact Own.nil _ _ _ _, by
    rw [RrW, e]
    exact ⟨(HH.out.below (pw_below_drewN (Below.refl _ _) nq)).s2 true, ((Kp.of_below (pw_below_drewN (Below.refl _ _) nq) _).trans (Kp.set _ _ _) (fun k hk => .inl hk))⟩⟩⟩
  cases bad with
  | true =>
    have H := HNO (by simp [wOk])
    clear HNO
    go_enter Try.func104, Try.ntmps104
    go_wp2_with fail
    go_quiet (fail)
    go_wp2_with fail
    go_ret
    exact H.out _
  | false =>
    by_cases c1 : k < 0
    · have H := HNO (by have := HQ.out; simp [wOk]; omega)
      clear HNO
      go_enter Try.func104, Try.ntmps104
      go_wp2_with fail
      go_quiet (fail)
      go_wp2_with fail
      go_ret
      exact H.out _
    · by_cases c2 : q < k
      · have d1 : decide (k < 0) = false := decide_eq_false c1
        have d2 : decide (q < k) = true := decide_eq_true c2
        have H := HNO (by have := HQ.out; simp [wOk]; omega)
        clear HNO
        go_enter Try.func104, Try.ntmps104
        go_wp2_with fail
        go_quiet (fail)
        go_wp2_with fail
        go_ret
        exact H.out _
      · have HO := Aside0.mk (show wOk false l.length a k = true by have := HQ.out; simp [wOk]; omega)
        have d1 : decide (k < 0) = false := decide_eq_false c1
        have d2 : decide (q < k) = false := decide_eq_false c2
        clear HNO
        rw [HO.out]
        simp only [RrW, HO.out]
        obtain ⟨n, rfl⟩ := Int.eq_ofNat_of_zero_le (show 0 ≤ k by omega)
        have hmk := print_make_of (P := Try.prog) 46 32 (.int .u64 0) 8 Try.underlying46 infoU64 rfl (by omega) n (by omega)
        rw [made_fill .u64 (fun i => getN l (a + 8 * i) 8) n] at hmk
        obtain ⟨arr, harr⟩ : ∃ arr, (nums .u64 (fillL (fun i => getN l (a + 8 * i) 8) n 0)).toArray = arr := ⟨_, rfl⟩
        rw [harr] at hmk
        have HARR := Aside0.mk harr
        clear harr
        have hgs : Aside0 (g < w.heap.size) := ⟨blk_lt HH.out⟩
        go_enter Try.func104, Try.ntmps104
        go_wp2_with fail
        go_quiet (fail)
        go_wp2_with fail
        go_loopw [6, 37] (fun v6 v37 w' => ∃ i : Nat, i ≤ n ∧ v37 = .int .i64 i ∧ Aside0 (RrV w' g (.slice A l.length c) (a + 8 * i) false) ∧ Aside0 (Kp (fun b => b = g) w w') ∧ Aside0 (w'.heap[w.heap.size]? = some (.cells (nums .u64 (fillL (fun i => getN l (a + 8 * i) 8) n i)).toArray 32 (0, 0)))) (fun _ v37 _ => n - (intOf v37).toNat)
        case atStart => exact ⟨0, by omega, rfl, ⟨by simpa using (HH.out.below (below_alloc (pw_below_drewN (Below.refl _ _) _) _))⟩, ⟨Kp.of_below (below_alloc (pw_below_drewN (Below.refl _ _) _) _) _⟩, ⟨by rw [HARR.out]; exact blk_new _ _⟩⟩
        case round =>
          obtain ⟨i, hi, rfl, HR1, HK1, HB1⟩ := hrel
          clear hc0 hc1 hc2 hf2
          by_cases c3 : i < n
          · have HF := Aside0.mk (show rOk false l.length (a + 8 * (i : Int)) 8 = true by simp only [rOk, Bool.not_false, Bool.true_and]; exact fits_ok ⟨by omega, by omega, by omega, by omega⟩)
            go_wp2_with fail
            refine (Reader_Num_calls 8 _ g _ l _ false HR1.out (HV.out.kp HK1.out (fun A n c e hp hh => HFAR.out A n c e hp hh)) HIB.out).mono ?_
            rintro e w2 ⟨rfl, hr2, hk2⟩
            rw [HF.out] at hr2 ⊢
            obtain ⟨x, hx⟩ : ∃ x, getN l (a + 8 * (i : Int)) 8 = x := ⟨_, rfl⟩
            have hx0 := getN_bound l HIB.out (a + 8 * (i : Int)) 8
            simp only [cond_true, Bool.not_true, hx] at hr2 hx0 ⊢
            have hb2 := hk2.blk HB1.out (fun e => by have := hgs.out; omega)
            have hfz := blk_frozen hb2 i
            obtain ⟨y, hy⟩ : ∃ y, w2.cell? ⟨w.heap.size, i, none⟩ = some y := ⟨_, (blk_cell hb2 i).trans (Array.getElem?_eq_getElem (by simp [nums, fillL_len _ n i hi]; exact c3))⟩
            have HX := Aside0.mk hx
            have HR2 := Aside0.mk hr2
            have HK2 := Aside0.mk ((HK1.out).trans hk2 (fun k hk => .inl hk))
            have HB2 := Aside0.mk hb2
            clear hr2 hk2 hb2 hx
            go_wp2_with fail
            go_roundw
            case rel =>
              refine ⟨i + 1, by omega, by go_num, ⟨?_⟩, ⟨?_⟩, ⟨?_⟩⟩
              · have h1 : RrV w2 g (.slice A l.length c) (a + 8 * ((i + 1 : Nat) : Int)) false := by have := HR2.out; rw [show a + 8 * (i : Int) + 8 = a + 8 * ((i + 1 : Nat) : Int) by omega] at this; exact this
                exact (Below.heap_setCell w2 _ _ g (by have := hgs.out; simp; omega)).trans h1
              · exact ⟨HK2.out.os, HK2.out.tape, HK2.out.output, by simpa [World.setCell] using HK2.out.size, fun b hb hn => (Below.heap_setCell w2 _ _ b (by simp; omega)).trans (HK2.out.block b hb hn)⟩
              · have := blk_set HB2.out i (.int .u64 x)
                rw [nums_set, fillL_set (fun i => getN l (a + 8 * i) 8) n i c3 HX.out] at this
                exact this
            case measure => simp [intOf]; omega
          · have HI := Aside0.mk (show i = n by omega)
            go_wp2_with fail
            go_ret
            refine ⟨_, rfl, ?_, ?_, HK1.out⟩
            · have := HB1.out
              rw [HI.out, wordsAt_fill] at this
              have h2 := own_blk this (Nat.le_refl _) (by rw [wordsAt_len]; omega)
              rw [wordsAt_len] at h2
              simpa using h2
            · have := HR1.out
              rw [HI.out] at this
              simpa using this
/-- The bytes from a on, so many. -/
def rawAt (l : List Int) (a k : Int) : List Int := (l.take (a + k).toNat).drop a.toNat
theorem rawAt_isB {l : List Int} (h : isB l) (a k : Int) : isB (rawAt l a k) := (h.take _).drop _
theorem rawAt_len (l : List Int) (a k : Int) (h0 : 0 ≤ a) (h1 : 0 ≤ k) (h2 : a + k ≤ l.length) : ((rawAt l a k).length : Int) = k := by simp [rawAt]; omega
def kOk (bad : Bool) (n a k : Int) : Bool := !bad && decide (0 ≤ k ∧ k ≤ n - a)
def RrK (w w' : World) (g : Nat) (v : Value) (l : List Int) (a : Int) (bad : Bool) (k : Int) : Prop := RrV w' g v (bif kOk bad l.length a k then a + k else a) (!(kOk bad l.length a k)) ∧ Kp (fun b => b = g) w w'
set_option maxHeartbeats 8000000 in
set_option maxRecDepth 100000 in
theorem Reader_Raw_calls (k : Int) (w : World) (g : Nat) (v : Value) (l : List Int) (a : Int) (bad : Bool) (h : RrV w g v a bad) (hr : Rd w .u8 v l) (hb : isB l) (ha0 : 0 ≤ a) (ha1 : a ≤ (l.length : Int)) (hl : l.length ≤ 140737488355328) :
    Calls Try.prog 106 #[.pointer (some ⟨g, 0, none⟩), .int .i64 k] w fun e w' => ∃ u, e = .returned u ∧ Own (Value.int .u8) w' w.heap.size 5 u (bif kOk bad l.length a k then rawAt l a k else []) ∧ RrK w w' g v l a bad k := by
  have HH := Aside0.mk h
  have HV := Aside0.mk hr
  have HIB := Aside0.mk hb
  have hc0 := h.c0
  have hc1 := h.c1
  have hc2 := h.c2
  have hf2 := blk_frozen h 2
  obtain ⟨A, c, ev, hc, hm, hrd⟩ := hr.mid
  clear h hr hb hrd
  subst ev
  obtain ⟨q, hq⟩ : ∃ q : Int, (l.length : Int) - a = q := ⟨_, rfl⟩
  obtain ⟨hq0, hq1, hq2⟩ : 0 ≤ q ∧ a + q = (l.length : Int) ∧ q ≤ 140737488355328 := by omega
  have hsub : IntKind.i64.wrap ((l.length : Int) - a) = q := by rw [IntKind.wrap_i64]; omega
  have HQ := Aside0.mk hq
  clear hq
  have HNO : kOk bad l.length a k = false → Aside0 (∀ nq, ∃ u, (.returned (.slice none 0 0) : Ending) = .returned u ∧ Own (Value.int .u8) ((w.drewN nq).setCell ⟨g, 2, none⟩ (.bool true)) w.heap.size 5 u (bif kOk bad l.length a k then rawAt l a k else []) ∧ RrK w ((w.drewN nq).setCell ⟨g, 2, none⟩ (.bool true)) g (.slice A l.length c) l a bad k) := fun e => ⟨fun nq => ⟨_, rfl, by rw [e]; exact Own.nil _ _ _ _, by
    rw [RrK, e]
    exact ⟨(HH.out.below (pw_below_drewN (Below.refl _ _) nq)).s2 true, ((Kp.of_below (pw_below_drewN (Below.refl _ _) nq) _).trans (Kp.set _ _ _) (fun k hk => .inl hk))⟩⟩⟩
  cases bad with
  | true =>
    have H := HNO (by simp [kOk])
    clear HNO
    go_enter Try.func106, Try.ntmps106
    go_wp2_with fail
    go_quiet (fail)
    go_wp2_with fail
    go_ret
    exact H.out _
  | false =>
    by_cases c1 : k < 0
    · have H := HNO (by have := HQ.out; simp [kOk]; omega)
      clear HNO
      go_enter Try.func106, Try.ntmps106
      go_wp2_with fail
      go_quiet (fail)
      go_wp2_with fail
      go_ret
      exact H.out _
    · by_cases c2 : q < k
      · have d1 : decide (k < 0) = false := decide_eq_false c1
        have d2 : decide (q < k) = true := decide_eq_true c2
        have H := HNO (by have := HQ.out; simp [kOk]; omega)
        clear HNO
        go_enter Try.func106, Try.ntmps106
        go_wp2_with fail
        go_quiet (fail)
        go_wp2_with fail
        go_ret
        exact H.out _
      · have HO := Aside0.mk (show kOk false l.length a k = true by have := HQ.out; simp [kOk]; omega)
        have d1 : decide (k < 0) = false := decide_eq_false c1
        have d2 : decide (q < k) = false := decide_eq_false c2
        clear HNO
        rw [HO.out]
        simp only [RrK, HO.out]
        have hsum : wrap64 (a + k) = a + k := by unfold wrap64; omega
        obtain ⟨i5, hi5, hz5⟩ := infoU8'
        obtain ⟨v', hcut, hrd⟩ := Rd.cut 22 5 Try.underlying22 hi5 hz5 HV.out a (a + k) ha0 (by omega) (by omega)
        have HRD := Aside0.mk hrd
        clear hrd hi5 hz5
        have hgs : Aside0 (g < w.heap.size) := ⟨blk_lt HH.out⟩
        have HLL : Aside0 ((rawAt l a k).length ≤ 140737488355328) := ⟨by have := rawAt_len l a k ha0 (by omega) (by omega); omega⟩
        go_enter Try.func106, Try.ntmps106
        go_wp2_with fail
        go_quiet (fail)
        have HB0 := Aside0.mk (pw_below_drewN (Below.refl w.heap.size w) nq)
        have hn0 := (HH.out.below HB0.out).c0
        have hn1 := (HH.out.below HB0.out).c1
        go_wp2_with fail
        refine start_ (n := 17) (S := fun w' => w'.cell? ⟨g, 0, none⟩ = some (.slice A l.length c) ∧ w'.cell? ⟨g, 1, none⟩ = some (.int .i64 a)) (ds := []) #[false, false, false, false, false, false, false, false, false, false, false, false, false, false, false, false, false] (by kernel_rfl) rfl rfl ⟨hn0, hn1⟩ (fun hHeld => ?_)
        refine pure_ (i := 0) (N := some 31) (v := ?_) (a' := ?_) #[true, false, false, false, false, false, false, false, false, false, false, false, false, false, false, false, false] rfl rfl (by kernel_rfl) (fun _ _ _ h => h) (Or.inl ⟨by rfl, ?_⟩) ?_ ?_
        rotate_left
        · intro w'
          go_simp
          with_reducible rfl
        rotate_left
        · simp only [Act.put, List.setIfInBounds_toArray, List.set_cons_zero, List.set_cons_succ, i64_w, i32_w]
          rfl
        refine pure_ (i := 1) (N := some 32) (v := ?_) (a' := ?_) #[true, true, false, false, false, false, false, false, false, false, false, false, false, false, false, false, false] rfl rfl (by kernel_rfl) (fun _ _ _ h => h) (Or.inl ⟨by rfl, ?_⟩) ?_ ?_
        rotate_left
        · intro w'
          go_simp
          with_reducible rfl
        rotate_left
        · simp only [Act.put, List.setIfInBounds_toArray, List.set_cons_zero, List.set_cons_succ, i64_w, i32_w]
          rfl
        refine pure_ (i := 2) (N := some 33) (v := ?_) (a' := ?_) #[true, true, true, false, false, false, false, false, false, false, false, false, false, false, false, false, false] rfl rfl (by kernel_rfl) (fun _ _ _ h => h) (Or.inl ⟨by rfl, ?_⟩) ?_ ?_
        rotate_left
        · intro w'
          go_simp
          with_reducible rfl
        rotate_left
        · simp only [Act.put, List.setIfInBounds_toArray, List.set_cons_zero, List.set_cons_succ, i64_w, i32_w]
          rfl
        refine pure_ (i := 4) (N := some 35) (v := ?_) (a' := ?_) #[true, true, true, false, true, false, false, false, false, false, false, false, false, false, false, false, false] rfl rfl (by kernel_rfl) (fun _ _ _ h => h) (Or.inl ⟨by rfl, ?_⟩) ?_ ?_
        rotate_left
        · intro w'
          go_simp
          with_reducible rfl
        rotate_left
        · simp only [Act.put, List.setIfInBounds_toArray, List.set_cons_zero, List.set_cons_succ, i64_w, i32_w]
          rfl
        refine pure_ (i := 5) (N := some 36) (v := ?_) (a' := ?_) #[true, true, true, false, true, true, false, false, false, false, false, false, false, false, false, false, false] rfl rfl (by kernel_rfl) (fun _ _ _ h => h) (Or.inl ⟨by rfl, ?_⟩) ?_ ?_
        rotate_left
        · intro w'
          go_simp
          with_reducible rfl
        rotate_left
        · simp only [Act.put, List.setIfInBounds_toArray, List.set_cons_zero, List.set_cons_succ, i64_w, i32_w]
          rfl
        refine pure_ (i := 6) (N := some 37) (v := ?_) (a' := ?_) #[true, true, true, false, true, true, true, false, false, false, false, false, false, false, false, false, false] rfl rfl (by kernel_rfl) (fun _ _ _ h => h) (Or.inl ⟨by rfl, ?_⟩) ?_ ?_
        rotate_left
        · intro w'
          go_simp
          with_reducible rfl
        rotate_left
        · simp only [Act.put, List.setIfInBounds_toArray, List.set_cons_zero, List.set_cons_succ, i64_w, i32_w]
          rfl
        refine pure_ (i := 8) (N := some 39) (v := ?_) (a' := ?_) #[true, true, true, false, true, true, true, false, true, false, false, false, false, false, false, false, false] rfl rfl (by kernel_rfl) (fun _ _ _ h => h) (Or.inl ⟨by rfl, ?_⟩) ?_ ?_
        rotate_left
        · intro w'
          go_simp
          with_reducible rfl
        rotate_left
        · simp only [Act.put, List.setIfInBounds_toArray, List.set_cons_zero, List.set_cons_succ, i64_w, i32_w]
          rfl
        refine pure_ (i := 9) (N := some 40) (v := ?_) (a' := ?_) #[true, true, true, false, true, true, true, false, true, true, false, false, false, false, false, false, false] rfl rfl (by kernel_rfl) (fun _ _ _ h => h) (Or.inl ⟨by rfl, ?_⟩) ?_ ?_
        rotate_left
        · intro w'
          go_simp
          with_reducible rfl
        rotate_left
        · simp only [Act.put, List.setIfInBounds_toArray, List.set_cons_zero, List.set_cons_succ, i64_w, i32_w]
          rfl
        refine pure_ (i := 10) (N := some 41) (v := ?_) (a' := ?_) #[true, true, true, false, true, true, true, false, true, true, true, false, false, false, false, false, false] rfl rfl (by kernel_rfl) (fun _ _ _ h => h) (Or.inl ⟨by rfl, ?_⟩) ?_ ?_
        rotate_left
        · intro w'
          go_simp
          with_reducible rfl
        rotate_left
        · simp only [Act.put, List.setIfInBounds_toArray, List.set_cons_zero, List.set_cons_succ, i64_w, i32_w]
          rfl
        refine pure_ (i := 12) (N := some 43) (v := ?_) (a' := ?_) #[true, true, true, false, true, true, true, false, true, true, true, false, true, false, false, false, false] rfl rfl (by kernel_rfl) (fun _ _ _ h => h) (Or.inl ⟨by rfl, ?_⟩) ?_ ?_
        rotate_left
        · intro w'
          go_simp
          with_reducible rfl
        rotate_left
        · simp only [Act.put, List.setIfInBounds_toArray, List.set_cons_zero, List.set_cons_succ, i64_w, i32_w]
          rfl
        refine take_ (i := 3) (N := some 34) (v := ?_) (a' := ?_) #[true, true, true, true, true, true, true, false, true, true, true, false, true, false, false, false, false] rfl rfl (by kernel_rfl) (fun _ _ _ h => h) (Or.inl ⟨by rfl, ?_⟩) hHeld ?_ ?_
        rotate_left
        · rintro w' ⟨s0, s1⟩
          go_simp
          with_reducible rfl
        rotate_left
        · simp only [Act.put, List.setIfInBounds_toArray, List.set_cons_zero, List.set_cons_succ, i64_w, i32_w]
          rfl
        refine take_ (i := 7) (N := some 38) (v := ?_) (a' := ?_) #[true, true, true, true, true, true, true, true, true, true, true, false, true, false, false, false, false] rfl rfl (by kernel_rfl) (fun _ _ _ h => h) (Or.inl ⟨by rfl, ?_⟩) hHeld ?_ ?_
        rotate_left
        · rintro w' ⟨s0, s1⟩
          go_simp
          with_reducible rfl
        rotate_left
        · simp only [Act.put, List.setIfInBounds_toArray, List.set_cons_zero, List.set_cons_succ, i64_w, i32_w]
          rfl
        refine take_ (i := 11) (N := some 42) (v := ?_) (a' := ?_) #[true, true, true, true, true, true, true, true, true, true, true, true, true, false, false, false, false] rfl rfl (by kernel_rfl) (fun _ _ _ h => h) (Or.inl ⟨by rfl, ?_⟩) hHeld ?_ ?_
        rotate_left
        · rintro w' ⟨s0, s1⟩
          go_simp
          with_reducible rfl
        rotate_left
        · simp only [Act.put, List.setIfInBounds_toArray, List.set_cons_zero, List.set_cons_succ, i64_w, i32_w]
          rfl
        refine pure_ (i := 13) (N := some 44) (v := ?_) (a' := ?_) #[true, true, true, true, true, true, true, true, true, true, true, true, true, true, false, false, false] rfl rfl (by kernel_rfl) (fun _ _ _ h => h) (Or.inl ⟨by rfl, ?_⟩) ?_ ?_
        rotate_left
        · intro w'
          go_simp
          with_reducible rfl
        rotate_left
        · simp only [Act.put, List.setIfInBounds_toArray, List.set_cons_zero, List.set_cons_succ, i64_w, i32_w]
          rfl
        refine pure_ (i := 14) (N := some 45) (v := ?_) (a' := ?_) #[true, true, true, true, true, true, true, true, true, true, true, true, true, true, true, false, false] rfl rfl (by kernel_rfl) (fun _ _ _ h => h) (Or.inl ⟨by rfl, ?_⟩) ?_ ?_
        rotate_left
        · intro w'
          go_simp
          with_reducible rfl
        rotate_left
        · simp only [Act.put, List.setIfInBounds_toArray, List.set_cons_zero, List.set_cons_succ, i64_w, i32_w]
          rfl
        refine one_ (i := 15) (N := some 46) #[true, true, true, true, true, true, true, true, true, true, true, true, true, true, true, true, false] rfl rfl (by kernel_rfl) (by decide) (fun K hK => ?_)
        refine goes_ Try.func117 (by kernel_rfl) rfl #[v'] (by rfl) rfl rfl (by (try simp only [List.map_toArray, List.map_cons, List.map_nil]); first | done | rfl) ?_
        with_reducible refine (Clone8_calls v' (rawAt l a k) _ (HRD.out _ (HV.out.below (below_drew HB0.out))) HLL.out).mono ?_
        rintro e w3 ⟨v3, rfl, hO3, hb3⟩
        refine ⟨_, rfl, ?_⟩
        have h3 := HH.out.below (below_step (below_drew HB0.out) hb3)
        have hc30 := h3.c0
        have hc31 := h3.c1
        refine hK.out _ _ ⟨hc30, hc31⟩ (fun hHeld => ?_)
        clear hK K
        refine norm_ (a' := ?_) ?_ ?_
        rotate_left
        · show Act.put _ (some 46) _ = _
          simp only [Act.put, List.setIfInBounds_toArray, List.set_cons_zero, List.set_cons_succ, i64_w, i32_w]
          rfl
        refine pure_ (i := 16) (N := some 5) (v := ?_) (a' := ?_) #[true, true, true, true, true, true, true, true, true, true, true, true, true, true, true, true, true] rfl rfl (by kernel_rfl) (fun _ _ _ h => h) (Or.inl ⟨by rfl, ?_⟩) ?_ ?_
        rotate_left
        · intro w'
          go_simp
          with_reducible rfl
        rotate_left
        · simp only [Act.put, List.setIfInBounds_toArray, List.set_cons_zero, List.set_cons_succ, i64_w, i32_w]
          rfl
        refine done_ (by kernel_rfl) ?_
        have HO3 := Aside0.mk hO3
        have HB3 := Aside0.mk (below_step (below_drew HB0.out) hb3)
        have hz1 := h3.c1
        have hf1 := blk_frozen h3 1
        have HH3 := Aside0.mk h3
        have HG := Aside0.mk (show v3.ownBlock ≠ some g from fun e => by have h1 := hO3.ge e; have h2 := hgs.out; have h3 := (below_drew HB0.out).size; omega)
        have HW := Aside0.mk (below_drew HB0.out).size
        clear hO3 hb3 h3 hn0 hn1 hc0 hc1 hc2 hf2
        go_wp2_with fail
        go_ret
        exact ⟨_, rfl, (HO3.out.weaken HW.out).move (fun b hb => Below.heap_setCell _ _ _ b (fun e => HG.out (by rw [hb, e]))), HH3.out.s1 _, (Kp.of_below HB3.out _).trans (Kp.set _ _ _) (fun k hk => .inl hk)⟩
theorem take_eq_all {l0 l1 : List Int} (h : l0.length = l1.length) (h2 : l0.take l0.length = l1.take l0.length) : l0 = l1 := by
  rw [List.take_length, h, List.take_length] at h2
  exact h2
set_option maxHeartbeats 8000000 in
set_option maxRecDepth 100000 in
theorem ref_Words_calls (v0 v1 : Value) (l0 l1 : List Int) (w : World) (hr0 : Rd w .u64 v0 l0) (hr1 : Rd w .u64 v1 l1) :
    Calls Try.prog 61 #[v0, v1] w fun e w' => e = .returned (.bool (decide (l0 = l1))) ∧ Below w.heap.size w w' := by
  obtain ⟨A0, c0, rfl, hc0, hm0, hr0⟩ := hr0.mid
  obtain ⟨A1, c1, rfl, hc1, hm1, hr1⟩ := hr1.mid
  have HR0 := Aside0.mk hr0
  have HR1 := Aside0.mk hr1
  clear hr0 hr1
  by_cases e1 : l0.length = l1.length
  · have HE := Aside0.mk e1
    obtain ⟨n, hn⟩ : ∃ n, l0.length = n := ⟨_, rfl⟩
    have hn1 : l1.length = n := by omega
    rw [hn] at HR0 hc0 hm0
    rw [hn1] at HR1 hc1 hm1
    rw [hn, hn1]
    have HN := Aside0.mk hn
    have HN1 := Aside0.mk hn1
    clear hn hn1 e1
    go_enter Try.func61, Try.ntmps61
    go_wp2_with fail
    go_loopw [5] (fun v5 w' => ∃ i : Nat, i ≤ n ∧ v5 = .int .i64 i ∧ Aside0 (l0.take i = l1.take i) ∧ Aside0 (Below w.heap.size w w')) (fun v5 _ => n - (intOf v5).toNat)
    case atStart => exact ⟨0, by omega, rfl, ⟨by simp⟩, ⟨Below.refl _ _⟩⟩
    case round =>
      obtain ⟨i, hi, rfl, HT, HB⟩ := hrel
      by_cases c3 : i < n
      · obtain ⟨a0, ea0, hcell0⟩ := rd_at (HR0.out.below HB.out) i c3
        obtain ⟨a1, ea1, hcell1⟩ := rd_at (HR1.out.below HB.out) i c3
        obtain ⟨x, hx⟩ : ∃ x, l0.getD i 0 = x := ⟨_, rfl⟩
        obtain ⟨y, hy⟩ : ∃ y, l1.getD i 0 = y := ⟨_, rfl⟩
        rw [hx] at hcell0
        rw [hy] at hcell1
        have HX := Aside0.mk hx
        have HY := Aside0.mk hy
        clear hx hy
        cases ea0
        cases ea1
        by_cases exy : x = y
        · have HT1 := Aside0.mk (show l0.take (i + 1) = l1.take (i + 1) by rw [take_snoc (by rw [HN.out]; exact c3), take_snoc (by rw [HN1.out]; exact c3), HT.out, HX.out, HY.out, exy])
          subst exy
          go_wp2_with fail
          go_quiet (fail)
          go_wp2_with fail
          go_roundw
          case rel => exact ⟨i + 1, by omega, by go_num, HT1, ⟨pw_below_drewN HB.out _⟩⟩
          case measure => simp [intOf]; omega
        · have hxy : (x != y) = true := by simpa using exy
          have HD := Aside0.mk (show decide (l0 = l1) = false from decide_eq_false (fun e => exy (by rw [← HX.out, ← HY.out, e])))
          go_wp2_with fail
          go_quiet (fail)
          go_wp2_with fail
          go_ret
          exact ⟨by rw [HD.out]; rfl, pw_below_drewN HB.out _⟩
      · have HI := Aside0.mk (show i = n by omega)
        have HD := Aside0.mk (show decide (l0 = l1) = true from decide_eq_true (take_eq_all HE.out (by rw [HN.out, ← HI.out]; exact HT.out)))
        go_wp2_with fail
        go_ret
        exact ⟨by rw [HD.out]; rfl, HB.out⟩
  · have HD := Aside0.mk (show decide (l0 = l1) = false from decide_eq_false (fun e => e1 (by rw [e])))
    have hne : ((l0.length : Int) != (l1.length : Int)) = true := by simp; omega
    clear e1
    go_enter Try.func61, Try.ntmps61
    go_wp2_with fail
    go_ret
    exact ⟨by rw [HD.out]; rfl, Below.refl _ _⟩
end Go.Proofs.Ytigdchfjcfljjaa
