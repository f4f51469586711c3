/- le.Reader's Words and Raw; the reference's Words. -/
import Derived.Test.YtplmdgimodgekaaReader
import Derived.Test.YtplmdgimodgekaaFill
namespace Go.Proofs.Ytplmdgimodgekaa
open Go.RowKit Go.Proofs.YtplmdgimodgekaaW.PrintWords Go.Proofs.YtplmdgimodgekaaW.PrintLast Go.Proofs.YtplmdgimodgekaaW.PrintMore
attribute [local go_sem] max2_int min2_int max_two min_two max_three min_three max_four min_four   -- for this text's walks alone
set_option linter.unusedVariables false
set_option linter.unusedSimpArgs false

/-- The numbers of eight bytes from a on. -/
def wordsAt (l : List Int) (a : Int) (k : Nat) : List Int := (List.range k).map fun i : Nat => getN l (a + 8 * (i : Int)) 8
theorem wordsAt_len (l : List Int) (a : Int) (k : Nat) : (wordsAt l a k).length = k := by simp [wordsAt]
theorem wordsAt_fill (l : List Int) (a : Int) (k : Nat) : fillL (fun i => getN l (a + 8 * i) 8) k k = wordsAt l a k := by simp [fillL, wordsAt]
theorem wordsAt_isW (l : List Int) (hb : isB l) (a : Int) (k : Nat) : isW (wordsAt l a k) := by
  intro x hx
  simp only [wordsAt, List.mem_map] at hx
  obtain ⟨i, _, rfl⟩ := hx
  exact getN_bound l hb _ _
def wOk (bad : Bool) (n a k : Int) : Bool := !bad && decide (0 ≤ k ∧ k ≤ (n - a) / 8)
theorem infoU64 : (Try.prog.info? 45).map (fun i => (i.zero, i.size, i.bytes)) = some (some (.int .u64 0), 1, 8) := by kernel_rfl
def RrW (w w' : World) (g : Nat) (v : Value) (l : List Int) (a : Int) (bad : Bool) (k : Int) : Prop := RrV w' g v (bif wOk bad l.length a k then a + 8 * k else a) (!(wOk bad l.length a k)) ∧ Kp (fun b => b = g) w w'
set_option maxHeartbeats 8000000 in
set_option maxRecDepth 100000 in
theorem Reader_Words_calls (k : Int) (w : World) (g : Nat) (v : Value) (l : List Int) (a : Int) (bad : Bool) (h : RrV w g v a bad) (hr : Rd w .u8 v l) (hb : isB l) (hfar : ∀ (A : Addr) n c, v = .slice (some A) n c → 0 < l.length → A.block ≠ g) (ha0 : 0 ≤ a) (ha1 : a ≤ (l.length : Int)) (hl : l.length ≤ 140737488355328) :
    Calls Try.prog 94 #[.pointer (some ⟨g, 0, none⟩), .int .i64 k] w fun e w' => ∃ u, e = .returned u ∧ Own (Value.int .u64) w' w.heap.size 45 u (bif wOk bad l.length a k then wordsAt l a k.toNat else []) ∧ RrW w w' g v l a bad k := by
  have HH := Aside0.mk h
  have HV := Aside0.mk hr
  have HIB := Aside0.mk hb
  have HFAR := Aside0.mk hfar
  have hc0 := h.c0
  have hc1 := h.c1
  have hc2 := h.c2
  have hf2 := blk_frozen h 2
  obtain ⟨A, c, ev, hc, hm, hrd⟩ := hr.mid
  clear h hr hb hfar hrd
  subst ev
  obtain ⟨q, hq⟩ : ∃ q : Int, ((l.length : Int) - a) / 8 = q := ⟨_, rfl⟩
  obtain ⟨hq0, hq1, hq2⟩ : 0 ≤ q ∧ a + 8 * q ≤ (l.length : Int) ∧ q ≤ 17592186044416 := by omega
  have hsub : IntKind.i64.wrap ((l.length : Int) - a) = (l.length : Int) - a := by rw [IntKind.wrap_i64]; omega
  have hquo : IntKind.i64.wrap (((l.length : Int) - a).tdiv 8) = q := by rw [Int.tdiv_eq_ediv_of_nonneg (by omega), hq, IntKind.wrap_i64]; omega
  have HQ := Aside0.mk hq
  clear hq
  have HNO : wOk bad l.length a k = false → Aside0 (∀ nq, ∃ u, (.returned (.slice none 0 0) : Ending) = .returned u ∧ Own (Value.int .u64) ((w.drewN nq).setCell ⟨g, 2, none⟩ (.bool true)) w.heap.size 45 u (bif wOk bad l.length a k then wordsAt l a k.toNat else []) ∧ RrW w ((w.drewN nq).setCell ⟨g, 2, none⟩ (.bool true)) g (.slice A l.length c) l a bad k) := fun e => ⟨fun nq => ⟨_, rfl, by rw [e]; exact Own.nil _ _ _ _, by
    rw [RrW, e]
    exact ⟨(HH.out.below (pw_below_drewN (Below.refl _ _) nq)).s2 true, ((Kp.of_below (pw_below_drewN (Below.refl _ _) nq) _).trans (Kp.set _ _ _) (fun k hk => .inl hk))⟩⟩⟩
  cases bad with
  | true =>
    have H := HNO (by simp [wOk])
    clear HNO
    go_enter Try.func94, Try.ntmps94
    go_wp2_with fail
    go_quiet (fail)
    go_wp2_with fail
    go_ret
    exact H.out _
  | false =>
    by_cases c1 : k < 0
    · have H := HNO (by have := HQ.out; simp [wOk]; omega)
      clear HNO
      go_enter Try.func94, Try.ntmps94
      go_wp2_with fail
      go_quiet (fail)
      go_wp2_with fail
      go_ret
      exact H.out _
    · by_cases c2 : q < k
      · have d1 : decide (k < 0) = false := decide_eq_false c1
        have d2 : decide (q < k) = true := decide_eq_true c2
        have H := HNO (by have := HQ.out; simp [wOk]; omega)
        clear HNO
        go_enter Try.func94, Try.ntmps94
        go_wp2_with fail
        go_quiet (fail)
        go_wp2_with fail
        go_ret
        exact H.out _
      · have HO := Aside0.mk (show wOk false l.length a k = true by have := HQ.out; simp [wOk]; omega)
        have d1 : decide (k < 0) = false := decide_eq_false c1
        have d2 : decide (q < k) = false := decide_eq_false c2
        clear HNO
        rw [HO.out]
        simp only [RrW, HO.out]
        obtain ⟨n, rfl⟩ := Int.eq_ofNat_of_zero_le (show 0 ≤ k by omega)
        have hmk := print_make_of (P := Try.prog) 161 45 (.int .u64 0) 8 Try.underlying161 infoU64 rfl (by omega) n (by omega)
        rw [made_fill .u64 (fun i => getN l (a + 8 * i) 8) n] at hmk
        obtain ⟨arr, harr⟩ : ∃ arr, (nums .u64 (fillL (fun i => getN l (a + 8 * i) 8) n 0)).toArray = arr := ⟨_, rfl⟩
        rw [harr] at hmk
        have HARR := Aside0.mk harr
        clear harr
        have hgs : Aside0 (g < w.heap.size) := ⟨blk_lt HH.out⟩
        go_enter Try.func94, Try.ntmps94
        go_wp2_with fail
        go_quiet (fail)
        go_wp2_with fail
        go_loopw [6, 37] (fun v6 v37 w' => ∃ i : Nat, i ≤ n ∧ v37 = .int .i64 i ∧ Aside0 (RrV w' g (.slice A l.length c) (a + 8 * i) false) ∧ Aside0 (Kp (fun b => b = g) w w') ∧ Aside0 (w'.heap[w.heap.size]? = some (.cells (nums .u64 (fillL (fun i => getN l (a + 8 * i) 8) n i)).toArray 45 (0, 0)))) (fun _ v37 _ => n - (intOf v37).toNat)
        case atStart => exact ⟨0, by omega, rfl, ⟨by simpa using (HH.out.below (below_alloc (pw_below_drewN (Below.refl _ _) _) _))⟩, ⟨Kp.of_below (below_alloc (pw_below_drewN (Below.refl _ _) _) _) _⟩, ⟨by rw [HARR.out]; exact blk_new _ _⟩⟩
        case round =>
          obtain ⟨i, hi, rfl, HR1, HK1, HB1⟩ := hrel
          clear hc0 hc1 hc2 hf2
          by_cases c3 : i < n
          · have HF := Aside0.mk (show rOk false l.length (a + 8 * (i : Int)) 8 = true by simp only [rOk, Bool.not_false, Bool.true_and]; exact fits_ok ⟨by omega, by omega, by omega, by omega⟩)
            go_wp2_with fail
            refine (Reader_Num_calls 8 _ g _ l _ false HR1.out (HV.out.kp HK1.out (fun A n c e hp hh => HFAR.out A n c e hp hh)) HIB.out).mono ?_
            rintro e w2 ⟨rfl, hr2, hk2⟩
            rw [HF.out] at hr2 ⊢
            obtain ⟨x, hx⟩ : ∃ x, getN l (a + 8 * (i : Int)) 8 = x := ⟨_, rfl⟩
            have hx0 := getN_bound l HIB.out (a + 8 * (i : Int)) 8
            simp only [cond_true, Bool.not_true, hx] at hr2 hx0 ⊢
            have hb2 := hk2.blk HB1.out (fun e => by have := hgs.out; omega)
            have hfz := blk_frozen hb2 i
            obtain ⟨y, hy⟩ : ∃ y, w2.cell? ⟨w.heap.size, i, none⟩ = some y := ⟨_, (blk_cell hb2 i).trans (Array.getElem?_eq_getElem (by simp [nums, fillL_len _ n i hi]; exact c3))⟩
            have HX := Aside0.mk hx
            have HR2 := Aside0.mk hr2
            have HK2 := Aside0.mk ((HK1.out).trans hk2 (fun k hk => .inl hk))
            have HB2 := Aside0.mk hb2
            clear hr2 hk2 hb2 hx
            go_wp2_with fail
            go_roundw
            case rel =>
              refine ⟨i + 1, by omega, by go_num, ⟨?_⟩, ⟨?_⟩, ⟨?_⟩⟩
              · have h1 : RrV w2 g (.slice A l.length c) (a + 8 * ((i + 1 : Nat) : Int)) false := by have := HR2.out; rw [show a + 8 * (i : Int) + 8 = a + 8 * ((i + 1 : Nat) : Int) by omega] at this; exact this
                exact (Below.heap_setCell w2 _ _ g (by have := hgs.out; simp; omega)).trans h1
              · exact ⟨HK2.out.os, HK2.out.tape, HK2.out.output, by simpa [World.setCell] using HK2.out.size, fun b hb hn => (Below.heap_setCell w2 _ _ b (by simp; omega)).trans (HK2.out.block b hb hn)⟩
              · have := blk_set HB2.out i (.int .u64 x)
                rw [nums_set, fillL_set (fun i => getN l (a + 8 * i) 8) n i c3 HX.out] at this
                exact this
            case measure => simp [intOf]; omega
          · have HI := Aside0.mk (show i = n by omega)
            go_wp2_with fail
            go_ret
            refine ⟨_, rfl, ?_, ?_, HK1.out⟩
            · have := HB1.out
              rw [HI.out, wordsAt_fill] at this
              have h2 := own_blk this (Nat.le_refl _) (by rw [wordsAt_len]; omega)
              rw [wordsAt_len] at h2
              simpa using h2
            · have := HR1.out
              rw [HI.out] at this
              simpa using this
/-- The bytes from a on, so many. -/
def rawAt (l : List Int) (a k : Int) : List Int := (l.take (a + k).toNat).drop a.toNat
theorem rawAt_isB {l : List Int} (h : isB l) (a k : Int) : isB (rawAt l a k) := (h.take _).drop _
theorem rawAt_len (l : List Int) (a k : Int) (h0 : 0 ≤ a) (h1 : 0 ≤ k) (h2 : a + k ≤ l.length) : ((rawAt l a k).length : Int) = k := by simp [rawAt]; omega
def kOk (bad : Bool) (n a k : Int) : Bool := !bad && decide (0 ≤ k ∧ k ≤ n - a)
def RrK (w w' : World) (g : Nat) (v : Value) (l : List Int) (a : Int) (bad : Bool) (k : Int) : Prop := RrV w' g v (bif kOk bad l.length a k then a + k else a) (!(kOk bad l.length a k)) ∧ Kp (fun b => b = g) w w'
set_option maxHeartbeats 8000000 in
set_option maxRecDepth 100000 in
theorem Reader_Raw_calls (k : Int) (w : World) (g : Nat) (v : Value) (l : List Int) (a : Int) (bad : Bool) (h : RrV w g v a bad) (hr : Rd w .u8 v l) (hb : isB l) (ha0 : 0 ≤ a) (ha1 : a ≤ (l.length : Int)) (hl : l.length ≤ 140737488355328) :
    Calls Try.prog 95 #[.pointer (some ⟨g, 0, none⟩), .int .i64 k] w fun e w' => ∃ u, e = .returned u ∧ Own (Value.int .u8) w' w.heap.size 5 u (bif kOk bad l.length a k then rawAt l a k else []) ∧ RrK w w' g v l a bad k := by
  have HH := Aside0.mk h
  have HV := Aside0.mk hr
  have HIB := Aside0.mk hb
  have hc0 := h.c0
  have hc1 := h.c1
  have hc2 := h.c2
  have hf2 := blk_frozen h 2
  obtain ⟨A, c, ev, hc, hm, hrd⟩ := hr.mid
  clear h hr hb hrd
  subst ev
  obtain ⟨q, hq⟩ : ∃ q : Int, (l.length : Int) - a = q := ⟨_, rfl⟩
  obtain ⟨hq0, hq1, hq2⟩ : 0 ≤ q ∧ a + q = (l.length : Int) ∧ q ≤ 140737488355328 := by omega
  have hsub : IntKind.i64.wrap ((l.length : Int) - a) = q := by rw [IntKind.wrap_i64]; omega
  have HQ := Aside0.mk hq
  clear hq
  have HNO : kOk bad l.length a k = false → Aside0 (∀ nq, ∃ u, (.returned (.slice none 0 0) : Ending) = .returned u ∧ Own (Value.int .u8) ((w.drewN nq).setCell ⟨g, 2, none⟩ (.bool true)) w.heap.size 5 u (bif kOk bad l.length a k then rawAt l a k else []) ∧ RrK w ((w.drewN nq).setCell ⟨g, 2, none⟩ (.bool true)) g (.slice A l.length c) l a bad k) := fun e => ⟨fun nq => ⟨_, rfl, by rw [e]; exact Own.nil _ _ _ _, by
    rw [RrK, e]
    exact ⟨(HH.out.below (pw_below_drewN (Below.refl _ _) nq)).s2 true, ((Kp.of_below (pw_below_drewN (Below.refl _ _) nq) _).trans (Kp.set _ _ _) (fun k hk => .inl hk))⟩⟩⟩
  cases bad with
  | true =>
    have H := HNO (by simp [kOk])
    clear HNO
    go_enter Try.func95, Try.ntmps95
    go_wp2_with fail
    go_quiet (fail)
    go_wp2_with fail
    go_ret
    exact H.out _
  | false =>
    by_cases c1 : k < 0
    · have H := HNO (by have := HQ.out; simp [kOk]; omega)
      clear HNO
      go_enter Try.func95, Try.ntmps95
      go_wp2_with fail
      go_quiet (fail)
      go_wp2_with fail
      go_ret
      exact H.out _
    · by_cases c2 : q < k
      · have d1 : decide (k < 0) = false := decide_eq_false c1
        have d2 : decide (q < k) = true := decide_eq_true c2
        have H := HNO (by have := HQ.out; simp [kOk]; omega)
        clear HNO
        go_enter Try.func95, Try.ntmps95
        go_wp2_with fail
        go_quiet (fail)
        go_wp2_with fail
        go_ret
        exact H.out _
      · have HO := Aside0.mk (show kOk false l.length a k = true by have := HQ.out; simp [kOk]; omega)
        have d1 : decide (k < 0) = false := decide_eq_false c1
        have d2 : decide (q < k) = false := decide_eq_false c2
        clear HNO
        rw [HO.out]
        simp only [RrK, HO.out]
        have hsum : wrap64 (a + k) = a + k := by unfold wrap64; omega
        obtain ⟨i5, hi5, hz5⟩ := infoU8'
        obtain ⟨v', hcut, hrd⟩ := Rd.cut 37 5 Try.underlying37 hi5 hz5 HV.out a (a + k) ha0 (by omega) (by omega)
        have HRD := Aside0.mk hrd
        clear hrd hi5 hz5
        have hgs : Aside0 (g < w.heap.size) := ⟨blk_lt HH.out⟩
        have HLL : Aside0 ((rawAt l a k).length ≤ 140737488355328) := ⟨by have := rawAt_len l a k ha0 (by omega) (by omega); omega⟩
        go_enter Try.func95, Try.ntmps95
        go_wp2_with fail
        go_quiet (fail)
        have HB0 := Aside0.mk (pw_below_drewN (Below.refl w.heap.size w) nq)
        have hn0 := (HH.out.below HB0.out).c0
        have hn1 := (HH.out.below HB0.out).c1
        go_wp2_with fail
        refine start_ (n := 17) (S := fun w' => w'.cell? ⟨g, 0, none⟩ = some (.slice A l.length c) ∧ w'.cell? ⟨g, 1, none⟩ = some (.int .i64 a)) (ds := []) #[false, false, false, false, false, false, false, false, false, false, false, false, false, false, false, false, false] (by kernel_rfl) rfl rfl ⟨hn0, hn1⟩ (fun hHeld => ?_)
        refine pure_ (i := 0) (N := some 31) (v := ?_) (a' := ?_) #[true, false, false, false, false, false, false, false, false, false, false, false, false, false, false, false, false] rfl rfl (by kernel_rfl) (fun _ _ _ h => h) (Or.inl ⟨by rfl, ?_⟩) ?_ ?_
        rotate_left
        · intro w'
          go_simp
          with_reducible rfl
        rotate_left
        · simp only [Act.put, List.setIfInBounds_toArray, List.set_cons_zero, List.set_cons_succ, i64_w, i32_w]
          rfl
        refine pure_ (i := 1) (N := some 32) (v := ?_) (a' := ?_) #[true, true, false, false, false, false, false, false, false, false, false, false, false, false, false, false, false] rfl rfl (by kernel_rfl) (fun _ _ _ h => h) (Or.inl ⟨by rfl, ?_⟩) ?_ ?_
        rotate_left
        · intro w'
          go_simp
          with_reducible rfl
        rotate_left
        · simp only [Act.put, List.setIfInBounds_toArray, List.set_cons_zero, List.set_cons_succ, i64_w, i32_w]
          rfl
        refine pure_ (i := 2) (N := some 33) (v := ?_) (a' := ?_) #[true, true, true, false, false, false, false, false, false, false, false, false, false, false, false, false, false] rfl rfl (by kernel_rfl) (fun _ _ _ h => h) (Or.inl ⟨by rfl, ?_⟩) ?_ ?_
        rotate_left
        · intro w'
          go_simp
          with_reducible rfl
        rotate_left
        · simp only [Act.put, List.setIfInBounds_toArray, List.set_cons_zero, List.set_cons_succ, i64_w, i32_w]
          rfl
        refine pure_ (i := 4) (N := some 35) (v := ?_) (a' := ?_) #[true, true, true, false, true, false, false, false, false, false, false, false, false, false, false, false, false] rfl rfl (by kernel_rfl) (fun _ _ _ h => h) (Or.inl ⟨by rfl, ?_⟩) ?_ ?_
        rotate_left
        · intro w'
          go_simp
          with_reducible rfl
        rotate_left
        · simp only [Act.put, List.setIfInBounds_toArray, List.set_cons_zero, List.set_cons_succ, i64_w, i32_w]
          rfl
        refine pure_ (i := 5) (N := some 36) (v := ?_) (a' := ?_) #[true, true, true, false, true, true, false, false, false, false, false, false, false, false, false, false, false] rfl rfl (by kernel_rfl) (fun _ _ _ h => h) (Or.inl ⟨by rfl, ?_⟩) ?_ ?_
        rotate_left
        · intro w'
          go_simp
          with_reducible rfl
        rotate_left
        · simp only [Act.put, List.setIfInBounds_toArray, List.set_cons_zero, List.set_cons_succ, i64_w, i32_w]
          rfl
        refine pure_ (i := 6) (N := some 37) (v := ?_) (a' := ?_) #[true, true, true, false, true, true, true, false, false, false, false, false, false, false, false, false, false] rfl rfl (by kernel_rfl) (fun _ _ _ h => h) (Or.inl ⟨by rfl, ?_⟩) ?_ ?_
        rotate_left
        · intro w'
          go_simp
          with_reducible rfl
        rotate_left
        · simp only [Act.put, List.setIfInBounds_toArray, List.set_cons_zero, List.set_cons_succ, i64_w, i32_w]
          rfl
        refine pure_ (i := 8) (N := some 39) (v := ?_) (a' := ?_) #[true, true, true, false, true, true, true, false, true, false, false, false, false, false, false, false, false] rfl rfl (by kernel_rfl) (fun _ _ _ h => h) (Or.inl ⟨by rfl, ?_⟩) ?_ ?_
        rotate_left
        · intro w'
          go_simp
          with_reducible rfl
        rotate_left
        · simp only [Act.put, List.setIfInBounds_toArray, List.set_cons_zero, List.set_cons_succ, i64_w, i32_w]
          rfl
        refine pure_ (i := 9) (N := some 40) (v := ?_) (a' := ?_) #[true, true, true, false, true, true, true, false, true, true, false, false, false, false, false, false, false] rfl rfl (by kernel_rfl) (fun _ _ _ h => h) (Or.inl ⟨by rfl, ?_⟩) ?_ ?_
        rotate_left
        · intro w'
          go_simp
          with_reducible rfl
        rotate_left
        · simp only [Act.put, List.setIfInBounds_toArray, List.set_cons_zero, List.set_cons_succ, i64_w, i32_w]
          rfl
        refine pure_ (i := 10) (N := some 41) (v := ?_) (a' := ?_) #[true, true, true, false, true, true, true, false, true, true, true, false, false, false, false, false, false] rfl rfl (by kernel_rfl) (fun _ _ _ h => h) (Or.inl ⟨by rfl, ?_⟩) ?_ ?_
        rotate_left
        · intro w'
          go_simp
          with_reducible rfl
        rotate_left
        · simp only [Act.put, List.setIfInBounds_toArray, List.set_cons_zero, List.set_cons_succ, i64_w, i32_w]
          rfl
        refine pure_ (i := 12) (N := some 43) (v := ?_) (a' := ?_) #[true, true, true, false, true, true, true, false, true, true, true, false, true, false, false, false, false] rfl rfl (by kernel_rfl) (fun _ _ _ h => h) (Or.inl ⟨by rfl, ?_⟩) ?_ ?_
        rotate_left
        · intro w'
          go_simp
          with_reducible rfl
        rotate_left
        · simp only [Act.put, List.setIfInBounds_toArray, List.set_cons_zero, List.set_cons_succ, i64_w, i32_w]
          rfl
        refine take_ (i := 3) (N := some 34) (v := ?_) (a' := ?_) #[true, true, true, true, true, true, true, false, true, true, true, false, true, false, false, false, false] rfl rfl (by kernel_rfl) (fun _ _ _ h => h) (Or.inl ⟨by rfl, ?_⟩) hHeld ?_ ?_
        rotate_left
        · rintro w' ⟨s0, s1⟩
          go_simp
          with_reducible rfl
        rotate_left
        · simp only [Act.put, List.setIfInBounds_toArray, List.set_cons_zero, List.set_cons_succ, i64_w, i32_w]
          rfl
        refine take_ (i := 7) (N := some 38) (v := ?_) (a' := ?_) #[true, true, true, true, true, true, true, true, true, true, true, false, true, false, false, false, false] rfl rfl (by kernel_rfl) (fun _ _ _ h => h) (Or.inl ⟨by rfl, ?_⟩) hHeld ?_ ?_
        rotate_left
        · rintro w' ⟨s0, s1⟩
          go_simp
          with_reducible rfl
        rotate_left
        · simp only [Act.put, List.setIfInBounds_toArray, List.set_cons_zero, List.set_cons_succ, i64_w, i32_w]
          rfl
        refine take_ (i := 11) (N := some 42) (v := ?_) (a' := ?_) #[true, true, true, true, true, true, true, true, true, true, true, true, true, false, false, false, false] rfl rfl (by kernel_rfl) (fun _ _ _ h => h) (Or.inl ⟨by rfl, ?_⟩) hHeld ?_ ?_
        rotate_left
        · rintro w' ⟨s0, s1⟩
          go_simp
          with_reducible rfl
        rotate_left
        · simp only [Act.put, List.setIfInBounds_toArray, List.set_cons_zero, List.set_cons_succ, i64_w, i32_w]
          rfl
        refine pure_ (i := 13) (N := some 44) (v := ?_) (a' := ?_) #[true, true, true, true, true, true, true, true, true, true, true, true, true, true, false, false, false] rfl rfl (by kernel_rfl) (fun _ _ _ h => h) (Or.inl ⟨by rfl, ?_⟩) ?_ ?_
        rotate_left
        · intro w'
          go_simp
          with_reducible rfl
        rotate_left
        · simp only [Act.put, List.setIfInBounds_toArray, List.set_cons_zero, List.set_cons_succ, i64_w, i32_w]
          rfl
        refine pure_ (i := 14) (N := some 45) (v := ?_) (a' := ?_) #[true, true, true, true, true, true, true, true, true, true, true, true, true, true, true, false, false] rfl rfl (by kernel_rfl) (fun _ _ _ h => h) (Or.inl ⟨by rfl, ?_⟩) ?_ ?_
        rotate_left
        · intro w'
          go_simp
          with_reducible rfl
        rotate_left
        · simp only [Act.put, List.setIfInBounds_toArray, List.set_cons_zero, List.set_cons_succ, i64_w, i32_w]
          rfl
        refine one_ (i := 15) (N := some 46) #[true, true, true, true, true, true, true, true, true, true, true, true, true, true, true, true, false] rfl rfl (by kernel_rfl) (by decide) (fun K hK => ?_)
        refine goes_ Try.func121 (by kernel_rfl) rfl #[v'] (by rfl) rfl rfl (by (try simp only [List.map_toArray, List.map_cons, List.map_nil]); first | done | rfl) ?_
        with_reducible refine (Clone8_calls v' (rawAt l a k) _ (HRD.out _ (HV.out.below (below_drew HB0.out))) HLL.out).mono ?_
        rintro e w3 ⟨v3, rfl, hO3, hb3⟩
        refine ⟨_, rfl, ?_⟩
        have h3 := HH.out.below (below_step (below_drew HB0.out) hb3)
        have hc30 := h3.c0
        have hc31 := h3.c1
        refine hK.out _ _ ⟨hc30, hc31⟩ (fun hHeld => ?_)
        clear hK K
        refine norm_ (a' := ?_) ?_ ?_
        rotate_left
        · show Act.put _ (some 46) _ = _
          simp only [Act.put, List.setIfInBounds_toArray, List.set_cons_zero, List.set_cons_succ, i64_w, i32_w]
          rfl
        refine pure_ (i := 16) (N := some 5) (v := ?_) (a' := ?_) #[true, true, true, true, true, true, true, true, true, true, true, true, true, true, true, true, true] rfl rfl (by kernel_rfl) (fun _ _ _ h => h) (Or.inl ⟨by rfl, ?_⟩) ?_ ?_
        rotate_left
        · intro w'
          go_simp
          with_reducible rfl
        rotate_left
        · simp only [Act.put, List.setIfInBounds_toArray, List.set_cons_zero, List.set_cons_succ, i64_w, i32_w]
          rfl
        refine done_ (by kernel_rfl) ?_
        have HO3 := Aside0.mk hO3
        have HB3 := Aside0.mk (below_step (below_drew HB0.out) hb3)
        have hz1 := h3.c1
        have hf1 := blk_frozen h3 1
        have HH3 := Aside0.mk h3
        have HG := Aside0.mk (show v3.ownBlock ≠ some g from fun e => by have h1 := hO3.ge e; have h2 := hgs.out; have h3 := (below_drew HB0.out).size; omega)
        have HW := Aside0.mk (below_drew HB0.out).size
        clear hO3 hb3 h3 hn0 hn1 hc0 hc1 hc2 hf2
        go_wp2_with fail
        go_ret
        exact ⟨_, rfl, (HO3.out.weaken HW.out).move (fun b hb => Below.heap_setCell _ _ _ b (fun e => HG.out (by rw [hb, e]))), HH3.out.s1 _, (Kp.of_below HB3.out _).trans (Kp.set _ _ _) (fun k hk => .inl hk)⟩
theorem take_eq_all {l0 l1 : List Int} (h : l0.length = l1.length) (h2 : l0.take l0.length = l1.take l0.length) : l0 = l1 := by
  rw [List.take_length, h, List.take_length] at h2
  exact h2
end Go.Proofs.Ytplmdgimodgekaa
