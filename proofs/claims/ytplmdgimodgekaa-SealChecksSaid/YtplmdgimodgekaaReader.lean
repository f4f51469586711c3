/- Contracts of le.Reader over this translation: a block of three cells: the bytes, the place, whether it went wrong. -/
import Derived.Test.YtplmdgimodgekaaLe3
import Derived.Test.YtplmdgimodgekaaWriter
namespace Go.Proofs.Ytplmdgimodgekaa
open Go.RowKit Go.Proofs.YtplmdgimodgekaaW.PrintWords Go.Proofs.YtplmdgimodgekaaW.PrintLast Go.Proofs.YtplmdgimodgekaaW.PrintMore
attribute [local go_sem] max2_int min2_int max_two min_two max_three min_three max_four min_four   -- for this text's walks alone
set_option linter.unusedVariables false
set_option linter.unusedSimpArgs false

def RrV (W : World) (g : Nat) (v : Value) (a : Int) (bad : Bool) : Prop := W.heap[g]? = some (.cells #[v, .int .i64 a, .bool bad] 195 (0, 0))
theorem RrV.c0 {W : World} {g : Nat} {v : Value} {a : Int} {bad : Bool} (h : RrV W g v a bad) : W.cell? ⟨g, 0, none⟩ = some v := blk_cell h 0
theorem RrV.c1 {W : World} {g : Nat} {v : Value} {a : Int} {bad : Bool} (h : RrV W g v a bad) : W.cell? ⟨g, 1, none⟩ = some (.int .i64 a) := blk_cell h 1
theorem RrV.c2 {W : World} {g : Nat} {v : Value} {a : Int} {bad : Bool} (h : RrV W g v a bad) : W.cell? ⟨g, 2, none⟩ = some (.bool bad) := blk_cell h 2
theorem RrV.below {W W1 : World} {g : Nat} {v : Value} {a : Int} {bad : Bool} (h : RrV W g v a bad) (hb : Below W.heap.size W W1) : RrV W1 g v a bad := blk_below h hb
theorem RrV.s1 {W : World} {g : Nat} {v : Value} {a : Int} {bad : Bool} (h : RrV W g v a bad) (b : Int) : RrV (W.setCell ⟨g, 1, none⟩ (.int .i64 b)) g v b bad := by have := blk_set h 1 (.int .i64 b); simpa [RrV] using this
theorem RrV.s2 {W : World} {g : Nat} {v : Value} {a : Int} {bad : Bool} (h : RrV W g v a bad) (b : Bool) : RrV (W.setCell ⟨g, 2, none⟩ (.bool b)) g v a b := by have := blk_set h 2 (.bool b); simpa [RrV] using this
theorem Rd.kp {w w1 : World} {k : IntKind} {u : Value} {xs : List Int} {S : Nat → Prop} (h : Rd w k u xs) (hk : Kp S w w1) (hS : ∀ (A : Addr) n c, u = .slice (some A) n c → 0 < xs.length → ¬ S A.block) : Rd w1 k u xs :=
  RdE.move (enc := Value.int k) (d := (0 : Int)) h (fun A ⟨n, c, e, hp⟩ => hk.block _ (rd_old h e hp) (hS A n c e hp))
/-- All is there: so many bytes may be taken. -/
def rOk (bad : Bool) (n a w : Int) : Bool := !bad && fitsB n a w
set_option maxHeartbeats 8000000 in
set_option maxRecDepth 100000 in
theorem le_Read_calls (v : Value) (l : List Int) (a : Int) (w : World) (hr : Rd w .u8 v l) (hl : (l.length : Int) ≤ 9223372036854775807) :
    Calls Try.prog 93 #[v, .int .i64 a] w fun e w' => e = .returned (.pointer (some ⟨w.heap.size, 0, none⟩)) ∧ Below w.heap.size w w' ∧ (if 0 ≤ a ∧ a ≤ (l.length : Int) then RrV w' w.heap.size v a false else RrV w' w.heap.size (.slice none 0 0) 0 true) := by
  obtain ⟨A, c, e, hc, hm, hr⟩ := hr.mid
  clear hr
  subst e
  by_cases c1 : a < 0
  · have H := Aside0.mk (show ¬ (0 ≤ a ∧ a ≤ (l.length : Int)) by omega)
    go_enter Try.func93, Try.ntmps93
    go_wp2
    go_ret
    exact ⟨rfl, below_alloc (Below.refl _ _) _, by first | exact blk_new _ _ | (rw [if_neg H.out]; exact blk_new _ _)⟩
  · by_cases c2 : (l.length : Int) < a
    · have H := Aside0.mk (show ¬ (0 ≤ a ∧ a ≤ (l.length : Int)) by omega)
      go_enter Try.func93, Try.ntmps93
      go_wp2
      go_ret
      exact ⟨rfl, below_alloc (Below.refl _ _) _, by first | exact blk_new _ _ | (rw [if_neg H.out]; exact blk_new _ _)⟩
    · have H := Aside0.mk (show (0 ≤ a ∧ a ≤ (l.length : Int)) by omega)
      go_enter Try.func93, Try.ntmps93
      go_wp2
      go_ret
      exact ⟨rfl, below_alloc (Below.refl _ _) _, by first | exact blk_new _ _ | (rw [if_pos H.out]; exact blk_new _ _)⟩
/-- What one number's taking makes of the place and the mark. -/
def RrN (w w' : World) (g : Nat) (v : Value) (l : List Int) (a : Int) (bad : Bool) (width : Int) : Prop := RrV w' g v (bif rOk bad l.length a width then a + width else a) (!(rOk bad l.length a width)) ∧ Kp (fun k => k = g) w w'
set_option maxHeartbeats 8000000 in
set_option maxRecDepth 100000 in
theorem Reader_Num_calls (width : Int) (w : World) (g : Nat) (v : Value) (l : List Int) (a : Int) (bad : Bool) (h : RrV w g v a bad) (hr : Rd w .u8 v l) (hb : isB l) :
    Calls Try.prog 122 #[.pointer (some ⟨g, 0, none⟩), .int .i64 width] w fun e w' => e = .returned (.int .u64 (bif rOk bad l.length a width then getN l a width else 0)) ∧ RrN w w' g v l a bad width := by
  have HH := Aside0.mk h
  have HV := Aside0.mk hr
  have HIB := Aside0.mk hb
  have hc0 := h.c0
  have hc1 := h.c1
  have hm : l.length ≤ 9223372036854775807 := by obtain ⟨_, _, _, _, hm, _⟩ := hr.mid; exact hm
  clear h hr hb
  cases hf : fitsB l.length a width with
  | false =>
    have HF := Aside0.mk hf
    have HO := Aside0.mk (show rOk bad l.length a width = false by simp [rOk, hf])
    clear hf
    go_enter Try.func122, Try.ntmps122
    go_wp2_with fail
    refine start_ (n := 15) (S := fun w' => w'.cell? ⟨g, 0, none⟩ = some v ∧ w'.cell? ⟨g, 1, none⟩ = some (.int .i64 a)) (ds := []) #[false, false, false, false, false, false, false, false, false, false, false, false, false, false, false] (by kernel_rfl) rfl rfl ⟨hc0, hc1⟩ (fun hHeld => ?_)
    refine pure_ (i := 0) (N := some 8) (v := ?_) (a' := ?_) #[true, false, false, false, false, false, false, false, false, false, false, false, false, false, false] rfl rfl (by kernel_rfl) (fun _ _ _ h => h) (Or.inl ⟨by rfl, ?_⟩) ?_ ?_
    rotate_left
    · intro w'
      go_simp
      with_reducible rfl
    rotate_left
    · simp only [Act.put, List.setIfInBounds_toArray, List.set_cons_zero, List.set_cons_succ, i64_w, i32_w]
      rfl
    refine pure_ (i := 1) (N := some 9) (v := ?_) (a' := ?_) #[true, true, false, false, false, false, false, false, false, false, false, false, false, false, false] rfl rfl (by kernel_rfl) (fun _ _ _ h => h) (Or.inl ⟨by rfl, ?_⟩) ?_ ?_
    rotate_left
    · intro w'
      go_simp
      with_reducible rfl
    rotate_left
    · simp only [Act.put, List.setIfInBounds_toArray, List.set_cons_zero, List.set_cons_succ, i64_w, i32_w]
      rfl
    refine pure_ (i := 2) (N := some 10) (v := ?_) (a' := ?_) #[true, true, true, false, false, false, false, false, false, false, false, false, false, false, false] rfl rfl (by kernel_rfl) (fun _ _ _ h => h) (Or.inl ⟨by rfl, ?_⟩) ?_ ?_
    rotate_left
    · intro w'
      go_simp
      with_reducible rfl
    rotate_left
    · simp only [Act.put, List.setIfInBounds_toArray, List.set_cons_zero, List.set_cons_succ, i64_w, i32_w]
      rfl
    refine pure_ (i := 4) (N := some 12) (v := ?_) (a' := ?_) #[true, true, true, false, true, false, false, false, false, false, false, false, false, false, false] rfl rfl (by kernel_rfl) (fun _ _ _ h => h) (Or.inl ⟨by rfl, ?_⟩) ?_ ?_
    rotate_left
    · intro w'
      go_simp
      with_reducible rfl
    rotate_left
    · simp only [Act.put, List.setIfInBounds_toArray, List.set_cons_zero, List.set_cons_succ, i64_w, i32_w]
      rfl
    refine pure_ (i := 5) (N := some 13) (v := ?_) (a' := ?_) #[true, true, true, false, true, true, false, false, false, false, false, false, false, false, false] rfl rfl (by kernel_rfl) (fun _ _ _ h => h) (Or.inl ⟨by rfl, ?_⟩) ?_ ?_
    rotate_left
    · intro w'
      go_simp
      with_reducible rfl
    rotate_left
    · simp only [Act.put, List.setIfInBounds_toArray, List.set_cons_zero, List.set_cons_succ, i64_w, i32_w]
      rfl
    refine pure_ (i := 6) (N := some 14) (v := ?_) (a' := ?_) #[true, true, true, false, true, true, true, false, false, false, false, false, false, false, false] rfl rfl (by kernel_rfl) (fun _ _ _ h => h) (Or.inl ⟨by rfl, ?_⟩) ?_ ?_
    rotate_left
    · intro w'
      go_simp
      with_reducible rfl
    rotate_left
    · simp only [Act.put, List.setIfInBounds_toArray, List.set_cons_zero, List.set_cons_succ, i64_w, i32_w]
      rfl
    refine pure_ (i := 8) (N := some 16) (v := ?_) (a' := ?_) #[true, true, true, false, true, true, true, false, true, false, false, false, false, false, false] rfl rfl (by kernel_rfl) (fun _ _ _ h => h) (Or.inl ⟨by rfl, ?_⟩) ?_ ?_
    rotate_left
    · intro w'
      go_simp
      with_reducible rfl
    rotate_left
    · simp only [Act.put, List.setIfInBounds_toArray, List.set_cons_zero, List.set_cons_succ, i64_w, i32_w]
      rfl
    refine take_ (i := 3) (N := some 11) (v := ?_) (a' := ?_) #[true, true, true, true, true, true, true, false, true, false, false, false, false, false, false] rfl rfl (by kernel_rfl) (fun _ _ _ h => h) (Or.inl ⟨by rfl, ?_⟩) hHeld ?_ ?_
    rotate_left
    · rintro w' ⟨s0, s1⟩
      go_simp
      with_reducible rfl
    rotate_left
    · simp only [Act.put, List.setIfInBounds_toArray, List.set_cons_zero, List.set_cons_succ, i64_w, i32_w]
      rfl
    refine take_ (i := 7) (N := some 15) (v := ?_) (a' := ?_) #[true, true, true, true, true, true, true, true, true, false, false, false, false, false, false] rfl rfl (by kernel_rfl) (fun _ _ _ h => h) (Or.inl ⟨by rfl, ?_⟩) hHeld ?_ ?_
    rotate_left
    · rintro w' ⟨s0, s1⟩
      go_simp
      with_reducible rfl
    rotate_left
    · simp only [Act.put, List.setIfInBounds_toArray, List.set_cons_zero, List.set_cons_succ, i64_w, i32_w]
      rfl
    refine one_ (i := 9) (N := some 17) #[true, true, true, true, true, true, true, true, true, true, false, false, false, false, false] rfl rfl (by kernel_rfl) (by decide) (fun K hK => ?_)
    refine goes_ Try.func143 (by kernel_rfl) rfl #[v, .int .i64 a, .int .i64 width] (by rfl) rfl rfl (by (try simp only [List.map_toArray, List.map_cons, List.map_nil]); first | done | rfl) ?_
    with_reducible refine (le_Get_calls v l a width _ (HV.out.below (below_drew (Below.refl _ _))) HIB.out).mono ?_
    rintro e w3 ⟨rfl, hb3⟩
    refine ⟨_, rfl, ?_⟩
    have h3 := HH.out.below (below_step (below_drew (Below.refl _ _)) hb3)
    have hc30 := h3.c0
    have hc31 := h3.c1
    rw [HF.out]
    refine hK.out _ _ ⟨hc30, hc31⟩ (fun hHeld => ?_)
    clear hK K
    refine norm_ (a' := ?_) ?_ ?_
    rotate_left
    · show Act.put _ (some 17) _ = _
      simp only [Act.put, List.setIfInBounds_toArray, List.set_cons_zero, List.set_cons_succ, i64_w, i32_w]
      rfl
    refine pure_ (i := 10) (N := some 7) (v := ?_) (a' := ?_) #[true, true, true, true, true, true, true, true, true, true, true, false, false, false, false] rfl rfl (by kernel_rfl) (fun _ _ _ h => h) (Or.inl ⟨by rfl, ?_⟩) ?_ ?_
    rotate_left
    · intro w'
      go_simp
      with_reducible rfl
    rotate_left
    · simp only [Act.put, List.setIfInBounds_toArray, List.set_cons_zero, List.set_cons_succ, i64_w, i32_w]
      rfl
    refine pure_ (i := 11) (N := some 18) (v := ?_) (a' := ?_) #[true, true, true, true, true, true, true, true, true, true, true, true, false, false, false] rfl rfl (by kernel_rfl) (fun _ _ _ h => h) (Or.inl ⟨by rfl, ?_⟩) ?_ ?_
    rotate_left
    · intro w'
      go_simp
      with_reducible rfl
    rotate_left
    · simp only [Act.put, List.setIfInBounds_toArray, List.set_cons_zero, List.set_cons_succ, i64_w, i32_w]
      rfl
    refine pure_ (i := 12) (N := some 19) (v := ?_) (a' := ?_) #[true, true, true, true, true, true, true, true, true, true, true, true, true, false, false] rfl rfl (by kernel_rfl) (fun _ _ _ h => h) (Or.inl ⟨by rfl, ?_⟩) ?_ ?_
    rotate_left
    · intro w'
      go_simp
      with_reducible rfl
    rotate_left
    · simp only [Act.put, List.setIfInBounds_toArray, List.set_cons_zero, List.set_cons_succ, i64_w, i32_w]
      rfl
    refine pure_ (i := 13) (N := some 5) (v := ?_) (a' := ?_) #[true, true, true, true, true, true, true, true, true, true, true, true, true, true, false] rfl rfl (by kernel_rfl) (fun _ _ _ h => h) (Or.inl ⟨by rfl, ?_⟩) ?_ ?_
    rotate_left
    · intro w'
      go_simp
      with_reducible rfl
    rotate_left
    · simp only [Act.put, List.setIfInBounds_toArray, List.set_cons_zero, List.set_cons_succ, i64_w, i32_w]
      rfl
    refine pure_ (i := 14) (N := some 6) (v := ?_) (a' := ?_) #[true, true, true, true, true, true, true, true, true, true, true, true, true, true, true] rfl rfl (by kernel_rfl) (fun _ _ _ h => h) (Or.inl ⟨by rfl, ?_⟩) ?_ ?_
    rotate_left
    · intro w'
      go_simp
      with_reducible rfl
    rotate_left
    · simp only [Act.put, List.setIfInBounds_toArray, List.set_cons_zero, List.set_cons_succ, i64_w, i32_w]
      rfl
    refine done_ (by kernel_rfl) ?_
    have HB3 := Aside0.mk (below_step (below_drew (Below.refl _ _)) hb3)
    have hc32 := h3.c2
    have hf2 := blk_frozen h3 2
    have HH3 := Aside0.mk h3
    clear hb3 h3
    cases bad with
    | false =>
      go_wp2_with fail
      go_ret
      exact ⟨by rw [HO.out]; rfl, by rw [RrN, HO.out]; exact ⟨HH3.out.s2 true, (Kp.of_below HB3.out _).trans (Kp.set _ _ _) (fun k hk => .inl hk)⟩⟩
    | true =>
      go_wp2_with fail
      go_ret
      exact ⟨by rw [HO.out]; rfl, by rw [RrN, HO.out]; exact ⟨HH3.out.s2 true, (Kp.of_below HB3.out _).trans (Kp.set _ _ _) (fun k hk => .inl hk)⟩⟩
  | true =>
    have HF := Aside0.mk hf
    obtain ⟨q0, q1, q2, q3⟩ := fits_yes hf
    have hsum : wrap64 (a + width) = a + width := by unfold wrap64; omega
    obtain ⟨n, hn⟩ : ∃ n, getN l a width = n := ⟨_, rfl⟩
    rw [hn]
    have HN := Aside0.mk hn
    clear hf q0 hn
    go_enter Try.func122, Try.ntmps122
    go_wp2_with fail
    refine start_ (n := 15) (S := fun w' => w'.cell? ⟨g, 0, none⟩ = some v ∧ w'.cell? ⟨g, 1, none⟩ = some (.int .i64 a)) (ds := []) #[false, false, false, false, false, false, false, false, false, false, false, false, false, false, false] (by kernel_rfl) rfl rfl ⟨hc0, hc1⟩ (fun hHeld => ?_)
    refine pure_ (i := 0) (N := some 8) (v := ?_) (a' := ?_) #[true, false, false, false, false, false, false, false, false, false, false, false, false, false, false] rfl rfl (by kernel_rfl) (fun _ _ _ h => h) (Or.inl ⟨by rfl, ?_⟩) ?_ ?_
    rotate_left
    · intro w'
      go_simp
      with_reducible rfl
    rotate_left
    · simp only [Act.put, List.setIfInBounds_toArray, List.set_cons_zero, List.set_cons_succ, i64_w, i32_w]
      rfl
    refine pure_ (i := 1) (N := some 9) (v := ?_) (a' := ?_) #[true, true, false, false, false, false, false, false, false, false, false, false, false, false, false] rfl rfl (by kernel_rfl) (fun _ _ _ h => h) (Or.inl ⟨by rfl, ?_⟩) ?_ ?_
    rotate_left
    · intro w'
      go_simp
      with_reducible rfl
    rotate_left
    · simp only [Act.put, List.setIfInBounds_toArray, List.set_cons_zero, List.set_cons_succ, i64_w, i32_w]
      rfl
    refine pure_ (i := 2) (N := some 10) (v := ?_) (a' := ?_) #[true, true, true, false, false, false, false, false, false, false, false, false, false, false, false] rfl rfl (by kernel_rfl) (fun _ _ _ h => h) (Or.inl ⟨by rfl, ?_⟩) ?_ ?_
    rotate_left
    · intro w'
      go_simp
      with_reducible rfl
    rotate_left
    · simp only [Act.put, List.setIfInBounds_toArray, List.set_cons_zero, List.set_cons_succ, i64_w, i32_w]
      rfl
    refine pure_ (i := 4) (N := some 12) (v := ?_) (a' := ?_) #[true, true, true, false, true, false, false, false, false, false, false, false, false, false, false] rfl rfl (by kernel_rfl) (fun _ _ _ h => h) (Or.inl ⟨by rfl, ?_⟩) ?_ ?_
    rotate_left
    · intro w'
      go_simp
      with_reducible rfl
    rotate_left
    · simp only [Act.put, List.setIfInBounds_toArray, List.set_cons_zero, List.set_cons_succ, i64_w, i32_w]
      rfl
    refine pure_ (i := 5) (N := some 13) (v := ?_) (a' := ?_) #[true, true, true, false, true, true, false, false, false, false, false, false, false, false, false] rfl rfl (by kernel_rfl) (fun _ _ _ h => h) (Or.inl ⟨by rfl, ?_⟩) ?_ ?_
    rotate_left
    · intro w'
      go_simp
      with_reducible rfl
    rotate_left
    · simp only [Act.put, List.setIfInBounds_toArray, List.set_cons_zero, List.set_cons_succ, i64_w, i32_w]
      rfl
    refine pure_ (i := 6) (N := some 14) (v := ?_) (a' := ?_) #[true, true, true, false, true, true, true, false, false, false, false, false, false, false, false] rfl rfl (by kernel_rfl) (fun _ _ _ h => h) (Or.inl ⟨by rfl, ?_⟩) ?_ ?_
    rotate_left
    · intro w'
      go_simp
      with_reducible rfl
    rotate_left
    · simp only [Act.put, List.setIfInBounds_toArray, List.set_cons_zero, List.set_cons_succ, i64_w, i32_w]
      rfl
    refine pure_ (i := 8) (N := some 16) (v := ?_) (a' := ?_) #[true, true, true, false, true, true, true, false, true, false, false, false, false, false, false] rfl rfl (by kernel_rfl) (fun _ _ _ h => h) (Or.inl ⟨by rfl, ?_⟩) ?_ ?_
    rotate_left
    · intro w'
      go_simp
      with_reducible rfl
    rotate_left
    · simp only [Act.put, List.setIfInBounds_toArray, List.set_cons_zero, List.set_cons_succ, i64_w, i32_w]
      rfl
    refine take_ (i := 3) (N := some 11) (v := ?_) (a' := ?_) #[true, true, true, true, true, true, true, false, true, false, false, false, false, false, false] rfl rfl (by kernel_rfl) (fun _ _ _ h => h) (Or.inl ⟨by rfl, ?_⟩) hHeld ?_ ?_
    rotate_left
    · rintro w' ⟨s0, s1⟩
      go_simp
      with_reducible rfl
    rotate_left
    · simp only [Act.put, List.setIfInBounds_toArray, List.set_cons_zero, List.set_cons_succ, i64_w, i32_w]
      rfl
    refine take_ (i := 7) (N := some 15) (v := ?_) (a' := ?_) #[true, true, true, true, true, true, true, true, true, false, false, false, false, false, false] rfl rfl (by kernel_rfl) (fun _ _ _ h => h) (Or.inl ⟨by rfl, ?_⟩) hHeld ?_ ?_
    rotate_left
    · rintro w' ⟨s0, s1⟩
      go_simp
      with_reducible rfl
    rotate_left
    · simp only [Act.put, List.setIfInBounds_toArray, List.set_cons_zero, List.set_cons_succ, i64_w, i32_w]
      rfl
    refine one_ (i := 9) (N := some 17) #[true, true, true, true, true, true, true, true, true, true, false, false, false, false, false] rfl rfl (by kernel_rfl) (by decide) (fun K hK => ?_)
    refine goes_ Try.func143 (by kernel_rfl) rfl #[v, .int .i64 a, .int .i64 width] (by rfl) rfl rfl (by (try simp only [List.map_toArray, List.map_cons, List.map_nil]); first | done | rfl) ?_
    with_reducible refine (le_Get_calls v l a width _ (HV.out.below (below_drew (Below.refl _ _))) HIB.out).mono ?_
    rintro e w3 ⟨rfl, hb3⟩
    refine ⟨_, rfl, ?_⟩
    have h3 := HH.out.below (below_step (below_drew (Below.refl _ _)) hb3)
    have hc30 := h3.c0
    have hc31 := h3.c1
    rw [HF.out, HN.out]
    refine hK.out _ _ ⟨hc30, hc31⟩ (fun hHeld => ?_)
    clear hK K
    refine norm_ (a' := ?_) ?_ ?_
    rotate_left
    · show Act.put _ (some 17) _ = _
      simp only [Act.put, List.setIfInBounds_toArray, List.set_cons_zero, List.set_cons_succ, i64_w, i32_w]
      rfl
    refine pure_ (i := 10) (N := some 7) (v := ?_) (a' := ?_) #[true, true, true, true, true, true, true, true, true, true, true, false, false, false, false] rfl rfl (by kernel_rfl) (fun _ _ _ h => h) (Or.inl ⟨by rfl, ?_⟩) ?_ ?_
    rotate_left
    · intro w'
      go_simp
      with_reducible rfl
    rotate_left
    · simp only [Act.put, List.setIfInBounds_toArray, List.set_cons_zero, List.set_cons_succ, i64_w, i32_w]
      rfl
    refine pure_ (i := 11) (N := some 18) (v := ?_) (a' := ?_) #[true, true, true, true, true, true, true, true, true, true, true, true, false, false, false] rfl rfl (by kernel_rfl) (fun _ _ _ h => h) (Or.inl ⟨by rfl, ?_⟩) ?_ ?_
    rotate_left
    · intro w'
      go_simp
      with_reducible rfl
    rotate_left
    · simp only [Act.put, List.setIfInBounds_toArray, List.set_cons_zero, List.set_cons_succ, i64_w, i32_w]
      rfl
    refine pure_ (i := 12) (N := some 19) (v := ?_) (a' := ?_) #[true, true, true, true, true, true, true, true, true, true, true, true, true, false, false] rfl rfl (by kernel_rfl) (fun _ _ _ h => h) (Or.inl ⟨by rfl, ?_⟩) ?_ ?_
    rotate_left
    · intro w'
      go_simp
      with_reducible rfl
    rotate_left
    · simp only [Act.put, List.setIfInBounds_toArray, List.set_cons_zero, List.set_cons_succ, i64_w, i32_w]
      rfl
    refine pure_ (i := 13) (N := some 5) (v := ?_) (a' := ?_) #[true, true, true, true, true, true, true, true, true, true, true, true, true, true, false] rfl rfl (by kernel_rfl) (fun _ _ _ h => h) (Or.inl ⟨by rfl, ?_⟩) ?_ ?_
    rotate_left
    · intro w'
      go_simp
      with_reducible rfl
    rotate_left
    · simp only [Act.put, List.setIfInBounds_toArray, List.set_cons_zero, List.set_cons_succ, i64_w, i32_w]
      rfl
    refine pure_ (i := 14) (N := some 6) (v := ?_) (a' := ?_) #[true, true, true, true, true, true, true, true, true, true, true, true, true, true, true] rfl rfl (by kernel_rfl) (fun _ _ _ h => h) (Or.inl ⟨by rfl, ?_⟩) ?_ ?_
    rotate_left
    · intro w'
      go_simp
      with_reducible rfl
    rotate_left
    · simp only [Act.put, List.setIfInBounds_toArray, List.set_cons_zero, List.set_cons_succ, i64_w, i32_w]
      rfl
    refine done_ (by kernel_rfl) ?_
    have HB3 := Aside0.mk (below_step (below_drew (Below.refl _ _)) hb3)
    have hc31 := h3.c1
    have hc32 := h3.c2
    have hf1 := blk_frozen h3 1
    have hf2 := blk_frozen h3 2
    have HH3 := Aside0.mk h3
    clear hb3 h3
    cases bad with
    | false =>
      have HO := Aside0.mk (show rOk false l.length a width = true by simp [rOk, HF.out])
      go_wp2_with fail
      go_ret
      exact ⟨by rw [HO.out]; rfl, by rw [RrN, HO.out]; exact ⟨HH3.out.s1 _, (Kp.of_below HB3.out _).trans (Kp.set _ _ _) (fun k hk => .inl hk)⟩⟩
    | true =>
      have HO := Aside0.mk (show rOk true l.length a width = false by simp [rOk])
      go_wp2_with fail
      go_ret
      exact ⟨by rw [HO.out]; rfl, by rw [RrN, HO.out]; exact ⟨HH3.out.s2 true, (Kp.of_below HB3.out _).trans (Kp.set _ _ _) (fun k hk => .inl hk)⟩⟩
end Go.Proofs.Ytplmdgimodgekaa
