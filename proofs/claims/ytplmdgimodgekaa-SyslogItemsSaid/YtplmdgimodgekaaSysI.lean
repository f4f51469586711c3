/- Syslog: the items of a message, both sides; texts that are alike. -/
import Derived.Test.YtplmdgimodgekaaSysX
import Derived.Test.YtplmdgimodgekaaStrs
namespace Go.Proofs.Ytplmdgimodgekaa
open Go.RowKit Go.Proofs.YtplmdgimodgekaaW.PrintWords Go.Proofs.YtplmdgimodgekaaW.PrintLast Go.Proofs.YtplmdgimodgekaaW.PrintMore
attribute [local go_sem] max2_int min2_int max_two min_two max_three min_three max_four min_four   -- for this text's walks alone
set_option linter.unusedVariables false
set_option linter.unusedSimpArgs false
set_option maxHeartbeats 8000000 in
set_option maxRecDepth 100000 in
theorem texts_same (A1 A2 : Option Addr) (c1 c2 : Nat) (L : List ByteArray) (n : Nat) (w : World) (hn : L.length = n) (hm : n ≤ 1000) (h1 : RdE Value.string ByteArray.empty w (.slice A1 n c1) L) (h2 : RdE Value.string ByteArray.empty w (.slice A2 n c2) L) :
    Calls Try.prog 34 #[.slice A1 n c1, .slice A2 n c2] w fun e w' => e = .returned (.bool true) ∧ Below w.heap.size w w' := by
  have H1 := Aside0.mk h1
  have H2 := Aside0.mk h2
  have HN := Aside0.mk hn
  clear h1 h2 hn
  go_enter Try.func34, Try.ntmps34
  go_wp2_with fail
  go_loopw [5] (fun v5 w' => ∃ k : Nat, k ≤ n ∧ v5 = .int .i64 k ∧ Aside0 (Below w.heap.size w w')) (fun v5 _ => n - (intOf v5).toNat)
  case atStart => exact ⟨0, by omega, rfl, ⟨Below.refl _ _⟩⟩
  case round =>
    obtain ⟨k, hk, rfl, HB⟩ := hrel
    by_cases c1 : k < n
    · obtain ⟨ad1, e1, hc1⟩ := rdE_at (H1.out.below HB.out) k (by rw [HN.out]; exact c1)
      obtain ⟨ad2, e2, hc2⟩ := rdE_at (H2.out.below HB.out) k (by rw [HN.out]; exact c1)
      cases e1
      cases e2
      obtain ⟨s, es⟩ : ∃ s, L.getD k ByteArray.empty = s := ⟨_, rfl⟩
      rw [es] at hc1 hc2
      clear es
      have hss : (s.toList != s.toList) = false := by simp
      have hk0 : (0 : Int) ≤ (k : Int) := by omega
      have hk1 : (k : Int) < (n : Int) := by omega
      go_wp2_with fail
      go_quiet (fail)
      go_wp2_with fail
      go_roundw
      case rel => exact ⟨k + 1, by omega, by go_num, ⟨pw_below_drewN HB.out _⟩⟩
      case measure => simp [intOf] <;> omega
    · obtain rfl : k = n := by omega
      go_wp2_with fail
      go_ret
      exact ⟨rfl, HB.out⟩

def it3 (D1 D2 TX : ByteArray) : List ByteArray := [⟨#[77, 69, 83, 83, 65, 71, 69, 61]⟩ ++ TX, ⟨#[80, 82, 73, 79, 82, 73, 84, 89, 61]⟩ ++ D1, ⟨#[83, 89, 83, 76, 79, 71, 95, 70, 65, 67, 73, 76, 73, 84, 89, 61]⟩ ++ D2]
def itA (p f : Int) (nm : List Int) (NM TX : ByteArray) : List ByteArray := it3 (strOfNums (decD 20 p)) (strOfNums (decD 20 f)) TX ++ if nm = [] then [] else [⟨#[83, 89, 83, 76, 79, 71, 95, 73, 68, 69, 78, 84, 73, 70, 73, 69, 82, 61]⟩ ++ NM]
def itL (p f : Int) (nm pi : List Int) (NM PI TX : ByteArray) : List ByteArray := itA p f nm NM TX ++ if pi = [] then [] else [⟨#[83, 89, 83, 76, 79, 71, 95, 80, 73, 68, 61]⟩ ++ PI]

set_option maxHeartbeats 8000000 in
set_option maxRecDepth 100000 in
theorem sItems_calls (p f : Int) (nm pi : List Int) (NM PI TX : ByteArray) (w : World) (hp : 0 ≤ p ∧ p ≤ 7) (hf : 0 ≤ f ∧ f ≤ 23) (e1 : strOfNums nm = NM) (e2 : strOfNums pi = PI) (h1 : NM.size ≤ 1000) (h2 : PI.size ≤ 1000) (h3 : TX.size ≤ 5000) : Calls Try.prog 36 #[.agg #[.int .i64 p, .int .i64 f, .string NM, .string PI, .string TX]] w fun e w' => ∃ v', e = .returned v' ∧ OwnO Value.string w' w.heap.size 9 v' (itL p f nm pi NM PI TX) ∧ Below w.heap.size w w' := by
  have HNE := Aside0.mk (str_isE nm)
  have HPE := Aside0.mk (str_isE pi)
  rw [e1] at HNE
  rw [e2] at HPE
  have CD1 := Aside0.mk (fun w => Decimal_calls 19 p w (by omega) (by omega) (by rw [show (10 : Int) ^ (19 + 1) = 100000000000000000000 from rfl]; omega) (by omega))
  have CD2 := Aside0.mk (fun w => Decimal_calls 19 f w (by omega) (by omega) (by rw [show (10 : Int) ^ (19 + 1) = 100000000000000000000 from rfl]; omega) (by omega))
  rw [show 19 + 1 = 20 from rfl] at CD1 CD2
  have d1 := strOf_size (decD 20 p)
  have d2 := strOf_size (decD 20 f)
  have d3 := (decD_len 19 p).1
  have d4 := (decD_len 19 f).1
  rw [show 19 + 1 = 20 from rfl] at d3 d4
  have HIA := Aside0.mk (show itA p f nm NM TX = it3 (strOfNums (decD 20 p)) (strOfNums (decD 20 f)) TX ++ if nm = [] then [] else [⟨#[83, 89, 83, 76, 79, 71, 95, 73, 68, 69, 78, 84, 73, 70, 73, 69, 82, 61]⟩ ++ NM] from rfl)
  have HIL := Aside0.mk (show itL p f nm pi NM PI TX = itA p f nm NM TX ++ if pi = [] then [] else [⟨#[83, 89, 83, 76, 79, 71, 95, 80, 73, 68, 61]⟩ ++ PI] from rfl)
  obtain ⟨D1, hD1⟩ : ∃ S, strOfNums (decD 20 p) = S := ⟨_, rfl⟩
  obtain ⟨D2, hD2⟩ : ∃ S, strOfNums (decD 20 f) = S := ⟨_, rfl⟩
  rw [hD1] at CD1 d1 HIA
  rw [hD2] at CD2 d2 HIA
  rw [← d1] at d3
  rw [← d2] at d4
  clear hD1 hD2 e1 e2 d1 d2
  have w1 : IntKind.u64.wrap p = p := by rw [IntKind.wrap_u64]; omega
  have w2 : IntKind.u64.wrap f = f := by rw [IntKind.wrap_u64]; omega
  have q1 : (9223372036854775807 < 8 + TX.size) = False := by simp; omega
  have q2 : (9223372036854775807 < 9 + D1.size) = False := by simp; omega
  have q3 : (9223372036854775807 < 16 + D2.size) = False := by simp; omega
  go_enter Try.func36, Try.ntmps36
  go_upto_region 1 with fail
  obtain ⟨wz, hwz⟩ : ∃ wz, w.alloc (.cells #[.int .i64 p, .int .i64 f, .string NM, .string PI, .string TX] 54) = wz := ⟨_, rfl⟩
  have HZ := Aside0.mk (show wz.heap[w.heap.size]? = some (.cells #[.int .i64 p, .int .i64 f, .string NM, .string PI, .string TX] 54 (0, 0)) by rw [← hwz]; exact blk_new _ _)
  have HB := Aside0.mk (show Below w.heap.size w wz by rw [← hwz]; exact below_alloc (Below.refl _ _) _)
  rw [hwz]
  clear hwz hp hf
  have r0 := blk_cell HZ.out 0
  have r1 := blk_cell HZ.out 1
  have r2 := blk_cell HZ.out 2
  have r3 := blk_cell HZ.out 3
  have r4 := blk_cell HZ.out 4
  refine start_ (n := 15) (S := fun w' => w'.cell? ⟨w.heap.size, 0, none⟩ = some (.int .i64 p) ∧ w'.cell? ⟨w.heap.size, 1, none⟩ = some (.int .i64 f) ∧ w'.cell? ⟨w.heap.size, 2, none⟩ = some (.string NM) ∧ w'.cell? ⟨w.heap.size, 3, none⟩ = some (.string PI) ∧ w'.cell? ⟨w.heap.size, 4, none⟩ = some (.string TX)) (ds := []) #[false, false, false, false, false, false, false, false, false, false, false, false, false, false, false] (by kernel_rfl) rfl rfl ⟨r0, r1, r2, r3, r4⟩ (fun hHeld => ?_)
  refine pure_ (i := 0) (N := some 4) (v := ?_) (a' := ?_) #[true, false, false, false, false, false, false, false, false, false, false, false, false, false, false] rfl rfl (by kernel_rfl) (fun _ _ _ h => h) (Or.inl ⟨by rfl, ?_⟩) ?_ ?_
  rotate_left
  · intro w'
    go_simp
    with_reducible rfl
  rotate_left
  · simp only [Act.put, List.setIfInBounds_toArray, List.set_cons_zero, List.set_cons_succ, i64_w, i32_w]
    rfl
  refine pure_ (i := 3) (N := some 7) (v := ?_) (a' := ?_) #[true, false, false, true, false, false, false, false, false, false, false, false, false, false, false] rfl rfl (by kernel_rfl) (fun _ _ _ h => h) (Or.inl ⟨by rfl, ?_⟩) ?_ ?_
  rotate_left
  · intro w'
    go_simp
    with_reducible rfl
  rotate_left
  · simp only [Act.put, List.setIfInBounds_toArray, List.set_cons_zero, List.set_cons_succ, i64_w, i32_w]
    rfl
  refine pure_ (i := 8) (N := some 12) (v := ?_) (a' := ?_) #[true, false, false, true, false, false, false, false, true, false, false, false, false, false, false] rfl rfl (by kernel_rfl) (fun _ _ _ h => h) (Or.inl ⟨by rfl, ?_⟩) ?_ ?_
  rotate_left
  · intro w'
    go_simp
    with_reducible rfl
  rotate_left
  · simp only [Act.put, List.setIfInBounds_toArray, List.set_cons_zero, List.set_cons_succ, i64_w, i32_w]
    rfl
  refine take_ (i := 1) (N := some 5) (v := ?_) (a' := ?_) #[true, true, false, true, false, false, false, false, true, false, false, false, false, false, false] rfl rfl (by kernel_rfl) (fun _ _ _ h => h) (Or.inl ⟨by rfl, ?_⟩) hHeld ?_ ?_
  rotate_left
  · rintro w' ⟨s0, s1, s2, s3, s4⟩
    go_simp
    with_reducible rfl
  rotate_left
  · simp only [Act.put, List.setIfInBounds_toArray, List.set_cons_zero, List.set_cons_succ, i64_w, i32_w]
    rfl
  refine pure_ (i := 2) (N := some 6) (v := ?_) (a' := ?_) #[true, true, true, true, false, false, false, false, true, false, false, false, false, false, false] rfl rfl (by kernel_rfl) (fun _ _ _ h => h) (Or.inl ⟨by rfl, ?_⟩) ?_ ?_
  rotate_left
  · intro w'
    go_simp
    with_reducible rfl
  rotate_left
  · simp only [Act.put, List.setIfInBounds_toArray, List.set_cons_zero, List.set_cons_succ, i64_w, i32_w]
    rfl
  refine take_ (i := 4) (N := some 8) (v := ?_) (a' := ?_) #[true, true, true, true, true, false, false, false, true, false, false, false, false, false, false] rfl rfl (by kernel_rfl) (fun _ _ _ h => h) (Or.inl ⟨by rfl, ?_⟩) hHeld ?_ ?_
  rotate_left
  · rintro w' ⟨s0, s1, s2, s3, s4⟩
    go_simp
    with_reducible rfl
  rotate_left
  · simp only [Act.put, List.setIfInBounds_toArray, List.set_cons_zero, List.set_cons_succ, i64_w, i32_w]
    rfl
  refine pure_ (i := 5) (N := some 9) (v := ?_) (a' := ?_) #[true, true, true, true, true, true, false, false, true, false, false, false, false, false, false] rfl rfl (by kernel_rfl) (fun _ _ _ h => h) (Or.inl ⟨by rfl, ?_⟩) ?_ ?_
  rotate_left
  · intro w'
    go_simp
    with_reducible rfl
  rotate_left
  · simp only [Act.put, List.setIfInBounds_toArray, List.set_cons_zero, List.set_cons_succ, i64_w, i32_w]
    rfl
  refine take_ (i := 9) (N := some 13) (v := ?_) (a' := ?_) #[true, true, true, true, true, true, false, false, true, true, false, false, false, false, false] rfl rfl (by kernel_rfl) (fun _ _ _ h => h) (Or.inl ⟨by rfl, ?_⟩) hHeld ?_ ?_
  rotate_left
  · rintro w' ⟨s0, s1, s2, s3, s4⟩
    go_simp
    with_reducible rfl
  rotate_left
  · simp only [Act.put, List.setIfInBounds_toArray, List.set_cons_zero, List.set_cons_succ, i64_w, i32_w]
    rfl
  refine pure_ (i := 10) (N := some 14) (v := ?_) (a' := ?_) #[true, true, true, true, true, true, false, false, true, true, true, false, false, false, false] rfl rfl (by kernel_rfl) (fun _ _ _ h => h) (Or.inl ⟨by rfl, ?_⟩) ?_ ?_
  rotate_left
  · intro w'
    go_simp
    with_reducible rfl
  rotate_left
  · simp only [Act.put, List.setIfInBounds_toArray, List.set_cons_zero, List.set_cons_succ, i64_w, i32_w]
    rfl
  refine one_ (i := 6) (N := some 10) #[true, true, true, true, true, true, true, false, true, true, true, false, false, false, false] rfl rfl (by kernel_rfl) (by decide) (fun K hK => ?_)
  refine goes_ Try.func81 (by kernel_rfl) rfl #[.int .u64 p] (by rfl) rfl rfl (by (try simp only [List.map_toArray, List.map_cons, List.map_nil]); first | done | rfl) ?_
  with_reducible refine (CD1.out _).mono ?_
  rintro e w1 ⟨rfl, hb1⟩
  refine ⟨_, rfl, ?_⟩
  refine hK.out _ _ ⟨(pw_cell_below hb1 hHeld.1), (pw_cell_below hb1 hHeld.2.1), (pw_cell_below hb1 hHeld.2.2.1), (pw_cell_below hb1 hHeld.2.2.2.1), (pw_cell_below hb1 hHeld.2.2.2.2)⟩ (fun hHeld => ?_)
  clear hK K
  refine norm_ (a' := ?_) ?_ ?_
  rotate_left
  · show Act.put _ (some 10) _ = _
    simp only [Act.put, List.setIfInBounds_toArray, List.set_cons_zero, List.set_cons_succ, i64_w, i32_w]
    rfl
  refine pure_ (i := 7) (N := some 11) (v := ?_) (a' := ?_) #[true, true, true, true, true, true, true, true, true, true, true, false, false, false, false] rfl rfl (by kernel_rfl) (fun _ _ _ h => h) (Or.inl ⟨by rfl, ?_⟩) ?_ ?_
  rotate_left
  · intro w'
    go_simp
    with_reducible rfl
  rotate_left
  · simp only [Act.put, List.setIfInBounds_toArray, List.set_cons_zero, List.set_cons_succ, i64_w, i32_w]
    rfl
  refine one_ (i := 11) (N := some 15) #[true, true, true, true, true, true, true, true, true, true, true, true, false, false, false] rfl rfl (by kernel_rfl) (by decide) (fun K hK => ?_)
  refine goes_ Try.func81 (by kernel_rfl) rfl #[.int .u64 f] (by rfl) rfl rfl (by (try simp only [List.map_toArray, List.map_cons, List.map_nil]); first | done | rfl) ?_
  with_reducible refine (CD2.out _).mono ?_
  rintro e w2 ⟨rfl, hb2⟩
  refine ⟨_, rfl, ?_⟩
  refine hK.out _ _ ⟨(pw_cell_below hb2 hHeld.1), (pw_cell_below hb2 hHeld.2.1), (pw_cell_below hb2 hHeld.2.2.1), (pw_cell_below hb2 hHeld.2.2.2.1), (pw_cell_below hb2 hHeld.2.2.2.2)⟩ (fun hHeld => ?_)
  clear hK K
  refine norm_ (a' := ?_) ?_ ?_
  rotate_left
  · show Act.put _ (some 15) _ = _
    simp only [Act.put, List.setIfInBounds_toArray, List.set_cons_zero, List.set_cons_succ, i64_w, i32_w]
    rfl
  refine pure_ (i := 12) (N := some 16) (v := ?_) (a' := ?_) #[true, true, true, true, true, true, true, true, true, true, true, true, true, false, false] rfl rfl (by kernel_rfl) (fun _ _ _ h => h) (Or.inl ⟨by rfl, ?_⟩) ?_ ?_
  rotate_left
  · intro w'
    go_simp
    with_reducible rfl
  rotate_left
  · simp only [Act.put, List.setIfInBounds_toArray, List.set_cons_zero, List.set_cons_succ, i64_w, i32_w]
    rfl
  refine one_ (i := 13) (N := some 17) #[true, true, true, true, true, true, true, true, true, true, true, true, true, true, false] rfl rfl (by kernel_rfl) (by decide) (fun K hK => ?_)
  refine value_ (w1 := ?_) (v := ?_) (by rfl) rfl ?_ ?_
  rotate_left 2
  · go_simp
    constructor
    · rfl
    · rfl
  refine hK.out _ _ ⟨(pw_cell_below (below_alloc (Below.refl _ _) _) hHeld.1), (pw_cell_below (below_alloc (Below.refl _ _) _) hHeld.2.1), (pw_cell_below (below_alloc (Below.refl _ _) _) hHeld.2.2.1), (pw_cell_below (below_alloc (Below.refl _ _) _) hHeld.2.2.2.1), (pw_cell_below (below_alloc (Below.refl _ _) _) hHeld.2.2.2.2)⟩ (fun hHeld => ?_)
  clear hK K
  refine norm_ (a' := ?_) ?_ ?_
  rotate_left
  · show Act.put _ (some 17) _ = _
    simp only [Act.put, List.setIfInBounds_toArray, List.set_cons_zero, List.set_cons_succ, i64_w, i32_w]
    rfl
  refine pure_ (i := 14) (N := some 3) (v := ?_) (a' := ?_) #[true, true, true, true, true, true, true, true, true, true, true, true, true, true, true] rfl rfl (by kernel_rfl) (fun _ _ _ h => h) (Or.inl ⟨by rfl, ?_⟩) ?_ ?_
  rotate_left
  · intro w'
    go_simp
    with_reducible rfl
  rotate_left
  · simp only [Act.put, List.setIfInBounds_toArray, List.set_cons_zero, List.set_cons_succ, i64_w, i32_w]
    rfl
  refine done_ (by kernel_rfl) ?_
  have HB2 := Aside0.mk (below_step (below_step (below_drew HB.out) hb1) hb2)
  have HO := Aside0.mk (show OwnO Value.string (w2.alloc (.cells #[.string (⟨#[77, 69, 83, 83, 65, 71, 69, 61]⟩ ++ TX), .string (⟨#[80, 82, 73, 79, 82, 73, 84, 89, 61]⟩ ++ D1), .string (⟨#[83, 89, 83, 76, 79, 71, 95, 70, 65, 67, 73, 76, 73, 84, 89, 61]⟩ ++ D2)] 9)) w.heap.size 9 (.slice (some ⟨w2.heap.size, 0, none⟩) 3 3) (it3 D1 D2 TX) from OwnO.of_own (own_lit_of (enc := Value.string) w2 w.heap.size 9 (it3 D1 D2 TX) HB2.out.size (by simp [it3])))
  have HZ2 := Aside0.mk (blk_alloc (blk_below (blk_below (blk_drew HZ.out) hb1) hb2) (.cells #[.string (⟨#[77, 69, 83, 83, 65, 71, 69, 61]⟩ ++ TX), .string (⟨#[80, 82, 73, 79, 82, 73, 84, 89, 61]⟩ ++ D1), .string (⟨#[83, 89, 83, 76, 79, 71, 95, 70, 65, 67, 73, 76, 73, 84, 89, 61]⟩ ++ D2)] 9))
  replace HB2 := Aside0.mk (below_alloc HB2.out (.cells #[.string (⟨#[77, 69, 83, 83, 65, 71, 69, 61]⟩ ++ TX), .string (⟨#[80, 82, 73, 79, 82, 73, 84, 89, 61]⟩ ++ D1), .string (⟨#[83, 89, 83, 76, 79, 71, 95, 70, 65, 67, 73, 76, 73, 84, 89, 61]⟩ ++ D2)] 9))
  obtain ⟨wa, hwa⟩ : ∃ wa, w2.alloc (.cells #[.string (⟨#[77, 69, 83, 83, 65, 71, 69, 61]⟩ ++ TX), .string (⟨#[80, 82, 73, 79, 82, 73, 84, 89, 61]⟩ ++ D1), .string (⟨#[83, 89, 83, 76, 79, 71, 95, 70, 65, 67, 73, 76, 73, 84, 89, 61]⟩ ++ D2)] 9) = wa := ⟨_, rfl⟩
  rw [hwa] at HO HZ2 HB2 ⊢
  obtain ⟨g, hg⟩ : ∃ g, (⟨w2.heap.size, 0, none⟩ : Addr) = g := ⟨_, rfl⟩
  rw [hg] at HO ⊢
  clear hg hwa hb1 hb2 r0 r1 r2 r3 r4 HZ HB
  have HL3 := Aside0.mk (show (it3 D1 D2 TX).length = 3 from rfl)
  obtain ⟨X3, hX3⟩ : ∃ X, it3 D1 D2 TX = X := ⟨_, rfl⟩
  rw [hX3] at HO HIA HL3
  clear hX3
  have hne := HNE.out
  have hpe := HPE.out
  by_cases c1 : nm = []
  · rw [decide_eq_true c1] at hne
    rw [if_pos c1, List.append_nil] at HIA
    clear c1
    rw [← HIA.out] at HO HL3
    have HL7 := HL3
    by_cases c2 : pi = []
    · rw [decide_eq_true c2] at hpe
      rw [if_pos c2, List.append_nil] at HIL
      clear c2
      have r0 := blk_cell HZ2.out 0
      have r1 := blk_cell HZ2.out 1
      have r2 := blk_cell HZ2.out 2
      have r3 := blk_cell HZ2.out 3
      have r4 := blk_cell HZ2.out 4
      go_wp2_with (fail)
      go_ret
      exact ⟨_, rfl, (by rw [HIL.out]; exact HO.out), HB2.out⟩
    · rw [decide_eq_false c2] at hpe
      rw [if_neg c2] at HIL
      clear c2
      have r0 := blk_cell HZ2.out 0
      have r1 := blk_cell HZ2.out 1
      have r2 := blk_cell HZ2.out 2
      have r3 := blk_cell HZ2.out 3
      have r4 := blk_cell HZ2.out 4
      have u2 : (9223372036854775807 < 11 + PI.size) = False := by simp; omega
      obtain ⟨A8, c8, w8, hr8, ho8, hk8, _⟩ := appS (⟨#[83, 89, 83, 76, 79, 71, 95, 80, 73, 68, 61]⟩ ++ PI) HO.out HL7.out HB2.out.size (by omega)
      rw [← HIL.out] at ho8
      have HO8 := Aside0.mk ho8
      have HR8 := Aside0.mk hr8
      have HB8 := Aside0.mk (Kp.from HB2.out hk8 (fun b hb => HO.out.ge hb))
      have HZ8 := Aside0.mk (hk8.blk HZ2.out (fun h => HO.out.ne HZ2.out (by decide) h))
      clear hr8 ho8 hk8
      go_wp2_with (first | ((with_reducible refine gate_builtin (b := .append) (xs := #[.tmp 30, .tmp 34]) rfl ?_); at_builtin; refine app_list rfl (.tmp 30) (.tmp 34) rfl rfl rfl HR8.out ?_))
      go_ret
      exact ⟨_, rfl, HO8.out, HB8.out⟩
  · rw [decide_eq_false c1] at hne
    rw [if_neg c1] at HIA
    clear c1
    have u1 : (9223372036854775807 < 18 + NM.size) = False := by simp; omega
    obtain ⟨A7, c7, w7, hr7, ho7, hk7, _⟩ := appS (⟨#[83, 89, 83, 76, 79, 71, 95, 73, 68, 69, 78, 84, 73, 70, 73, 69, 82, 61]⟩ ++ NM) HO.out HL3.out HB2.out.size (by omega)
    rw [← HIA.out] at ho7
    have HO7 := Aside0.mk ho7
    have HR7 := Aside0.mk hr7
    have HB7 := Aside0.mk (Kp.from HB2.out hk7 (fun b hb => HO.out.ge hb))
    have HZ7 := Aside0.mk (hk7.blk HZ2.out (fun h => HO.out.ne HZ2.out (by decide) h))
    clear hr7 ho7 hk7
    have HL7 := Aside0.mk (show (itA p f nm NM TX).length = 4 by rw [HIA.out, List.length_append, HL3.out]; rfl)
    by_cases c2 : pi = []
    · rw [decide_eq_true c2] at hpe
      rw [if_pos c2, List.append_nil] at HIL
      clear c2
      have r0 := blk_cell HZ2.out 0
      have r1 := blk_cell HZ2.out 1
      have r2 := blk_cell HZ2.out 2
      have r3 := blk_cell HZ2.out 3
      have r4 := blk_cell HZ2.out 4
      have s0 := blk_cell HZ7.out 0
      have s1 := blk_cell HZ7.out 1
      have s2 := blk_cell HZ7.out 2
      have s3 := blk_cell HZ7.out 3
      have s4 := blk_cell HZ7.out 4
      go_wp2_with (first | ((with_reducible refine gate_builtin (b := .append) (xs := #[.tmp 21, .tmp 25]) rfl ?_); at_builtin; refine app_list rfl (.tmp 21) (.tmp 25) rfl rfl rfl HR7.out ?_))
      go_ret
      exact ⟨_, rfl, (by rw [HIL.out]; exact HO7.out), HB7.out⟩
    · rw [decide_eq_false c2] at hpe
      rw [if_neg c2] at HIL
      clear c2
      have r0 := blk_cell HZ2.out 0
      have r1 := blk_cell HZ2.out 1
      have r2 := blk_cell HZ2.out 2
      have r3 := blk_cell HZ2.out 3
      have r4 := blk_cell HZ2.out 4
      have s0 := blk_cell HZ7.out 0
      have s1 := blk_cell HZ7.out 1
      have s2 := blk_cell HZ7.out 2
      have s3 := blk_cell HZ7.out 3
      have s4 := blk_cell HZ7.out 4
      have u2 : (9223372036854775807 < 11 + PI.size) = False := by simp; omega
      obtain ⟨A8, c8, w8, hr8, ho8, hk8, _⟩ := appS (⟨#[83, 89, 83, 76, 79, 71, 95, 80, 73, 68, 61]⟩ ++ PI) HO7.out HL7.out HB7.out.size (by omega)
      rw [← HIL.out] at ho8
      have HO8 := Aside0.mk ho8
      have HR8 := Aside0.mk hr8
      have HB8 := Aside0.mk (Kp.from HB7.out hk8 (fun b hb => HO7.out.ge hb))
      have HZ8 := Aside0.mk (hk8.blk HZ7.out (fun h => HO7.out.ne HZ7.out (by decide) h))
      clear hr8 ho8 hk8
      go_wp2_with (first | ((with_reducible refine gate_builtin (b := .append) (xs := #[.tmp 21, .tmp 25]) rfl ?_); at_builtin; refine app_list rfl (.tmp 21) (.tmp 25) rfl rfl rfl HR7.out ?_) | ((with_reducible refine gate_builtin (b := .append) (xs := #[.tmp 30, .tmp 34]) rfl ?_); at_builtin; refine app_list rfl (.tmp 30) (.tmp 34) rfl rfl rfl HR8.out ?_))
      go_ret
      exact ⟨_, rfl, HO8.out, HB8.out⟩

set_option maxHeartbeats 8000000 in
set_option maxRecDepth 100000 in
theorem rItems_calls (p f : Int) (nm pi : List Int) (NM PI TX : ByteArray) (w : World) (hp : 0 ≤ p ∧ p ≤ 7) (hf : 0 ≤ f ∧ f ≤ 23) (e1 : strOfNums nm = NM) (e2 : strOfNums pi = PI) (h1 : NM.size ≤ 1000) (h2 : PI.size ≤ 1000) (h3 : TX.size ≤ 5000) : Calls Try.prog 37 #[.agg #[.int .i64 p, .int .i64 f, .string NM, .string PI, .string TX]] w fun e w' => ∃ v', e = .returned v' ∧ OwnO Value.string w' w.heap.size 9 v' (itL p f nm pi NM PI TX) ∧ Below w.heap.size w w' := by
  have HNE := Aside0.mk (str_isE nm)
  have HPE := Aside0.mk (str_isE pi)
  rw [e1] at HNE
  rw [e2] at HPE
  have CD1 := Aside0.mk (fun w => ref_Decimal_calls 19 p w (by omega) (by omega) (by rw [show (10 : Int) ^ (19 + 1) = 100000000000000000000 from rfl]; omega) (by omega))
  have CD2 := Aside0.mk (fun w => ref_Decimal_calls 19 f w (by omega) (by omega) (by rw [show (10 : Int) ^ (19 + 1) = 100000000000000000000 from rfl]; omega) (by omega))
  rw [show 19 + 1 = 20 from rfl] at CD1 CD2
  have d1 := strOf_size (decD 20 p)
  have d2 := strOf_size (decD 20 f)
  have d3 := (decD_len 19 p).1
  have d4 := (decD_len 19 f).1
  rw [show 19 + 1 = 20 from rfl] at d3 d4
  have HIA := Aside0.mk (show itA p f nm NM TX = it3 (strOfNums (decD 20 p)) (strOfNums (decD 20 f)) TX ++ if nm = [] then [] else [⟨#[83, 89, 83, 76, 79, 71, 95, 73, 68, 69, 78, 84, 73, 70, 73, 69, 82, 61]⟩ ++ NM] from rfl)
  have HIL := Aside0.mk (show itL p f nm pi NM PI TX = itA p f nm NM TX ++ if pi = [] then [] else [⟨#[83, 89, 83, 76, 79, 71, 95, 80, 73, 68, 61]⟩ ++ PI] from rfl)
  obtain ⟨D1, hD1⟩ : ∃ S, strOfNums (decD 20 p) = S := ⟨_, rfl⟩
  obtain ⟨D2, hD2⟩ : ∃ S, strOfNums (decD 20 f) = S := ⟨_, rfl⟩
  rw [hD1] at CD1 d1 HIA
  rw [hD2] at CD2 d2 HIA
  rw [← d1] at d3
  rw [← d2] at d4
  clear hD1 hD2 e1 e2 d1 d2
  have w1 : IntKind.u64.wrap p = p := by rw [IntKind.wrap_u64]; omega
  have w2 : IntKind.u64.wrap f = f := by rw [IntKind.wrap_u64]; omega
  have q1 : (9223372036854775807 < 8 + TX.size) = False := by simp; omega
  have q2 : (9223372036854775807 < 9 + D1.size) = False := by simp; omega
  have q3 : (9223372036854775807 < 16 + D2.size) = False := by simp; omega
  go_enter Try.func37, Try.ntmps37
  go_upto_region 1 with fail
  obtain ⟨wz, hwz⟩ : ∃ wz, w.alloc (.cells #[.int .i64 p, .int .i64 f, .string NM, .string PI, .string TX] 51) = wz := ⟨_, rfl⟩
  have HZ := Aside0.mk (show wz.heap[w.heap.size]? = some (.cells #[.int .i64 p, .int .i64 f, .string NM, .string PI, .string TX] 51 (0, 0)) by rw [← hwz]; exact blk_new _ _)
  have HB := Aside0.mk (show Below w.heap.size w wz by rw [← hwz]; exact below_alloc (Below.refl _ _) _)
  rw [hwz]
  clear hwz hp hf
  have r0 := blk_cell HZ.out 0
  have r1 := blk_cell HZ.out 1
  have r2 := blk_cell HZ.out 2
  have r3 := blk_cell HZ.out 3
  have r4 := blk_cell HZ.out 4
  refine start_ (n := 15) (S := fun w' => w'.cell? ⟨w.heap.size, 0, none⟩ = some (.int .i64 p) ∧ w'.cell? ⟨w.heap.size, 1, none⟩ = some (.int .i64 f) ∧ w'.cell? ⟨w.heap.size, 2, none⟩ = some (.string NM) ∧ w'.cell? ⟨w.heap.size, 3, none⟩ = some (.string PI) ∧ w'.cell? ⟨w.heap.size, 4, none⟩ = some (.string TX)) (ds := []) #[false, false, false, false, false, false, false, false, false, false, false, false, false, false, false] (by kernel_rfl) rfl rfl ⟨r0, r1, r2, r3, r4⟩ (fun hHeld => ?_)
  refine pure_ (i := 0) (N := some 4) (v := ?_) (a' := ?_) #[true, false, false, false, false, false, false, false, false, false, false, false, false, false, false] rfl rfl (by kernel_rfl) (fun _ _ _ h => h) (Or.inl ⟨by rfl, ?_⟩) ?_ ?_
  rotate_left
  · intro w'
    go_simp
    with_reducible rfl
  rotate_left
  · simp only [Act.put, List.setIfInBounds_toArray, List.set_cons_zero, List.set_cons_succ, i64_w, i32_w]
    rfl
  refine pure_ (i := 3) (N := some 7) (v := ?_) (a' := ?_) #[true, false, false, true, false, false, false, false, false, false, false, false, false, false, false] rfl rfl (by kernel_rfl) (fun _ _ _ h => h) (Or.inl ⟨by rfl, ?_⟩) ?_ ?_
  rotate_left
  · intro w'
    go_simp
    with_reducible rfl
  rotate_left
  · simp only [Act.put, List.setIfInBounds_toArray, List.set_cons_zero, List.set_cons_succ, i64_w, i32_w]
    rfl
  refine pure_ (i := 8) (N := some 12) (v := ?_) (a' := ?_) #[true, false, false, true, false, false, false, false, true, false, false, false, false, false, false] rfl rfl (by kernel_rfl) (fun _ _ _ h => h) (Or.inl ⟨by rfl, ?_⟩) ?_ ?_
  rotate_left
  · intro w'
    go_simp
    with_reducible rfl
  rotate_left
  · simp only [Act.put, List.setIfInBounds_toArray, List.set_cons_zero, List.set_cons_succ, i64_w, i32_w]
    rfl
  refine take_ (i := 1) (N := some 5) (v := ?_) (a' := ?_) #[true, true, false, true, false, false, false, false, true, false, false, false, false, false, false] rfl rfl (by kernel_rfl) (fun _ _ _ h => h) (Or.inl ⟨by rfl, ?_⟩) hHeld ?_ ?_
  rotate_left
  · rintro w' ⟨s0, s1, s2, s3, s4⟩
    go_simp
    with_reducible rfl
  rotate_left
  · simp only [Act.put, List.setIfInBounds_toArray, List.set_cons_zero, List.set_cons_succ, i64_w, i32_w]
    rfl
  refine pure_ (i := 2) (N := some 6) (v := ?_) (a' := ?_) #[true, true, true, true, false, false, false, false, true, false, false, false, false, false, false] rfl rfl (by kernel_rfl) (fun _ _ _ h => h) (Or.inl ⟨by rfl, ?_⟩) ?_ ?_
  rotate_left
  · intro w'
    go_simp
    with_reducible rfl
  rotate_left
  · simp only [Act.put, List.setIfInBounds_toArray, List.set_cons_zero, List.set_cons_succ, i64_w, i32_w]
    rfl
  refine take_ (i := 4) (N := some 8) (v := ?_) (a' := ?_) #[true, true, true, true, true, false, false, false, true, false, false, false, false, false, false] rfl rfl (by kernel_rfl) (fun _ _ _ h => h) (Or.inl ⟨by rfl, ?_⟩) hHeld ?_ ?_
  rotate_left
  · rintro w' ⟨s0, s1, s2, s3, s4⟩
    go_simp
    with_reducible rfl
  rotate_left
  · simp only [Act.put, List.setIfInBounds_toArray, List.set_cons_zero, List.set_cons_succ, i64_w, i32_w]
    rfl
  refine pure_ (i := 5) (N := some 9) (v := ?_) (a' := ?_) #[true, true, true, true, true, true, false, false, true, false, false, false, false, false, false] rfl rfl (by kernel_rfl) (fun _ _ _ h => h) (Or.inl ⟨by rfl, ?_⟩) ?_ ?_
  rotate_left
  · intro w'
    go_simp
    with_reducible rfl
  rotate_left
  · simp only [Act.put, List.setIfInBounds_toArray, List.set_cons_zero, List.set_cons_succ, i64_w, i32_w]
    rfl
  refine take_ (i := 9) (N := some 13) (v := ?_) (a' := ?_) #[true, true, true, true, true, true, false, false, true, true, false, false, false, false, false] rfl rfl (by kernel_rfl) (fun _ _ _ h => h) (Or.inl ⟨by rfl, ?_⟩) hHeld ?_ ?_
  rotate_left
  · rintro w' ⟨s0, s1, s2, s3, s4⟩
    go_simp
    with_reducible rfl
  rotate_left
  · simp only [Act.put, List.setIfInBounds_toArray, List.set_cons_zero, List.set_cons_succ, i64_w, i32_w]
    rfl
  refine pure_ (i := 10) (N := some 14) (v := ?_) (a' := ?_) #[true, true, true, true, true, true, false, false, true, true, true, false, false, false, false] rfl rfl (by kernel_rfl) (fun _ _ _ h => h) (Or.inl ⟨by rfl, ?_⟩) ?_ ?_
  rotate_left
  · intro w'
    go_simp
    with_reducible rfl
  rotate_left
  · simp only [Act.put, List.setIfInBounds_toArray, List.set_cons_zero, List.set_cons_succ, i64_w, i32_w]
    rfl
  refine one_ (i := 6) (N := some 10) #[true, true, true, true, true, true, true, false, true, true, true, false, false, false, false] rfl rfl (by kernel_rfl) (by decide) (fun K hK => ?_)
  refine goes_ Try.func82 (by kernel_rfl) rfl #[.int .u64 p] (by rfl) rfl rfl (by (try simp only [List.map_toArray, List.map_cons, List.map_nil]); first | done | rfl) ?_
  with_reducible refine (CD1.out _).mono ?_
  rintro e w1 ⟨rfl, hb1⟩
  refine ⟨_, rfl, ?_⟩
  refine hK.out _ _ ⟨(pw_cell_below hb1 hHeld.1), (pw_cell_below hb1 hHeld.2.1), (pw_cell_below hb1 hHeld.2.2.1), (pw_cell_below hb1 hHeld.2.2.2.1), (pw_cell_below hb1 hHeld.2.2.2.2)⟩ (fun hHeld => ?_)
  clear hK K
  refine norm_ (a' := ?_) ?_ ?_
  rotate_left
  · show Act.put _ (some 10) _ = _
    simp only [Act.put, List.setIfInBounds_toArray, List.set_cons_zero, List.set_cons_succ, i64_w, i32_w]
    rfl
  refine pure_ (i := 7) (N := some 11) (v := ?_) (a' := ?_) #[true, true, true, true, true, true, true, true, true, true, true, false, false, false, false] rfl rfl (by kernel_rfl) (fun _ _ _ h => h) (Or.inl ⟨by rfl, ?_⟩) ?_ ?_
  rotate_left
  · intro w'
    go_simp
    with_reducible rfl
  rotate_left
  · simp only [Act.put, List.setIfInBounds_toArray, List.set_cons_zero, List.set_cons_succ, i64_w, i32_w]
    rfl
  refine one_ (i := 11) (N := some 15) #[true, true, true, true, true, true, true, true, true, true, true, true, false, false, false] rfl rfl (by kernel_rfl) (by decide) (fun K hK => ?_)
  refine goes_ Try.func82 (by kernel_rfl) rfl #[.int .u64 f] (by rfl) rfl rfl (by (try simp only [List.map_toArray, List.map_cons, List.map_nil]); first | done | rfl) ?_
  with_reducible refine (CD2.out _).mono ?_
  rintro e w2 ⟨rfl, hb2⟩
  refine ⟨_, rfl, ?_⟩
  refine hK.out _ _ ⟨(pw_cell_below hb2 hHeld.1), (pw_cell_below hb2 hHeld.2.1), (pw_cell_below hb2 hHeld.2.2.1), (pw_cell_below hb2 hHeld.2.2.2.1), (pw_cell_below hb2 hHeld.2.2.2.2)⟩ (fun hHeld => ?_)
  clear hK K
  refine norm_ (a' := ?_) ?_ ?_
  rotate_left
  · show Act.put _ (some 15) _ = _
    simp only [Act.put, List.setIfInBounds_toArray, List.set_cons_zero, List.set_cons_succ, i64_w, i32_w]
    rfl
  refine pure_ (i := 12) (N := some 16) (v := ?_) (a' := ?_) #[true, true, true, true, true, true, true, true, true, true, true, true, true, false, false] rfl rfl (by kernel_rfl) (fun _ _ _ h => h) (Or.inl ⟨by rfl, ?_⟩) ?_ ?_
  rotate_left
  · intro w'
    go_simp
    with_reducible rfl
  rotate_left
  · simp only [Act.put, List.setIfInBounds_toArray, List.set_cons_zero, List.set_cons_succ, i64_w, i32_w]
    rfl
  refine one_ (i := 13) (N := some 17) #[true, true, true, true, true, true, true, true, true, true, true, true, true, true, false] rfl rfl (by kernel_rfl) (by decide) (fun K hK => ?_)
  refine value_ (w1 := ?_) (v := ?_) (by rfl) rfl ?_ ?_
  rotate_left 2
  · go_simp
    constructor
    · rfl
    · rfl
  refine hK.out _ _ ⟨(pw_cell_below (below_alloc (Below.refl _ _) _) hHeld.1), (pw_cell_below (below_alloc (Below.refl _ _) _) hHeld.2.1), (pw_cell_below (below_alloc (Below.refl _ _) _) hHeld.2.2.1), (pw_cell_below (below_alloc (Below.refl _ _) _) hHeld.2.2.2.1), (pw_cell_below (below_alloc (Below.refl _ _) _) hHeld.2.2.2.2)⟩ (fun hHeld => ?_)
  clear hK K
  refine norm_ (a' := ?_) ?_ ?_
  rotate_left
  · show Act.put _ (some 17) _ = _
    simp only [Act.put, List.setIfInBounds_toArray, List.set_cons_zero, List.set_cons_succ, i64_w, i32_w]
    rfl
  refine pure_ (i := 14) (N := some 3) (v := ?_) (a' := ?_) #[true, true, true, true, true, true, true, true, true, true, true, true, true, true, true] rfl rfl (by kernel_rfl) (fun _ _ _ h => h) (Or.inl ⟨by rfl, ?_⟩) ?_ ?_
  rotate_left
  · intro w'
    go_simp
    with_reducible rfl
  rotate_left
  · simp only [Act.put, List.setIfInBounds_toArray, List.set_cons_zero, List.set_cons_succ, i64_w, i32_w]
    rfl
  refine done_ (by kernel_rfl) ?_
  have HB2 := Aside0.mk (below_step (below_step (below_drew HB.out) hb1) hb2)
  have HO := Aside0.mk (show OwnO Value.string (w2.alloc (.cells #[.string (⟨#[77, 69, 83, 83, 65, 71, 69, 61]⟩ ++ TX), .string (⟨#[80, 82, 73, 79, 82, 73, 84, 89, 61]⟩ ++ D1), .string (⟨#[83, 89, 83, 76, 79, 71, 95, 70, 65, 67, 73, 76, 73, 84, 89, 61]⟩ ++ D2)] 9)) w.heap.size 9 (.slice (some ⟨w2.heap.size, 0, none⟩) 3 3) (it3 D1 D2 TX) from OwnO.of_own (own_lit_of (enc := Value.string) w2 w.heap.size 9 (it3 D1 D2 TX) HB2.out.size (by simp [it3])))
  have HZ2 := Aside0.mk (blk_alloc (blk_below (blk_below (blk_drew HZ.out) hb1) hb2) (.cells #[.string (⟨#[77, 69, 83, 83, 65, 71, 69, 61]⟩ ++ TX), .string (⟨#[80, 82, 73, 79, 82, 73, 84, 89, 61]⟩ ++ D1), .string (⟨#[83, 89, 83, 76, 79, 71, 95, 70, 65, 67, 73, 76, 73, 84, 89, 61]⟩ ++ D2)] 9))
  replace HB2 := Aside0.mk (below_alloc HB2.out (.cells #[.string (⟨#[77, 69, 83, 83, 65, 71, 69, 61]⟩ ++ TX), .string (⟨#[80, 82, 73, 79, 82, 73, 84, 89, 61]⟩ ++ D1), .string (⟨#[83, 89, 83, 76, 79, 71, 95, 70, 65, 67, 73, 76, 73, 84, 89, 61]⟩ ++ D2)] 9))
  obtain ⟨wa, hwa⟩ : ∃ wa, w2.alloc (.cells #[.string (⟨#[77, 69, 83, 83, 65, 71, 69, 61]⟩ ++ TX), .string (⟨#[80, 82, 73, 79, 82, 73, 84, 89, 61]⟩ ++ D1), .string (⟨#[83, 89, 83, 76, 79, 71, 95, 70, 65, 67, 73, 76, 73, 84, 89, 61]⟩ ++ D2)] 9) = wa := ⟨_, rfl⟩
  rw [hwa] at HO HZ2 HB2 ⊢
  obtain ⟨g, hg⟩ : ∃ g, (⟨w2.heap.size, 0, none⟩ : Addr) = g := ⟨_, rfl⟩
  rw [hg] at HO ⊢
  clear hg hwa hb1 hb2 r0 r1 r2 r3 r4 HZ HB
  have HL3 := Aside0.mk (show (it3 D1 D2 TX).length = 3 from rfl)
  obtain ⟨X3, hX3⟩ : ∃ X, it3 D1 D2 TX = X := ⟨_, rfl⟩
  rw [hX3] at HO HIA HL3
  clear hX3
  have hne := HNE.out
  have hpe := HPE.out
  by_cases c1 : nm = []
  · rw [decide_eq_true c1] at hne
    rw [if_pos c1, List.append_nil] at HIA
    clear c1
    rw [← HIA.out] at HO HL3
    have HL7 := HL3
    by_cases c2 : pi = []
    · rw [decide_eq_true c2] at hpe
      rw [if_pos c2, List.append_nil] at HIL
      clear c2
      have r0 := blk_cell HZ2.out 0
      have r1 := blk_cell HZ2.out 1
      have r2 := blk_cell HZ2.out 2
      have r3 := blk_cell HZ2.out 3
      have r4 := blk_cell HZ2.out 4
      go_wp2_with (fail)
      go_ret
      exact ⟨_, rfl, (by rw [HIL.out]; exact HO.out), HB2.out⟩
    · rw [decide_eq_false c2] at hpe
      rw [if_neg c2] at HIL
      clear c2
      have r0 := blk_cell HZ2.out 0
      have r1 := blk_cell HZ2.out 1
      have r2 := blk_cell HZ2.out 2
      have r3 := blk_cell HZ2.out 3
      have r4 := blk_cell HZ2.out 4
      have u2 : (9223372036854775807 < 11 + PI.size) = False := by simp; omega
      obtain ⟨A8, c8, w8, hr8, ho8, hk8, _⟩ := appS (⟨#[83, 89, 83, 76, 79, 71, 95, 80, 73, 68, 61]⟩ ++ PI) HO.out HL7.out HB2.out.size (by omega)
      rw [← HIL.out] at ho8
      have HO8 := Aside0.mk ho8
      have HR8 := Aside0.mk hr8
      have HB8 := Aside0.mk (Kp.from HB2.out hk8 (fun b hb => HO.out.ge hb))
      have HZ8 := Aside0.mk (hk8.blk HZ2.out (fun h => HO.out.ne HZ2.out (by decide) h))
      clear hr8 ho8 hk8
      go_wp2_with (first | ((with_reducible refine gate_builtin (b := .append) (xs := #[.tmp 30, .tmp 34]) rfl ?_); at_builtin; refine app_list rfl (.tmp 30) (.tmp 34) rfl rfl rfl HR8.out ?_))
      go_ret
      exact ⟨_, rfl, HO8.out, HB8.out⟩
  · rw [decide_eq_false c1] at hne
    rw [if_neg c1] at HIA
    clear c1
    have u1 : (9223372036854775807 < 18 + NM.size) = False := by simp; omega
    obtain ⟨A7, c7, w7, hr7, ho7, hk7, _⟩ := appS (⟨#[83, 89, 83, 76, 79, 71, 95, 73, 68, 69, 78, 84, 73, 70, 73, 69, 82, 61]⟩ ++ NM) HO.out HL3.out HB2.out.size (by omega)
    rw [← HIA.out] at ho7
    have HO7 := Aside0.mk ho7
    have HR7 := Aside0.mk hr7
    have HB7 := Aside0.mk (Kp.from HB2.out hk7 (fun b hb => HO.out.ge hb))
    have HZ7 := Aside0.mk (hk7.blk HZ2.out (fun h => HO.out.ne HZ2.out (by decide) h))
    clear hr7 ho7 hk7
    have HL7 := Aside0.mk (show (itA p f nm NM TX).length = 4 by rw [HIA.out, List.length_append, HL3.out]; rfl)
    by_cases c2 : pi = []
    · rw [decide_eq_true c2] at hpe
      rw [if_pos c2, List.append_nil] at HIL
      clear c2
      have r0 := blk_cell HZ2.out 0
      have r1 := blk_cell HZ2.out 1
      have r2 := blk_cell HZ2.out 2
      have r3 := blk_cell HZ2.out 3
      have r4 := blk_cell HZ2.out 4
      have s0 := blk_cell HZ7.out 0
      have s1 := blk_cell HZ7.out 1
      have s2 := blk_cell HZ7.out 2
      have s3 := blk_cell HZ7.out 3
      have s4 := blk_cell HZ7.out 4
      go_wp2_with (first | ((with_reducible refine gate_builtin (b := .append) (xs := #[.tmp 21, .tmp 25]) rfl ?_); at_builtin; refine app_list rfl (.tmp 21) (.tmp 25) rfl rfl rfl HR7.out ?_))
      go_ret
      exact ⟨_, rfl, (by rw [HIL.out]; exact HO7.out), HB7.out⟩
    · rw [decide_eq_false c2] at hpe
      rw [if_neg c2] at HIL
      clear c2
      have r0 := blk_cell HZ2.out 0
      have r1 := blk_cell HZ2.out 1
      have r2 := blk_cell HZ2.out 2
      have r3 := blk_cell HZ2.out 3
      have r4 := blk_cell HZ2.out 4
      have s0 := blk_cell HZ7.out 0
      have s1 := blk_cell HZ7.out 1
      have s2 := blk_cell HZ7.out 2
      have s3 := blk_cell HZ7.out 3
      have s4 := blk_cell HZ7.out 4
      have u2 : (9223372036854775807 < 11 + PI.size) = False := by simp; omega
      obtain ⟨A8, c8, w8, hr8, ho8, hk8, _⟩ := appS (⟨#[83, 89, 83, 76, 79, 71, 95, 80, 73, 68, 61]⟩ ++ PI) HO7.out HL7.out HB7.out.size (by omega)
      rw [← HIL.out] at ho8
      have HO8 := Aside0.mk ho8
      have HR8 := Aside0.mk hr8
      have HB8 := Aside0.mk (Kp.from HB7.out hk8 (fun b hb => HO7.out.ge hb))
      have HZ8 := Aside0.mk (hk8.blk HZ7.out (fun h => HO7.out.ne HZ7.out (by decide) h))
      clear hr8 ho8 hk8
      go_wp2_with (first | ((with_reducible refine gate_builtin (b := .append) (xs := #[.tmp 21, .tmp 25]) rfl ?_); at_builtin; refine app_list rfl (.tmp 21) (.tmp 25) rfl rfl rfl HR7.out ?_) | ((with_reducible refine gate_builtin (b := .append) (xs := #[.tmp 30, .tmp 34]) rfl ?_); at_builtin; refine app_list rfl (.tmp 30) (.tmp 34) rfl rfl rfl HR8.out ?_))
      go_ret
      exact ⟨_, rfl, HO8.out, HB8.out⟩

theorem itL_len (p f : Int) (nm pi : List Int) (NM PI TX : ByteArray) : (itL p f nm pi NM PI TX).length ≤ 5 := by
  rw [itL, itA, it3]
  split <;> split <;> simp

theorem sItems_rd (p f : Int) (nm pi : List Int) (NM PI TX : ByteArray) (n : Nat) (w : World) (hn : (itL p f nm pi NM PI TX).length = n) (hp : 0 ≤ p ∧ p ≤ 7) (hf : 0 ≤ f ∧ f ≤ 23) (e1 : strOfNums nm = NM) (e2 : strOfNums pi = PI) (h1 : NM.size ≤ 1000) (h2 : PI.size ≤ 1000) (h3 : TX.size ≤ 5000) : Calls Try.prog 36 #[.agg #[.int .i64 p, .int .i64 f, .string NM, .string PI, .string TX]] w fun e w' => ∃ A c, e = .returned (.slice A n c) ∧ RdE Value.string ByteArray.empty w' (.slice A n c) (itL p f nm pi NM PI TX) ∧ Below w.heap.size w w' := by
  refine (sItems_calls p f nm pi NM PI TX w hp hf e1 e2 h1 h2 h3).mono ?_
  rintro e w1 ⟨v, rfl, ho, hb⟩
  obtain ⟨A, c, rfl, _, _⟩ := ho.sl hn
  exact ⟨A, c, rfl, ho.rdE _, hb⟩
theorem rItems_rd (p f : Int) (nm pi : List Int) (NM PI TX : ByteArray) (n : Nat) (w : World) (hn : (itL p f nm pi NM PI TX).length = n) (hp : 0 ≤ p ∧ p ≤ 7) (hf : 0 ≤ f ∧ f ≤ 23) (e1 : strOfNums nm = NM) (e2 : strOfNums pi = PI) (h1 : NM.size ≤ 1000) (h2 : PI.size ≤ 1000) (h3 : TX.size ≤ 5000) : Calls Try.prog 37 #[.agg #[.int .i64 p, .int .i64 f, .string NM, .string PI, .string TX]] w fun e w' => ∃ A c, e = .returned (.slice A n c) ∧ RdE Value.string ByteArray.empty w' (.slice A n c) (itL p f nm pi NM PI TX) ∧ Below w.heap.size w w' := by
  refine (rItems_calls p f nm pi NM PI TX w hp hf e1 e2 h1 h2 h3).mono ?_
  rintro e w1 ⟨v, rfl, ho, hb⟩
  obtain ⟨A, c, rfl, _, _⟩ := ho.sl hn
  exact ⟨A, c, rfl, ho.rdE _, hb⟩

end Go.Proofs.Ytplmdgimodgekaa
