/- SinceParses: the empty text, the law's walk. -/
import Derived.Test.YtplmdgimodgekaaSinQ
namespace Go.Proofs.Ytplmdgimodgekaa
open Go.RowKit Go.Proofs.YtplmdgimodgekaaW.PrintWords Go.Proofs.YtplmdgimodgekaaW.PrintLast Go.Proofs.YtplmdgimodgekaaW.PrintMore
attribute [local go_sem] max2_int min2_int max_two min_two max_three min_three max_four min_four   -- for this text's walks alone
set_option linter.unusedVariables false
set_option linter.unusedSimpArgs false

theorem good_nil : goodP [] = false := by decide
set_option maxHeartbeats 8000000 in
set_option maxRecDepth 100000 in
theorem pP_nil (n : Int) (w : World) (n0 : 0 ≤ n) (n1 : n ≤ 18446744073709551615) : Calls Try.prog 29 #[.string (strOfNums []), .int .u64 n] w fun e w' => e = .returned (psV [] n) ∧ Below w.heap.size w w' := by
  rw [show psV [] n = .tuple #[.int .u64 0, .bool false] from rfl]
  have f0 := lit_ne (l := []) (fun x hx => by cases hx) (c := [110, 111, 119]) (fun x hx => by simp at hx; omega) (by decide) (C := [110, 111, 119]) rfl
  have f1 := lit_ne (l := []) (fun x hx => by cases hx) (c := [116, 111, 100, 97, 121]) (fun x hx => by simp at hx; omega) (by decide) (C := [116, 111, 100, 97, 121]) rfl
  have f2 := lit_ne (l := []) (fun x hx => by cases hx) (c := [121, 101, 115, 116, 101, 114, 100, 97, 121]) (fun x hx => by simp at hx; omega) (by decide) (C := [121, 101, 115, 116, 101, 114, 100, 97, 121]) rfl
  have f3 := lit_ne (l := []) (fun x hx => by cases hx) (c := [116, 111, 109, 111, 114, 114, 111, 119]) (fun x hx => by simp at hx; omega) (by decide) (C := [116, 111, 109, 111, 114, 114, 111, 119]) rfl
  have f4 := lit_ne (l := []) (fun x hx => by cases hx) (c := [64]) (fun x hx => by simp at hx; omega) (by decide) (C := [64]) rfl
  have f5 := lit_ne (l := []) (fun x hx => by cases hx) (c := [45]) (fun x hx => by simp at hx; omega) (by decide) (C := [45]) rfl
  have f6 := lit_ne (l := []) (fun x hx => by cases hx) (c := [43]) (fun x hx => by simp at hx; omega) (by decide) (C := [43]) rfl
  have hs : (strOfNums []).size = 0 := rfl
  have x1 : (strOfNums []).extract 0 0 = strOfNums [] := rfl
  have CP1 := Aside0.mk (fun w => civil_Parse_calls (strOfNums []) w (by decide))
  rw [bytesOf_strOf (l := []) (fun x hx => by cases hx), parV_no good_nil] at CP1
  have hpre : isB preT := fun x hx => by simp [preT] at hx; omega
  have CP2 := Aside0.mk (fun w => civil_Parse_calls (strOfNums preT) w (by decide))
  rw [bytesOf_strOf hpre, parV_no good_pre] at CP2
  have hcat : (⟨#[49, 57, 55, 48, 45, 48, 49, 45, 48, 49, 32]⟩ : ByteArray) ++ strOfNums [] = strOfNums preT := rfl
  obtain ⟨S, hS⟩ : ∃ S, strOfNums [] = S := ⟨_, rfl⟩
  obtain ⟨P, hP⟩ : ∃ S, strOfNums preT = S := ⟨_, rfl⟩
  rw [hS] at hs x1 f0 f1 f2 f3 f4 f5 f6 CP1 hcat ⊢
  rw [hP] at CP2 hcat
  obtain ⟨M, hM⟩ : ∃ M, n % 86400000000 = M := ⟨_, rfl⟩
  have hM0 : 0 ≤ M := by omega
  have hMn : M ≤ n := by omega
  have hM2 : n.tmod 86400000000 = M := by rw [Int.tmod_eq_emod_of_nonneg n0]; exact hM
  obtain ⟨T, hT⟩ : ∃ T, n - M = T := ⟨_, rfl⟩
  have hwT : IntKind.u64.wrap (n - M) = T := by rw [IntKind.wrap_u64]; omega
  clear hS hP hpre n1 hT
  go_enter Try.func29, Try.ntmps29
  go_wp2_with fail
  go_quiet (fail)
  go_wp2_with fail
  refine (CP1.out _).mono ?_
  rintro _ wz ⟨rfl, hb⟩
  have HB := Aside0.mk (below_step (pw_below_drewN (Below.refl _ _) _) hb)
  clear hb
  go_wp2_with fail
  refine (CP2.out _).mono ?_
  rintro _ wz2 ⟨rfl, hb⟩
  replace HB := Aside0.mk (below_step (below_alloc HB.out _) hb)
  clear hb
  go_wp2_with fail
  go_ret2
  exact ⟨rfl, below_alloc HB.out _⟩
set_option maxHeartbeats 8000000 in
set_option maxRecDepth 100000 in
theorem rP_nil (n : Int) (w : World) : Calls Try.prog 30 #[.string (strOfNums []), .int .u64 n] w fun e w' => e = .returned (psV [] n) ∧ w = w' := by
  rw [show psV [] n = .tuple #[.int .u64 0, .bool false] from rfl, show strOfNums [] = (⟨#[]⟩ : ByteArray) from rfl]
  go_enter Try.func30, Try.ntmps30
  go_wp2_with fail
  go_ret2
  exact ⟨rfl, rfl⟩

theorem pP_all (l : List Int) (n : Int) (w : World) (hl : isB l) (hm : l.length ≤ 500) (n0 : 0 ≤ n) (n1 : n ≤ 18446744073709551615) :
    Calls Try.prog 29 #[.string (strOfNums l), .int .u64 n] w fun e w' => e = .returned (psV l n) ∧ Below w.heap.size w w' := by
  by_cases h0 : l = [110, 111, 119]
  · subst h0; exact (pP_n0 n w n0 n1).mono (fun e w' h => ⟨h.1, h.2 ▸ Below.refl _ _⟩)
  by_cases h1 : l = [116, 111, 100, 97, 121]
  · subst h1; exact (pP_n1 n w n0 n1).mono (fun e w' h => ⟨h.1, h.2 ▸ Below.refl _ _⟩)
  by_cases h2 : l = [121, 101, 115, 116, 101, 114, 100, 97, 121]
  · subst h2; exact (pP_n2 n w n0 n1).mono (fun e w' h => ⟨h.1, h.2 ▸ Below.refl _ _⟩)
  by_cases h3 : l = [116, 111, 109, 111, 114, 114, 111, 119]
  · subst h3; exact (pP_n3 n w n0 n1).mono (fun e w' h => ⟨h.1, h.2 ▸ Below.refl _ _⟩)
  cases l with
  | nil => exact pP_nil n w n0 n1
  | cons c t => exact pP_c c t n w hl hm n0 n1 h0 h1 h2 h3
theorem rP_all (l : List Int) (n : Int) (w : World) (hl : isB l) (hm : l.length ≤ 500) (n0 : 0 ≤ n) (n1 : n ≤ 18446744073709551615) :
    Calls Try.prog 30 #[.string (strOfNums l), .int .u64 n] w fun e w' => e = .returned (psV l n) ∧ Below w.heap.size w w' := by
  by_cases h0 : l = [110, 111, 119]
  · subst h0; exact (rP_n0 n w n0 n1).mono (fun e w' h => ⟨h.1, h.2 ▸ Below.refl _ _⟩)
  by_cases h1 : l = [116, 111, 100, 97, 121]
  · subst h1; exact (rP_n1 n w n0 n1).mono (fun e w' h => ⟨h.1, h.2 ▸ Below.refl _ _⟩)
  by_cases h2 : l = [121, 101, 115, 116, 101, 114, 100, 97, 121]
  · subst h2; exact (rP_n2 n w n0 n1).mono (fun e w' h => ⟨h.1, h.2 ▸ Below.refl _ _⟩)
  by_cases h3 : l = [116, 111, 109, 111, 114, 114, 111, 119]
  · subst h3; exact (rP_n3 n w n0 n1).mono (fun e w' h => ⟨h.1, h.2 ▸ Below.refl _ _⟩)
  cases l with
  | nil => exact (rP_nil n w).mono (fun e w' h => ⟨h.1, h.2 ▸ Below.refl _ _⟩)
  | cons c t => exact rP_c c t n w hl hm n0 n1 h0 h1 h2 h3

theorem psV_form (l : List Int) (n : Int) : ∃ x b, psV l n = .tuple #[.int .u64 x, .bool b] := by
  obtain ⟨v, hv⟩ : ∃ v, psV l n = v := ⟨_, rfl⟩
  rw [hv]
  unfold psV nuV at hv
  repeat' split at hv
  all_goals exact ⟨_, _, hv.symm⟩
set_option maxHeartbeats 8000000 in
set_option maxRecDepth 100000 in
theorem SinceParses_calls (l : List Int) (n : Int) (w : World) (hl : isB l) (hm : l.length ≤ 140737488351232) (n0 : 0 ≤ n) (n1 : n ≤ 18446744073709551615) :
    Calls Try.prog 8 #[.string (strOfNums l), .int .u64 n] w fun e w' => e = .returned (.bool true) ∧ Below w.heap.size w w' := by
  have hs := strOf_size l
  obtain ⟨k, hk⟩ : ∃ k, l.length = k := ⟨_, rfl⟩
  rw [hk] at hs hm
  by_cases c1 : 500 < k
  · obtain ⟨S, hS⟩ : ∃ S, strOfNums l = S := ⟨_, rfl⟩
    rw [hS] at hs ⊢
    clear hS hl hk n1
    go_enter Try.func8, Try.ntmps8
    go_wp2_with fail
    refine (since_awake _).mono ?_
    rintro _ w1 ⟨rfl, hb⟩
    have HB := Aside0.mk hb
    clear hb
    go_wp2_with fail
    go_ret
    exact ⟨rfl, HB.out⟩
  · have C1 := Aside0.mk (fun w => pP_all l n w hl (by omega) n0 n1)
    have C2 := Aside0.mk (fun w => rP_all l n w hl (by omega) n0 n1)
    obtain ⟨x, b, ex⟩ := psV_form l n
    rw [ex] at C1 C2
    obtain ⟨S, hS⟩ : ∃ S, strOfNums l = S := ⟨_, rfl⟩
    rw [hS] at hs C1 C2 ⊢
    clear hS hl hk ex n1
    have f1 : (x == x) = true := by simp
    have f2 : (b == b) = true := by simp
    go_enter Try.func8, Try.ntmps8
    go_wp2_with fail
    refine (C1.out _).mono ?_
    rintro _ w1 ⟨rfl, hb⟩
    have HB := Aside0.mk hb
    clear hb
    go_wp2_with fail
    refine (C2.out _).mono ?_
    rintro _ w2 ⟨rfl, hb⟩
    replace HB := Aside0.mk (below_step HB.out hb)
    clear hb
    go_wp2_with fail
    refine (since_awake _).mono ?_
    rintro _ w3 ⟨rfl, hb⟩
    replace HB := Aside0.mk (below_step HB.out hb)
    clear hb
    go_wp2_with fail
    go_ret
    exact ⟨rfl, HB.out⟩
theorem SinceParses_walk (a0 : ByteArray) (a1 : Int) (w : World) (w0 : a0.size ≤ 140737488351232) (w1 : (Lit.int .u64 a1).wf = true) :
    Calls Try.prog 8 #[.string a0, .int .u64 a1] w fun e w' => e = .returned (.bool true) ∧ Below w.heap.size w w' := by
  have := SinceParses_calls (bytesOf a0) a1 w (bytesOf_isB a0) (by rw [bytesOf_length]; exact w0) (bounds_u64 w1).1 (bounds_u64 w1).2
  rwa [strOf_bytesOf] at this
end Go.Proofs.Ytplmdgimodgekaa
