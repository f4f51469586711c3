/- Reading an object back: its frame. -/
import Derived.Test.YtigdchfjcfljjaaObjS
import Derived.Test.YtigdchfjcfljjaaReader2
import Derived.Test.YtigdchfjcfljjaaLe3
namespace Go.Proofs.Ytigdchfjcfljjaa
open Go.RowKit Go.Proofs.YtigdchfjcfljjaaW.PrintWords Go.Proofs.YtigdchfjcfljjaaW.PrintLast Go.Proofs.YtigdchfjcfljjaaW.PrintMore
attribute [local go_sem] max2_int min2_int max_two min_two max_three min_three max_four min_four   -- for this text's walks alone
set_option linter.unusedVariables false
set_option linter.unusedSimpArgs false

/-- Is a frame right, by its kind K and its size S. -/
def frP (n a K S : Int) : Prop := 0 ≤ a ∧ a + 16 ≤ n ∧ a % 8 = 0 ∧ 1 ≤ K ∧ K ≤ 4 ∧ S ≤ n - a ∧ 16 + 8 * wN K ≤ S ∧ alignZ S ≤ n - a
def frOk (l : List Int) (a : Int) : Bool := decide (0 ≤ a ∧ a + 16 ≤ l.length ∧ a % 8 = 0 ∧ 1 ≤ getN l a 8 ∧ getN l a 8 ≤ 4 ∧ getN l (a + 8) 8 ≤ l.length - a ∧ 16 + 8 * wN (getN l a 8) ≤ getN l (a + 8) 8 ∧ alignZ (getN l (a + 8) 8) ≤ l.length - a)
def frV (l : List Int) (a : Int) : Value := bif frOk l a then .tuple #[.int .i64 (getN l a 8), .int .i64 (getN l (a + 8) 8), .bool true] else .tuple #[.int .i64 0, .int .i64 0, .bool false]
theorem frV_no {l : List Int} {a : Int} (h : ¬ (0 ≤ a ∧ a + 16 ≤ l.length ∧ a % 8 = 0 ∧ 1 ≤ getN l a 8 ∧ getN l a 8 ≤ 4 ∧ getN l (a + 8) 8 ≤ l.length - a ∧ 16 + 8 * wN (getN l a 8) ≤ getN l (a + 8) 8 ∧ alignZ (getN l (a + 8) 8) ≤ l.length - a)) : frV l a = .tuple #[.int .i64 0, .int .i64 0, .bool false] := by rw [frV, frOk, decide_eq_false h]; rfl
theorem frV_yes {l : List Int} {a : Int} (h : 0 ≤ a ∧ a + 16 ≤ l.length ∧ a % 8 = 0 ∧ 1 ≤ getN l a 8 ∧ getN l a 8 ≤ 4 ∧ getN l (a + 8) 8 ≤ l.length - a ∧ 16 + 8 * wN (getN l a 8) ≤ getN l (a + 8) 8 ∧ alignZ (getN l (a + 8) 8) ≤ l.length - a) : frV l a = .tuple #[.int .i64 (getN l a 8), .int .i64 (getN l (a + 8) 8), .bool true] := by rw [frV, frOk, decide_eq_true h]; rfl

set_option maxHeartbeats 8000000 in
set_option maxRecDepth 100000 in
theorem obj_frame_calls (v : Value) (l : List Int) (a : Int) (w : World) (hr : Rd w .u8 v l) (hb : isB l) (hl : l.length ≤ 100000) (ha : a ≤ 100000) (ha0 : -9223372036854775808 ≤ a) :
    Calls Try.prog 102 #[v, .int .i64 a] w fun e w' => e = .returned (frV l a) ∧ Below w.heap.size w w' := by
  have HV := Aside0.mk hr
  have HIB := Aside0.mk hb
  obtain ⟨A, c, rfl, hc, hm, hr'⟩ := hr.mid
  clear hr' hr hb hc hm
  obtain ⟨K, hK⟩ : ∃ x, getN l a 8 = x := ⟨_, rfl⟩
  obtain ⟨S, hS⟩ : ∃ x, getN l (a + 8) 8 = x := ⟨_, rfl⟩
  have hK2 := getN_bound l HIB.out a 8
  have hS2 := getN_bound l HIB.out (a + 8) 8
  rw [hK] at hK2
  rw [hS] at hS2
  obtain ⟨K0, K1⟩ := hK2
  obtain ⟨S0, S1⟩ := hS2
  have HK := Aside0.mk hK
  have HS := Aside0.mk hS
  have HN := Aside0.mk (@frV_no l a)
  have HY := Aside0.mk (@frV_yes l a)
  rw [hK, hS] at HN HY
  clear hK hS
  obtain ⟨q0, q1⟩ := wN_bd K
  obtain ⟨q, hq⟩ : ∃ q, wN K = q := ⟨_, rfl⟩
  rw [hq] at q0 q1 HN HY
  have HQ := Aside0.mk hq
  clear hq
  go_enter Try.func102, Try.ntmps102
  go_wp2_with fail
  refine (le_Get_calls _ l a 8 _ HV.out HIB.out).mono ?_
  rintro e w1 ⟨rfl, hb1⟩
  have HB1 := Aside0.mk hb1
  clear hb1
  rw [HK.out]
  by_cases k1 : 0 ≤ a ∧ a + 8 ≤ l.length
  rotate_left
  · have HNO := Aside0.mk (HN.out (by omega))
    have hf : fitsB l.length a 8 = false := fits_no (fun h => by omega)
    rw [hf]
    go_wp2_with fail
    exact bodyPost_ret (v := .tuple #[.int .i64 0, .int .i64 0, .bool false]) (by simp [results, Try.results102, go_sem]) rfl ⟨by rw [HNO.out], HB1.out⟩
  obtain ⟨a0, a1⟩ := k1
  have hf : fitsB l.length a 8 = true := fits_ok ⟨by omega, by omega, by omega, by omega⟩
  rw [hf]
  clear hf
  by_cases k2 : a % 8 = 0
  rotate_left
  · have HNO := Aside0.mk (HN.out (by omega))
    have hz : (Int.tmod a 8 != 0) = true := by rw [Int.tmod_eq_emod_of_nonneg a0]; simpa using k2
    go_wp2_with fail
    exact bodyPost_ret (v := .tuple #[.int .i64 0, .int .i64 0, .bool false]) (by simp [results, Try.results102, go_sem]) rfl ⟨by rw [HNO.out], HB1.out⟩
  have hz : (Int.tmod a 8 != 0) = false := by rw [Int.tmod_eq_emod_of_nonneg a0]; simpa using k2
  by_cases k3 : 1 ≤ K
  rotate_left
  · have HNO := Aside0.mk (HN.out (by omega))
    go_wp2_with fail
    exact bodyPost_ret (v := .tuple #[.int .i64 0, .int .i64 0, .bool false]) (by simp [results, Try.results102, go_sem]) rfl ⟨by rw [HNO.out], HB1.out⟩
  by_cases k4 : K ≤ 4
  rotate_left
  · have HNO := Aside0.mk (HN.out (by omega))
    go_wp2_with fail
    exact bodyPost_ret (v := .tuple #[.int .i64 0, .int .i64 0, .bool false]) (by simp [results, Try.results102, go_sem]) rfl ⟨by rw [HNO.out], HB1.out⟩
  go_wp2_with fail
  refine (le_Get_calls _ l (a + 8) 8 _ (HV.out.below HB1.out) HIB.out).mono ?_
  rintro e w2 ⟨rfl, hb2⟩
  have HB2 := Aside0.mk (below_step HB1.out hb2)
  clear hb2 hz
  rw [HS.out]
  by_cases k5 : a + 16 ≤ l.length
  rotate_left
  · have HNO := Aside0.mk (HN.out (by omega))
    have hf : fitsB l.length (a + 8) 8 = false := fits_no (fun h => by omega)
    rw [hf]
    go_wp2_with fail
    exact bodyPost_ret (v := .tuple #[.int .i64 0, .int .i64 0, .bool false]) (by simp [results, Try.results102, go_sem]) rfl ⟨by rw [HNO.out], HB2.out⟩
  have hf : fitsB l.length (a + 8) 8 = true := fits_ok ⟨by omega, by omega, by omega, by omega⟩
  rw [hf]
  clear hf
  by_cases k6 : S ≤ l.length - a
  rotate_left
  · have HNO := Aside0.mk (HN.out (by omega))
    go_wp2_with fail
    exact bodyPost_ret (v := .tuple #[.int .i64 0, .int .i64 0, .bool false]) (by simp [results, Try.results102, go_sem]) rfl ⟨by rw [HNO.out], HB2.out⟩
  go_wp2_with fail
  refine (obj_Front_calls K _).mono ?_
  rintro e wx ⟨rfl, rfl⟩
  rw [HQ.out]
  by_cases k7 : 16 + 8 * q ≤ S
  rotate_left
  · have HNO := Aside0.mk (HN.out (by omega))
    go_wp2_with fail
    exact bodyPost_ret (v := .tuple #[.int .i64 0, .int .i64 0, .bool false]) (by simp [results, Try.results102, go_sem]) rfl ⟨by rw [HNO.out], HB2.out⟩
  go_wp2_with fail
  refine (le_Align_calls S _ (by omega)).mono ?_
  rintro e w3 ⟨rfl, hb3⟩
  have HB3 := Aside0.mk (below_step HB2.out hb3)
  clear hb3
  have hal : 0 ≤ alignZ S ∧ alignZ S ≤ S + 8 := by unfold alignZ; split <;> omega
  obtain ⟨al, hal'⟩ : ∃ x, alignZ S = x := ⟨_, rfl⟩
  rw [hal'] at hal HN HY ⊢
  obtain ⟨al0, al1⟩ := hal
  clear hal'
  by_cases k8 : al ≤ l.length - a
  rotate_left
  · have HNO := Aside0.mk (HN.out (by omega))
    go_wp2_with fail
    exact bodyPost_ret (v := .tuple #[.int .i64 0, .int .i64 0, .bool false]) (by simp [results, Try.results102, go_sem]) rfl ⟨by rw [HNO.out], HB3.out⟩
  have HYE := Aside0.mk (HY.out ⟨a0, k5, k2, k3, k4, k6, k7, k8⟩)
  go_wp2_with fail
  exact bodyPost_ret (v := .tuple #[.int .i64 K, .int .i64 S, .bool true]) (by simp [results, Try.results102, go_sem]) rfl ⟨by rw [HYE.out], HB3.out⟩

set_option maxHeartbeats 8000000 in
set_option maxRecDepth 100000 in
theorem obj_notZero_calls (x : Int) (w : World) : Calls Try.prog 109 #[.int .u8 x] w fun e w' => e = .returned (.bool (x != 0)) ∧ w = w' := by
  go_enter Try.func109, Try.ntmps109
  go_wp2_with fail
  go_ret
  exact ⟨rfl, rfl⟩
theorem decide_any {l : List Int} : (l.any fun x => x != 0) = true ∨ (l.any fun x => x != 0) = false := by cases (l.any fun x => x != 0) <;> simp
def idxZ (l : List Int) : Int := if (l.any fun x => x != 0) then ((l.takeWhile fun x => x == 0).length : Int) else -1
theorem idxZ_at {l : List Int} {i : Nat} (h : i < l.length) (hz : ∀ x ∈ l.take i, x = 0) (hn : l.getD i 0 ≠ 0) : idxZ l = i := by
  have hg : l[i]? = some (l.getD i 0) := by rw [List.getD_eq_getElem?_getD, List.getElem?_eq_getElem h]; rfl
  obtain ⟨y, hy⟩ : ∃ y, l.getD i 0 = y := ⟨_, rfl⟩
  rw [hy] at hg hn
  have hs : l = l.take i ++ y :: l.drop (i + 1) := by
    have e1 : l.drop i = y :: l.drop (i + 1) := by
      rw [List.drop_eq_getElem_cons h]; congr 1; rw [List.getElem?_eq_getElem h] at hg; injection hg
    rw [← e1, List.take_append_drop]
  have ha : (l.any fun x => x != 0) = true := by rw [List.any_eq_true]; exact ⟨y, List.mem_of_getElem? hg, by simpa using hn⟩
  have ht : (l.takeWhile fun x => x == 0) = l.take i := by
    rw [hs, List.takeWhile_append_of_pos (by intro x hx; simpa using hz x hx), List.takeWhile_cons_of_neg (by simpa using hn)]
    rw [List.append_nil, ← hs]
  rw [idxZ, if_pos ha, ht, List.length_take, Nat.min_eq_left (by omega)]
theorem idxZ_no {l : List Int} (hz : ∀ x ∈ l, x = 0) : idxZ l = -1 := by
  have ha : (l.any fun x => x != 0) = false := by rw [List.any_eq_false]; intro x hx; simp [hz x hx]
  rw [idxZ, if_neg (by rw [ha]; simp)]
theorem take_zero_step {l : List Int} {i : Nat} (h : i < l.length) (hz : ∀ x ∈ l.take i, x = 0) (h0 : l.getD i 0 = 0) : ∀ x ∈ l.take (i + 1), x = 0 := by
  intro x hx
  rw [take_snoc h] at hx
  rcases List.mem_append.1 hx with hx | hx
  · exact hz x hx
  · simp at hx; rw [hx, ← List.getD_eq_getElem?_getD]; exact h0
set_option maxHeartbeats 8000000 in
set_option maxRecDepth 100000 in
theorem IndexZ_calls (v : Value) (l : List Int) (w : World) (hr : Rd w .u8 v l) :
    Calls Try.prog 145 #[v, .func (.func 109) #[] #[]] w fun e w' => e = .returned (.int .i64 (idxZ l)) ∧ Below w.heap.size w w' := by
  have HV := Aside0.mk hr
  obtain ⟨A, c, rfl, hc, hm, hr'⟩ := hr.mid
  obtain ⟨n, hn⟩ : ∃ n, l.length = n := ⟨_, rfl⟩
  rw [hn] at hc hm hr' HV
  rw [hn]
  have HR := Aside0.mk hr'
  have HN := Aside0.mk hn
  clear hr hr' hn
  go_enter Try.func145, Try.ntmps145
  go_wp2_with fail
  go_loopw [5, 8] (fun v5 v8 w' => ∃ i : Nat, i ≤ n ∧ v8 = .int .i64 i ∧ Aside0 (∀ x ∈ l.take i, x = 0) ∧ Aside0 (Below w.heap.size w w')) (fun _ v8 _ => n - (intOf v8).toNat)
  case atStart => exact ⟨0, by omega, rfl, ⟨fun x hx => by simp at hx⟩, ⟨Below.refl _ _⟩⟩
  case round =>
    obtain ⟨i, hi, rfl, HT, HB⟩ := hrel
    by_cases c3 : i < n
    · obtain ⟨a0, ea0, hcell0⟩ := rd_at (HR.out.below HB.out) i c3
      obtain ⟨x, hx⟩ : ∃ x, l.getD i 0 = x := ⟨_, rfl⟩
      rw [hx] at hcell0
      have HX := Aside0.mk hx
      clear hx
      cases ea0
      go_wp2_with fail
      refine (obj_notZero_calls x _).mono ?_
      rintro e wx ⟨rfl, rfl⟩
      by_cases exy : x = 0
      · have HT1 := Aside0.mk (take_zero_step (by rw [HN.out]; exact c3) HT.out (by rw [HX.out]; exact exy))
        subst exy
        go_wp2_with fail
        go_roundw
        case rel => exact ⟨i + 1, by omega, by go_num, HT1, HB⟩
        case measure => simp [intOf]; omega
      · have hxy : (x != 0) = true := by simpa using exy
        have HE := Aside0.mk (idxZ_at (by rw [HN.out]; exact c3) HT.out (by rw [HX.out]; exact exy))
        rw [hxy]
        go_wp2_with fail
        go_ret
        exact ⟨by rw [HE.out]; rfl, HB.out⟩
    · have HE := Aside0.mk (idxZ_no (l := l) (by have h := HT.out; rw [List.take_of_length_le (by rw [HN.out]; omega)] at h; exact h))
      go_wp2_with fail
      go_ret
      exact ⟨by rw [HE.out]; rfl, HB.out⟩
theorem idxZ_any (l : List Int) : decide (idxZ l ≥ 0) = (l.any fun x => x != 0) := by
  unfold idxZ
  cases h : (l.any fun x => x != 0)
  · simp
  · simp
set_option maxHeartbeats 8000000 in
set_option maxRecDepth 100000 in
theorem ContainsZ_calls (v : Value) (l : List Int) (w : World) (hr : Rd w .u8 v l) :
    Calls Try.prog 108 #[v, .func (.func 109) #[] #[]] w fun e w' => e = .returned (.bool (l.any fun x => x != 0)) ∧ Below w.heap.size w w' := by
  have HV := Aside0.mk hr
  obtain ⟨i, hi⟩ : ∃ i, idxZ l = i := ⟨_, rfl⟩
  have HI := Aside0.mk hi
  have HE := idxZ_any l
  rw [hi] at HE
  have HE := Aside0.mk HE
  clear hr hi
  go_enter Try.func108, Try.ntmps108
  go_wp2_with fail
  refine (IndexZ_calls _ l _ HV.out).mono ?_
  rintro e w1 ⟨rfl, hb⟩
  have HB := Aside0.mk hb
  clear hb
  rw [HI.out]
  go_wp2_with fail
  go_ret
  exact ⟨by rw [← HE.out]; rfl, HB.out⟩
end Go.Proofs.Ytigdchfjcfljjaa
