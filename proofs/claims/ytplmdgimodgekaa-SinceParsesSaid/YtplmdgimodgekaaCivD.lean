/- Digits read, forms looked at. -/
import Derived.Test.YtplmdgimodgekaaCivT
import Derived.Test.YtplmdgimodgekaaLePure
namespace Go.Proofs.Ytplmdgimodgekaa
open Go.RowKit Go.Proofs.YtplmdgimodgekaaW.PrintWords Go.Proofs.YtplmdgimodgekaaW.PrintLast Go.Proofs.YtplmdgimodgekaaW.PrintMore
attribute [local go_sem] max2_int min2_int max_two min_two max_three min_three max_four min_four   -- for this text's walks alone
set_option linter.unusedVariables false
set_option linter.unusedSimpArgs false

def dgB (c : Int) : Bool := decide (48 ≤ c) && decide (c ≤ 57)
def numD (l : List Int) : Int := l.foldl (fun n c => n * 10 + (c - 48)) 0
theorem numD_snoc (l : List Int) (c : Int) : numD (l ++ [c]) = numD l * 10 + (c - 48) := by simp [numD]
theorem numD_step {l : List Int} {k : Nat} (h : k < l.length) : numD (l.take (k + 1)) = numD (l.take k) * 10 + (l.getD k 0 - 48) := by rw [take_snoc h, numD_snoc]
theorem numD_bound : ∀ (k : Nat) (l : List Int), l.length = k → (∀ c ∈ l, dgB c = true) → 0 ≤ numD l ∧ numD l < 10 ^ k
  | 0, l, h, _ => by
    rw [List.eq_nil_of_length_eq_zero h]; simp [numD]
  | k + 1, l, h, hd => by
    obtain ⟨m, c, rfl⟩ : ∃ m c, l = m ++ [c] := ⟨l.dropLast, l.getLast (by intro e; rw [e] at h; simp at h), (List.dropLast_concat_getLast _).symm⟩
    have ih := numD_bound k m (by simpa using h) (fun c hc => hd c (by simp [hc]))
    have hc := hd c (by simp)
    rw [dgB, Bool.and_eq_true, decide_eq_true_eq, decide_eq_true_eq] at hc
    rw [numD_snoc, Int.pow_succ]
    omega
theorem dI_numD : ∀ (k : Nat) (l : List Int), l.length = k → (∀ c ∈ l, dgB c = true) → dI k (numD l) = l
  | 0, l, h, _ => by rw [List.eq_nil_of_length_eq_zero h]; rfl
  | k + 1, l, h, hd => by
    obtain ⟨m, c, rfl⟩ : ∃ m c, l = m ++ [c] := ⟨l.dropLast, l.getLast (by intro e; rw [e] at h; simp at h), (List.dropLast_concat_getLast _).symm⟩
    have ih := dI_numD k m (by simpa using h) (fun c hc => hd c (by simp [hc]))
    have hc := hd c (by simp)
    rw [dgB, Bool.and_eq_true, decide_eq_true_eq, decide_eq_true_eq] at hc
    rw [numD_snoc, dI_snoc, show (numD m * 10 + (c - 48)) / 10 = numD m by omega, ih, show 48 + (numD m * 10 + (c - 48)) % 10 = c by omega]
theorem numD_dI : ∀ (k : Nat) (n : Int), 0 ≤ n → n < 10 ^ k → numD (dI k n) = n
  | 0, n, h0, h1 => by simp at h1; simp [dI, numD]; omega
  | k + 1, n, h0, h1 => by
    rw [dI_snoc, numD_snoc, numD_dI k (n / 10) (by omega) (by rw [Int.pow_succ] at h1; omega)]
    omega
theorem dI_dg : ∀ (k : Nat) (n : Int), 0 ≤ n → ∀ c ∈ dI k n, dgB c = true
  | 0, n, _, c, h => by simp [dI] at h
  | k + 1, n, h0, c, h => by
    simp only [dI, List.mem_cons] at h
    rcases h with rfl | h
    · simp [dgB]; omega
    · exact dI_dg k n h0 c h
theorem bytesOf_extract (s : ByteArray) (a b : Nat) : bytesOf (s.extract a b) = ((bytesOf s).take b).drop a := by
  simp [bytesOf, ByteArray.data_extract, Array.toList_extract, List.extract_eq_take_drop, List.drop_take]
set_option maxHeartbeats 8000000 in
set_option maxRecDepth 100000 in
theorem digits_calls (s : ByteArray) (w : World) (hs : s.size ≤ 8) (hd : ∀ c ∈ bytesOf s, dgB c = true) :
    Calls Try.prog 110 #[.string s] w fun e w' => e = .returned (.int .i64 (numD (bytesOf s))) ∧ Below w.heap.size w w' := by
  have kb := fun W => print_bytes (P := Try.prog) 9 37 5 Try.underlying9 Try.underlying37 Try.underlying5 s W
  have hlen := bytesOf_length s
  have HR := Aside0.mk (fun W => bytes_reads W 5 s (by omega))
  have HB := Aside0.mk (bytes_below (Below.refl w.heap.size w) (Nat.le_refl _) 5 s)
  obtain ⟨l, hl⟩ : ∃ l, bytesOf s = l := ⟨_, rfl⟩
  obtain ⟨n, hn⟩ : ∃ n, s.size = n := ⟨_, rfl⟩
  rw [hl] at HR hd hlen ⊢
  simp only [hn] at HR
  rw [hn] at hs hlen
  have HD := Aside0.mk hd
  have HL := Aside0.mk hlen
  clear hd hl hlen
  go_enter Try.func110, Try.ntmps110
  go_wp2_with fail
  go_loop [3, 5, 9] (fun v3 v5 v9 => ∃ k : Nat, k ≤ n ∧ v9 = .int .i64 k ∧ v3 = .int .i64 (numD (l.take k))) (fun _ _ v9 => n - (intOf v9).toNat)
  case atStart => exact ⟨0, by omega, rfl, rfl⟩
  case round =>
    obtain ⟨k, hk, rfl, rfl⟩ := hrel
    by_cases c1 : k < n
    · obtain ⟨b, hbb⟩ : ∃ b, l.getD k 0 = b := ⟨_, rfl⟩
      obtain ⟨ad, e, hcell⟩ := rd_at (HR.out w) k c1
      rw [hbb] at hcell
      simp only [Option.some.injEq] at e
      subst e
      rw [add_plain] at hcell
      have hbd := HD.out b (by rw [← hbb, List.getD_eq_getElem?_getD, List.getElem?_eq_getElem (by rw [HL.out]; exact c1)]; exact List.getElem_mem _)
      rw [dgB, Bool.and_eq_true, decide_eq_true_eq, decide_eq_true_eq] at hbd
      obtain ⟨b0, b1⟩ := hbd
      have HN := Aside0.mk (show numD (l.take (k + 1)) = numD (l.take k) * 10 + (b - 48) by rw [numD_step (by rw [HL.out]; exact c1), hbb])
      have hx := numD_bound k (l.take k) (by rw [List.length_take, HL.out]; omega) (fun c hc => HD.out c (List.mem_of_mem_take hc))
      have h10 := pow10_19 (show k ≤ 19 by omega)
      obtain ⟨x, hxx⟩ : ∃ x, numD (l.take k) = x := ⟨_, rfl⟩
      rw [hxx] at hx HN ⊢
      have x0 := hx.1
      have x1 : x ≤ 100000000 := by
        have : (10 : Int) ^ k ≤ 100000000 := by
          have hk8 : k ≤ 8 := by omega
          have : ∀ k : Nat, k ≤ 8 → (10 : Int) ^ k ≤ 100000000 := by decide
          exact this k hk8
        omega
      have hm : (b - 48) % 256 = b - 48 := by omega
      clear hx hxx h10 hbb
      go_wp2_with fail
      go_round
      case rel => exact ⟨k + 1, by omega, by go_num, by rw [HN.out]; first | rfl | (congr 1; omega)⟩
      case measure => simp [intOf] <;> omega
    · have HE := Aside0.mk (show l.take k = l by rw [List.take_of_length_le (by rw [HL.out]; omega)])
      rw [HE.out]
      go_wp2_with fail
      go_ret
      exact ⟨rfl, HB.out⟩
def likeC (c x : Int) : Bool := if x = 48 then dgB c else decide (c = x)
def likeB (l m : List Int) : Bool := decide (l.length = m.length) && (List.range l.length).all fun i => likeC (l.getD i 0) (m.getD i 0)
theorem likeB_no {l m : List Int} {i : Nat} (hi : i < l.length) (h : likeC (l.getD i 0) (m.getD i 0) = false) : likeB l m = false := by
  rw [likeB]
  have : ((List.range l.length).all fun i => likeC (l.getD i 0) (m.getD i 0)) = false := by
    rw [List.all_eq_false]
    exact ⟨i, List.mem_range.2 hi, by simp only [h]; simp⟩
  rw [this, Bool.and_false]
set_option maxHeartbeats 8000000 in
set_option maxRecDepth 100000 in
theorem like_calls (s t : ByteArray) (w : World) (hs : s.size ≤ 1000) (ht : t.size ≤ 1000) :
    Calls Try.prog 109 #[.string s, .string t] w fun e w' => e = .returned (.bool (likeB (bytesOf s) (bytesOf t))) ∧ Below w.heap.size w w' := by
  have hlen := bytesOf_length s
  have hlen2 := bytesOf_length t
  have hbt := bt_k s
  have hbt2 := bt_k t
  have hib := bytesOf_isB s
  have hib2 := bytesOf_isB t
  obtain ⟨l, hl⟩ : ∃ l, bytesOf s = l := ⟨_, rfl⟩
  obtain ⟨m, hm⟩ : ∃ m, bytesOf t = m := ⟨_, rfl⟩
  rw [hl] at hlen hbt hib
  rw [hm] at hlen2 hbt2 hib2
  rw [hl, hm]
  have HL := Aside0.mk hlen
  have HM := Aside0.mk hlen2
  have HBT := Aside0.mk hbt
  have HBT2 := Aside0.mk hbt2
  have HIB := Aside0.mk hib
  have HIB2 := Aside0.mk hib2
  clear hlen hlen2 hbt hbt2 hib hib2 hl hm
  by_cases c0 : s.size = t.size
  · have hne : ((s.size : Int) != (t.size : Int)) = false := by rw [bne_eq_false_iff_eq]; omega
    have HC0 := Aside0.mk c0
    have hts : t.size ≤ s.size := by omega
    have hst : s.size ≤ t.size := by omega
    clear c0
    go_enter Try.func109, Try.ntmps109
    go_wp2_with fail
    go_loopw [5, 6, 14] (fun v5 v6 v14 w' => ∃ k : Nat, k ≤ s.size ∧ v14 = .int .i64 k ∧ Aside0 (∀ i, i < k → likeC (l.getD i 0) (m.getD i 0) = true) ∧ Aside0 (Below w.heap.size w w')) (fun _ _ v14 _ => s.size - (intOf v14).toNat)
    case atStart => exact ⟨0, by omega, rfl, ⟨fun i hi => by omega⟩, ⟨Below.refl _ _⟩⟩
    case round =>
      obtain ⟨k, hk, rfl, HA, HB⟩ := hrel
      by_cases c1 : k < s.size
      · obtain ⟨b, hbb⟩ : ∃ b, l.getD k 0 = b := ⟨_, rfl⟩
        obtain ⟨x, hxx⟩ : ∃ b, m.getD k 0 = b := ⟨_, rfl⟩
        have hbt : ∀ h : k < s.size, ((s[k]'h).toNat : Int) = b := by rw [← hbb]; exact HBT.out k
        have hbt2 : ∀ h : k < t.size, ((t[k]'h).toNat : Int) = x := by rw [← hxx]; exact HBT2.out k
        have hb0 := HIB.out.getD k
        have hx0 := HIB2.out.getD k
        rw [hbb] at hb0
        rw [hxx] at hx0
        obtain ⟨hb0, hb1⟩ := hb0
        obtain ⟨hx0, hx1⟩ := hx0
        have ck : k < t.size := by omega
        have HYES := Aside0.mk (show likeC b x = true → ∀ i, i < k + 1 → likeC (l.getD i 0) (m.getD i 0) = true from fun h i hi => by
          by_cases e : i = k
          · rw [e, hbb, hxx]; exact h
          · exact HA.out i (by omega))
        have HNO := Aside0.mk (show likeC b x = false → likeB l m = false from fun h => likeB_no (by rw [HL.out]; exact c1) (by rw [hbb, hxx]; exact h))
        clear hbb hxx
        obtain ⟨d1, hd1⟩ : ∃ d, decide (48 ≤ b) = d := ⟨_, rfl⟩
        obtain ⟨d2, hd2⟩ : ∃ d, decide (b ≤ 57) = d := ⟨_, rfl⟩
        by_cases cx : x = 48
        · have t1 : (x == 48) = true := by simpa using cx
          have t2 : (x != 48) = false := by simpa using cx
          have HD := Aside0.mk (show likeC b x = (d1 && d2) by rw [likeC, if_pos cx, dgB, hd1, hd2])
          clear cx
          cases d1 with
          | false =>
            have HE := Aside0.mk (HNO.out (by rw [HD.out]; rfl))
            go_wp2_with fail
            go_quiet (fail)
            go_wp2_with fail
            go_ret
            exact ⟨by rw [HE.out]; rfl, pw_below_drewN HB.out _⟩
          | true =>
            cases d2 with
            | false =>
              have HE := Aside0.mk (HNO.out (by rw [HD.out]; rfl))
              go_wp2_with fail
              go_quiet (fail)
              go_wp2_with fail
              go_ret
              exact ⟨by rw [HE.out]; rfl, pw_below_drewN HB.out _⟩
            | true =>
              have HE := Aside0.mk (HYES.out (by rw [HD.out]; rfl))
              go_wp2_with fail
              go_quiet (fail)
              go_wp2_with fail
              go_roundw
              case rel => exact ⟨k + 1, by omega, by go_num, HE, ⟨pw_below_drewN HB.out _⟩⟩
              case measure => simp [intOf] <;> omega
        · have t1 : (x == 48) = false := by rw [beq_eq_false_iff_ne]; exact cx
          have t2 : (x != 48) = true := by rw [bne_iff_ne]; exact cx
          have HD := Aside0.mk (show likeC b x = decide (b = x) by rw [likeC, if_neg cx])
          clear cx
          by_cases ce : b = x
          · have t3 : (b != x) = false := by simpa using ce
            have HE := Aside0.mk (HYES.out (by rw [HD.out, decide_eq_true ce]))
            clear ce
            cases d1 <;> cases d2
            all_goals
              go_wp2_with fail
              go_quiet (fail)
              go_wp2_with fail
              go_roundw
              case rel => exact ⟨k + 1, by omega, by go_num, HE, ⟨pw_below_drewN HB.out _⟩⟩
              case measure => simp [intOf] <;> omega
          · have t3 : (b != x) = true := by rw [bne_iff_ne]; exact ce
            have HE := Aside0.mk (HNO.out (by rw [HD.out, decide_eq_false ce]))
            clear ce
            cases d1 <;> cases d2
            all_goals
              go_wp2_with fail
              go_quiet (fail)
              go_wp2_with fail
              go_ret
              exact ⟨by rw [HE.out]; rfl, pw_below_drewN HB.out _⟩
      · have HE := Aside0.mk (show likeB l m = true by
          rw [likeB, decide_eq_true (show l.length = m.length by rw [HL.out, HM.out]; exact HC0.out), Bool.true_and, List.all_eq_true]
          exact fun i hi => HA.out i (by have := List.mem_range.1 hi; rw [HL.out] at this; omega))
        go_wp2_with fail
        go_ret
        exact ⟨by rw [HE.out]; rfl, HB.out⟩
  · have hne : ((s.size : Int) != (t.size : Int)) = true := by rw [bne_iff_ne]; omega
    have HE := Aside0.mk (show likeB l m = false by rw [likeB, decide_eq_false (show ¬ l.length = m.length by rw [HL.out, HM.out]; exact c0)]; rfl)
    clear c0
    go_enter Try.func109, Try.ntmps109
    go_wp2_with fail
    go_ret
    exact ⟨by rw [HE.out]; rfl, Below.refl _ _⟩
end Go.Proofs.Ytplmdgimodgekaa
