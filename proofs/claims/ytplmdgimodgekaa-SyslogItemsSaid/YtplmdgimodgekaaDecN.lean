/- Decimal numbers, read: the program's way, the document's. -/
import Derived.Test.YtplmdgimodgekaaDec
import Derived.Test.YtplmdgimodgekaaStrC
namespace Go.Proofs.Ytplmdgimodgekaa
open Go.RowKit Go.Proofs.YtplmdgimodgekaaW.PrintWords Go.Proofs.YtplmdgimodgekaaW.PrintLast Go.Proofs.YtplmdgimodgekaaW.PrintMore
attribute [local go_sem] max2_int min2_int max_two min_two max_three min_three max_four min_four   -- for this text's walks alone
set_option linter.unusedVariables false
set_option linter.unusedSimpArgs false

def dMax : Int := 18446744073709551615
def dgOk (c n : Int) : Bool := decide (48 ≤ c ∧ c ≤ 57 ∧ n ≤ (dMax - (c - 48)) / 10)
def dgL : List Int → Int → Option Int
  | [], n => some n
  | c :: l, n => if dgOk c n then dgL l (10 * n + (c - 48)) else none
def numG (l : List Int) : Option Int := if l = [] ∨ 20 < l.length ∨ (l.getD 0 0 = 48 ∧ 1 < l.length) then none else dgL l 0
theorem dgOk_bd {c n : Int} (h : dgOk c n = true) (h0 : 0 ≤ n) : 48 ≤ c ∧ c ≤ 57 ∧ 0 ≤ 10 * n + (c - 48) ∧ 10 * n + (c - 48) ≤ dMax := by
  have := of_decide_eq_true h
  unfold dMax at *
  omega
theorem dgL_bd : ∀ (l : List Int) (n v : Int), 0 ≤ n → n ≤ dMax → dgL l n = some v → 0 ≤ v ∧ v ≤ dMax
  | [], n, v, h0, h1, h => by rw [dgL] at h; injection h with h; omega
  | c :: l, n, v, h0, h1, h => by
    rw [dgL] at h
    split at h
    · rename_i hc
      have := dgOk_bd hc h0
      exact dgL_bd l _ v this.2.2.1 this.2.2.2 h
    · cases h
theorem dgL_isB : ∀ (l : List Int) (n v : Int), dgL l n = some v → isB l
  | [], n, v, h => fun x hx => by simp at hx
  | c :: l, n, v, h => by
    rw [dgL] at h
    split at h
    · rename_i hc
      have := of_decide_eq_true hc
      intro x hx
      rcases List.mem_cons.1 hx with rfl | hx
      · omega
      · exact dgL_isB l _ v h x hx
    · cases h
theorem dgL_snoc : ∀ (l : List Int) (c n : Int), dgL (l ++ [c]) n = (dgL l n).bind fun x => if dgOk c x then some (10 * x + (c - 48)) else none
  | [], c, n => by rw [List.nil_append, dgL, dgL]; rfl
  | b :: l, c, n => by
    rw [List.cons_append, dgL, dgL]
    split
    · exact dgL_snoc l c _
    · rfl
/-- What is read is what was written. -/
theorem dgL_dec : ∀ (l : List Int) (k : Nat) (n v : Int), 1 ≤ n → n < 10 ^ k → dgL l n = some v → decD (k + l.length) v = decD k n ++ l ∧ v < 10 ^ (k + l.length)
  | [], k, n, v, h1, h2, h => by
    rw [dgL] at h
    injection h with h
    subst h
    simp; exact h2
  | c :: l, k, n, v, h1, h2, h => by
    rw [dgL] at h
    split at h
    · rename_i hc
      have hd := dgOk_bd hc (by omega)
      have hp : 10 * n + (c - 48) < 10 ^ (k + 1) := by rw [Int.pow_succ]; omega
      obtain ⟨e1, e2⟩ := dgL_dec l (k + 1) (10 * n + (c - 48)) v (by omega) hp h
      have e3 : decD (k + 1) (10 * n + (c - 48)) = decD k n ++ [c] := by
        rw [decD_s, if_neg (by omega), show (10 * n + (c - 48)) / 10 = n by omega, show 48 + (10 * n + (c - 48)) % 10 = c by omega]
      have el : k + (c :: l).length = k + 1 + l.length := by rw [List.length_cons]; omega
      rw [el]
      exact ⟨by rw [e1, e3, List.append_assoc]; rfl, e2⟩
    · cases h
theorem pow10_up : ∀ (j k : Nat), (10 : Int) ^ k ≤ 10 ^ (k + j)
  | 0, k => Int.le_refl _
  | j + 1, k => by
    have := pow10_up j k
    have h0 : (0 : Int) < 10 ^ k := Int.pow_pos (by omega)
    rw [show k + (j + 1) = k + j + 1 by omega, Int.pow_succ]; omega
theorem decD_up : ∀ (j k : Nat) (n : Int), 0 ≤ n → n < 10 ^ (k + 1) → decD (k + 1 + j) n = decD (k + 1) n
  | 0, k, n, _, _ => rfl
  | j + 1, k, n, h0, h1 => by
    have ih := decD_up j k n h0 h1
    have hp : (10 : Int) ^ (k + 1) ≤ 10 ^ (k + j + 1) := by have := pow10_up j (k + 1); rwa [show k + 1 + j = k + j + 1 by omega] at this
    have := decD_more (k + j) n h0 (by omega)
    rw [show k + 1 + (j + 1) = k + j + 2 by omega, this, ← ih, show k + 1 + j = k + j + 1 by omega]
theorem numG_dec {l : List Int} {v : Int} (h : numG l = some v) : decD 20 v = l ∧ 0 ≤ v ∧ v ≤ dMax := by
  rw [numG] at h
  split at h
  · cases h
  · rename_i hc
    simp only [not_or, not_and] at hc
    obtain ⟨h1, h2, h3⟩ := hc
    have hb := dgL_bd l 0 v (by omega) (by decide) h
    refine ⟨?_, hb⟩
    cases l with
    | nil => exact absurd rfl h1
    | cons c l =>
      rw [dgL] at h
      split at h
      · rename_i ho
        have hd := dgOk_bd ho (by omega)
        by_cases c0 : c = 48
        · have hl : l = [] := by
            cases l with
            | nil => rfl
            | cons x y => exact absurd (by simp [List.getD]) (h3 (by simp [List.getD, c0]))
          subst hl
          rw [dgL] at h
          injection h with h
          obtain rfl : v = 0 := by omega
          rw [c0]; decide
        · obtain ⟨e1, e2⟩ := dgL_dec l 1 (10 * 0 + (c - 48)) v (by omega) (by simp; omega) h
          have e3 : decD 1 (10 * 0 + (c - 48)) = [c] := by rw [decD_s, if_pos (by omega), show 48 + (10 * 0 + (c - 48)) = c by omega]
          have hl : l.length ≤ 19 := by simp at h2; omega
          have := decD_up (19 - l.length) l.length v hb.1 (by rw [show l.length + 1 = 1 + l.length by omega]; exact e2)
          rw [show l.length + 1 + (19 - l.length) = 20 by omega] at this
          rw [this, show l.length + 1 = 1 + l.length by omega, e1, e3]; rfl
      · cases h
theorem decD_head : ∀ (k : Nat) (n : Int), 0 ≤ n → n < 10 ^ (k + 1) → (decD (k + 1) n).getD 0 0 = 48 → n = 0
  | 0, n, h0, h1, h => by
    have h1 : n < 10 := by simpa using h1
    rw [decD_s, if_pos h1] at h
    simp at h; omega
  | k + 1, n, h0, h1, h => by
    rw [decD_s] at h
    split at h
    · simp at h; omega
    · have hl := (decD_len k (n / 10)).2
      rw [List.getD_eq_getElem?_getD, List.getElem?_append_left (by omega), ← List.getD_eq_getElem?_getD] at h
      have := decD_head k (n / 10) (by omega) (by rw [Int.pow_succ] at h1; omega) h
      omega
theorem dgL_decD : ∀ (k : Nat) (n : Int), 0 ≤ n → n < 10 ^ (k + 1) → n ≤ dMax → dgL (decD (k + 1) n) 0 = some n
  | 0, n, h0, h1, h2 => by
    have h1 : n < 10 := by simpa using h1
    rw [decD_s, if_pos h1, dgL, if_pos (by rw [dgOk, decide_eq_true_iff]; unfold dMax; omega), dgL]
    congr 1; omega
  | k + 1, n, h0, h1, h2 => by
    rw [decD_s]
    split
    · rw [dgL, if_pos (by rw [dgOk, decide_eq_true_iff]; unfold dMax; omega), dgL]
      congr 1; omega
    · rw [dgL_snoc, dgL_decD k (n / 10) (by omega) (by rw [Int.pow_succ] at h1; omega) (by unfold dMax at *; omega)]
      show (if dgOk (48 + n % 10) (n / 10) then _ else none) = _
      rw [if_pos (by rw [dgOk, decide_eq_true_iff]; unfold dMax at *; omega)]
      congr 1; omega
theorem numG_decD (n : Int) (h0 : 0 ≤ n) (h1 : n ≤ dMax) : numG (decD 20 n) = some n := by
  have hp : n < 10 ^ (19 + 1) := by rw [show (10 : Int) ^ (19 + 1) = 100000000000000000000 from rfl]; unfold dMax at h1; omega
  have hl : (decD 20 n).length ≤ 20 ∧ 1 ≤ (decD 20 n).length := decD_len 19 n
  rw [numG, if_neg, dgL_decD 19 n h0 hp h1]
  simp only [not_or, not_and]
  refine ⟨fun e => by rw [e] at hl; simp at hl, by omega, fun e => ?_⟩
  rw [decD_head 19 n h0 hp e]
  decide
/-- The document's way: digit by digit, round the corner. -/
def wfL : List Int → Int → Int
  | [], n => n
  | c :: l, n => wfL l (IntKind.u64.wrap (n * 10 + c - 48))
theorem wfL_bd : ∀ (l : List Int) (n : Int), 0 ≤ n ∧ n ≤ dMax → 0 ≤ wfL l n ∧ wfL l n ≤ dMax
  | [], n, h => h
  | c :: l, n, h => wfL_bd l _ (by rw [IntKind.wrap_u64]; unfold dMax; omega)
theorem wfL_dgL : ∀ (l : List Int) (n v : Int), 0 ≤ n → n ≤ dMax → dgL l n = some v → wfL l n = v
  | [], n, v, _, _, h => by rw [dgL] at h; injection h
  | c :: l, n, v, h0, h1, h => by
    rw [dgL] at h
    split at h
    · rename_i hc
      have hd := dgOk_bd hc h0
      rw [wfL, show IntKind.u64.wrap (n * 10 + c - 48) = 10 * n + (c - 48) by rw [IntKind.wrap_u64]; unfold dMax at hd; omega]
      exact wfL_dgL l _ v hd.2.2.1 hd.2.2.2 h
    · cases h
theorem numG_ref {l : List Int} : numG l = if l.length ≤ 20 ∧ decD 20 (wfL (l.take 20) 0) = l then some (wfL (l.take 20) 0) else none := by
  have hw := wfL_bd (l.take 20) 0 ⟨by omega, by decide⟩
  split
  · rename_i h
    conv => lhs; rw [← h.2]
    exact numG_decD _ hw.1 hw.2
  · rename_i h
    cases hg : numG l with
    | none => rfl
    | some v =>
      exfalso
      have hd := (numG_dec hg).1
      have hl : l.length ≤ 20 := by rw [← hd]; exact (decD_len 19 v).1
      refine h ⟨hl, ?_⟩
      rw [List.take_of_length_le hl]
      have : dgL l 0 = some v := by
        rw [numG] at hg
        split at hg
        · cases hg
        · exact hg
      rw [wfL_dgL l 0 v (by omega) (by decide) this, hd]
theorem wfL_snoc : ∀ (l : List Int) (c n : Int), wfL (l ++ [c]) n = IntKind.u64.wrap (wfL l n * 10 + c - 48)
  | [], c, n => rfl
  | b :: l, c, n => wfL_snoc l c _
def nuV (l : List Int) : Value := .tuple #[.int .u64 ((numG l).getD 0), .bool (numG l).isSome]
theorem nuV_none {l : List Int} (h : numG l = none) : nuV l = .tuple #[.int .u64 0, .bool false] := by rw [nuV, h]; rfl
theorem nuV_some {l : List Int} {v : Int} (h : numG l = some v) : nuV l = .tuple #[.int .u64 v, .bool true] := by rw [nuV, h]; rfl
set_option maxHeartbeats 8000000 in
set_option maxRecDepth 100000 in
theorem ref_DNumber_calls (l : List Int) (w : World) (hl : isB l) (hm : l.length ≤ 1000000) :
    Calls Try.prog 72 #[.string (strOfNums l)] w fun e w' => e = .returned (nuV l) ∧ Below w.heap.size w w' := by
  have hs := strOf_size l
  obtain ⟨S, hS⟩ : ∃ S, strOfNums l = S := ⟨_, rfl⟩
  obtain ⟨n, hn⟩ : ∃ n, l.length = n := ⟨_, rfl⟩
  rw [hS, hn] at hs
  rw [hn] at hm
  rw [hS]
  have HS := Aside0.mk hS
  have HN := Aside0.mk hn
  have HI := Aside0.mk hl
  clear hS hn hl
  go_enter Try.func72, Try.ntmps72
  go_wp2_with fail
  go_loop [4, 5] (fun v4 v5 => ∃ (k : Nat) (x : Int), k ≤ 20 ∧ k ≤ n ∧ 0 ≤ x ∧ x ≤ 18446744073709551615 ∧ v5 = .int .i64 k ∧ v4 = .int .u64 x ∧ Aside0 (wfL (l.take k) 0 = x)) (fun _ v5 => n - (intOf v5).toNat)
  case atStart => exact ⟨0, 0, by omega, by omega, by omega, by decide, rfl, rfl, ⟨rfl⟩⟩
  case round =>
    obtain ⟨k, x, hk, hk2, x0, x1, rfl, rfl, HX⟩ := hrel
    by_cases c1 : k < n
    · by_cases c2 : k < 20
      · have hix := str_at l HI.out k k rfl (by rw [HN.out]; exact c1)
        rw [HS.out] at hix
        have hb := HI.out.getD k
        obtain ⟨b, eb⟩ : ∃ b, l.getD k 0 = b := ⟨_, rfl⟩
        rw [eb] at hix hb
        have HT := Aside0.mk (show wfL (l.take (k + 1)) 0 = IntKind.u64.wrap (x * 10 + b - 48) by
          have ht : l.take (k + 1) = l.take k ++ [b] := by
            rw [List.take_add_one, List.getElem?_eq_getElem (by rw [HN.out]; exact c1), ← eb, List.getD_eq_getElem?_getD, List.getElem?_eq_getElem (by rw [HN.out]; exact c1)]; rfl
          rw [ht, wfL_snoc, HX.out])
        obtain ⟨b0, b1⟩ := hb
        clear eb x1
        go_wp2_with fail
        go_round
        case rel => exact ⟨k + 1, IntKind.u64.wrap (x * 10 + b - 48), by omega, by omega, by rw [IntKind.wrap_u64]; omega, by rw [IntKind.wrap_u64]; omega, by go_num, congrArg (Value.int .u64) (by simp only [IntKind.wrap_u64]; omega), HT⟩
        case measure => simp [intOf] <;> omega
      · have HV := Aside0.mk (nuV_none (l := l) (by rw [numG_ref, if_neg (fun h => by have := h.1; rw [HN.out] at this; omega)]))
        have hx : decide ((20 : Int) < (n : Int)) = true := by rw [decide_eq_true_iff]; omega
        have c3 : 20 < n := by omega
        obtain rfl : k = 20 := by omega
        go_wp2_with fail
        go_ret2
        exact ⟨congrArg Ending.returned HV.out.symm, Below.refl _ _⟩
    · obtain rfl : k = n := by omega
      have HT := Aside0.mk (show wfL (l.take 20) 0 = x by rw [List.take_of_length_le (by rw [HN.out]; exact hk)]; rw [List.take_of_length_le (by rw [HN.out]; exact Nat.le_refl _)] at HX; exact HX.out)
      have HD := Aside0.mk (fun w => ref_Decimal_calls 19 x w (by omega) x0 (by rw [show (10 : Int) ^ (19 + 1) = 100000000000000000000 from rfl]; omega) x1)
      have HXB := Aside0.mk (show isB (decD (19 + 1) x) from decD_isB _ _ x0)
      have hq : ((strOfNums (decD (19 + 1) x)).toList == S.toList) = decide (decD (19 + 1) x = l) := by rw [← HS.out, same_iff HXB.out HI.out]
      have HF := Aside0.mk (numG_ref (l := l))
      rw [HT.out, HN.out] at HF
      obtain ⟨D, hD⟩ : ∃ D, strOfNums (decD (19 + 1) x) = D := ⟨_, rfl⟩
      rw [hD] at hq HD
      clear hD x1
      by_cases c3 : decD (19 + 1) x = l
      · have HV := Aside0.mk (nuV_some (l := l) (v := x) (by rw [HF.out, if_pos ⟨hk, c3⟩]))
        rw [decide_eq_true c3] at hq
        clear c3
        go_wp2_with fail
        with_reducible refine (HD.out _).mono ?_
        rintro _ w1 ⟨rfl, hb⟩
        have HB := Aside0.mk hb
        clear hb
        go_wp2_with fail
        go_ret2
        exact ⟨congrArg Ending.returned HV.out.symm, HB.out⟩
      · have HV := Aside0.mk (nuV_none (l := l) (by rw [HF.out, if_neg (fun h => c3 h.2)]))
        rw [decide_eq_false c3] at hq
        clear c3
        go_wp2_with fail
        with_reducible refine (HD.out _).mono ?_
        rintro _ w1 ⟨rfl, hb⟩
        have HB := Aside0.mk hb
        clear hb
        go_wp2_with fail
        go_ret2
        exact ⟨congrArg Ending.returned HV.out.symm, HB.out⟩
theorem dgL_drop {l : List Int} {k : Nat} (h : k < l.length) (x : Int) : dgL (l.drop k) x = if dgOk (l.getD k 0) x then dgL (l.drop (k + 1)) (10 * x + (l.getD k 0 - 48)) else none := by
  rw [List.drop_eq_getElem_cons h, dgL, List.getD_eq_getElem?_getD, List.getElem?_eq_getElem h]; rfl
theorem numG_in {l : List Int} (h1 : l ≠ []) (h2 : l.length ≤ 20) (h3 : ¬ (l.getD 0 0 = 48 ∧ 1 < l.length)) : numG l = dgL l 0 := by
  rw [numG, if_neg]
  rintro (h | h | h)
  · exact h1 h
  · omega
  · exact h3 h
set_option maxHeartbeats 8000000 in
set_option maxRecDepth 100000 in
theorem eNumber_in (l : List Int) (w : World) (hl : isB l) (h1 : l ≠ []) (h2 : l.length ≤ 20) (h3 : ¬ (l.getD 0 0 = 48 ∧ 1 < l.length)) :
    Calls Try.prog 70 #[.string (strOfNums l)] w fun e w' => e = .returned (nuV l) ∧ Below w.heap.size w w' := by
  have hs := strOf_size l
  have HG := Aside0.mk (numG_in h1 h2 h3)
  have kb := fun W => print_bytes (P := Try.prog) 9 37 5 Try.underlying9 Try.underlying37 Try.underlying5 (strOfNums l) W
  have hR := fun W => bytes_reads W 5 (strOfNums l) (by omega)
  rw [bytesOf_strOf hl] at hR
  have hne : 0 < l.length := by cases l with | nil => exact absurd rfl h1 | cons => simp
  have hi0 := str_at l hl 0 0 rfl hne
  have hb := hl.getD 0
  obtain ⟨n, hn⟩ : ∃ n, l.length = n := ⟨_, rfl⟩
  have HBEL := Aside0.mk (bytes_below (Below.refl w.heap.size w) (Nat.le_refl _) 5 (strOfNums l))
  have he0 : (strOfNums l).toList.isEmpty = false := by rw [strOfNums_toList']; cases l with | nil => exact absurd rfl h1 | cons => rfl
  obtain ⟨S, hS⟩ : ∃ S, strOfNums l = S := ⟨_, rfl⟩
  rw [hS] at hs kb hR hi0 he0 HBEL ⊢
  rw [hn] at hs h2 h3 hne
  rw [hs] at hR
  obtain ⟨b, eb⟩ : ∃ b, l.getD 0 0 = b := ⟨_, rfl⟩
  rw [eb] at hi0 h3 hb
  obtain ⟨b0, b1⟩ := hb
  have HN := Aside0.mk hn
  have HI := Aside0.mk hl
  have HR := Aside0.mk hR
  have he1 : (S.toList == []) = false := by cases hc : S.toList with | nil => rw [hc] at he0; cases he0 | cons => rfl
  clear hS hn hl hR h1 eb
  have hc3 : ¬ b = 48 ∨ (b = 48 ∧ ¬ 1 < n) := by omega
  rcases hc3 with c3 | ⟨c3, c4⟩
  · go_enter Try.func70, Try.ntmps70
    go_wp2_with fail
    go_loop [4, 28] (fun v4 v28 => ∃ (k : Nat) (x : Int), k ≤ n ∧ 0 ≤ x ∧ x ≤ 18446744073709551615 ∧ v28 = .int .i64 k ∧ v4 = .int .u64 x ∧ Aside0 (dgL (l.drop k) x = dgL l 0)) (fun _ v28 => n - (intOf v28).toNat)
    case atStart => exact ⟨0, 0, by omega, by omega, by decide, rfl, rfl, ⟨rfl⟩⟩
    case round =>
      obtain ⟨k, x, hk, x0, x1, rfl, rfl, HX⟩ := hrel
      by_cases d1 : k < n
      · obtain ⟨ad, e, hcell⟩ := rd_at (HR.out w) k d1
        have HD := Aside0.mk (dgL_drop (l := l) (k := k) (by rw [HN.out]; exact d1) x)
        have hcb := HI.out.getD k
        obtain ⟨c, ec⟩ : ∃ b, l.getD k 0 = b := ⟨_, rfl⟩
        rw [ec] at hcell hcb HD
        rw [HX.out] at HD
        obtain ⟨cb0, cb1⟩ := hcb
        simp only [Option.some.injEq] at e
        subst e
        rw [add_plain] at hcell
        clear ec
        by_cases e1 : c < 48
        · have HV := Aside0.mk (nuV_none (l := l) (by rw [HG.out, HD.out, if_neg (by rw [dgOk, decide_eq_true_iff]; omega)]))
          go_wp2_with fail
          go_ret2
          exact ⟨congrArg Ending.returned HV.out.symm, HBEL.out⟩
        · by_cases e2 : 57 < c
          · have HV := Aside0.mk (nuV_none (l := l) (by rw [HG.out, HD.out, if_neg (by rw [dgOk, decide_eq_true_iff]; omega)]))
            go_wp2_with fail
            go_ret2
            exact ⟨congrArg Ending.returned HV.out.symm, HBEL.out⟩
          · have hw1 : IntKind.u64.wrap (c - 48) = c - 48 := by rw [IntKind.wrap_u64]; omega
            have hw2 : IntKind.u64.wrap (18446744073709551615 - (c - 48)) = 18446744073709551615 - (c - 48) := by rw [IntKind.wrap_u64]; omega
            have h48 : (48 : Int) ≤ c := by omega
            obtain ⟨M, hM⟩ : ∃ M, (18446744073709551615 - (c - 48)) / 10 = M := ⟨_, rfl⟩
            by_cases e3 : M < x
            · have HV := Aside0.mk (nuV_none (l := l) (by rw [HG.out, HD.out, if_neg (by rw [dgOk, decide_eq_true_iff]; unfold dMax; omega)]))
              go_wp2_with fail
              go_ret2
              exact ⟨congrArg Ending.returned HV.out.symm, HBEL.out⟩
            · have hnx := dgOk_bd (c := c) (n := x) (by rw [dgOk, decide_eq_true_iff]; unfold dMax; omega) x0
              have HN2 := Aside0.mk (show dgL (l.drop (k + 1)) (10 * x + (c - 48)) = dgL l 0 by rw [HD.out, if_pos (by rw [dgOk, decide_eq_true_iff]; unfold dMax; omega)])
              unfold dMax at hnx
              obtain ⟨_, _, hx0, hx1⟩ := hnx
              have hw3 : IntKind.u64.wrap (10 * x) = 10 * x := by rw [IntKind.wrap_u64]; omega
              have hw4 : IntKind.u64.wrap (10 * x + (c - 48)) = 10 * x + (c - 48) := by rw [IntKind.wrap_u64]; omega
              go_wp2_with fail
              go_round
              case rel => exact ⟨k + 1, 10 * x + (c - 48), by omega, hx0, hx1, by go_num, by go_num, HN2⟩
              case measure => simp [intOf] <;> omega
      · obtain rfl : k = n := by omega
        have HV := Aside0.mk (nuV_some (l := l) (v := x) (by rw [HG.out, ← HX.out, List.drop_of_length_le (by rw [HN.out]; exact Nat.le_refl _)]; rfl))
        go_wp2_with fail
        go_ret2
        exact ⟨congrArg Ending.returned HV.out.symm, HBEL.out⟩
  · subst c3
    go_enter Try.func70, Try.ntmps70
    go_wp2_with fail
    go_loop [4, 28] (fun v4 v28 => ∃ (k : Nat) (x : Int), k ≤ n ∧ 0 ≤ x ∧ x ≤ 18446744073709551615 ∧ v28 = .int .i64 k ∧ v4 = .int .u64 x ∧ Aside0 (dgL (l.drop k) x = dgL l 0)) (fun _ v28 => n - (intOf v28).toNat)
    case atStart => exact ⟨0, 0, by omega, by omega, by decide, rfl, rfl, ⟨rfl⟩⟩
    case round =>
      obtain ⟨k, x, hk, x0, x1, rfl, rfl, HX⟩ := hrel
      by_cases d1 : k < n
      · obtain ⟨ad, e, hcell⟩ := rd_at (HR.out w) k d1
        have HD := Aside0.mk (dgL_drop (l := l) (k := k) (by rw [HN.out]; exact d1) x)
        have hcb := HI.out.getD k
        obtain ⟨c, ec⟩ : ∃ b, l.getD k 0 = b := ⟨_, rfl⟩
        rw [ec] at hcell hcb HD
        rw [HX.out] at HD
        obtain ⟨cb0, cb1⟩ := hcb
        simp only [Option.some.injEq] at e
        subst e
        rw [add_plain] at hcell
        clear ec
        by_cases e1 : c < 48
        · have HV := Aside0.mk (nuV_none (l := l) (by rw [HG.out, HD.out, if_neg (by rw [dgOk, decide_eq_true_iff]; omega)]))
          go_wp2_with fail
          go_ret2
          exact ⟨congrArg Ending.returned HV.out.symm, HBEL.out⟩
        · by_cases e2 : 57 < c
          · have HV := Aside0.mk (nuV_none (l := l) (by rw [HG.out, HD.out, if_neg (by rw [dgOk, decide_eq_true_iff]; omega)]))
            go_wp2_with fail
            go_ret2
            exact ⟨congrArg Ending.returned HV.out.symm, HBEL.out⟩
          · have hw1 : IntKind.u64.wrap (c - 48) = c - 48 := by rw [IntKind.wrap_u64]; omega
            have hw2 : IntKind.u64.wrap (18446744073709551615 - (c - 48)) = 18446744073709551615 - (c - 48) := by rw [IntKind.wrap_u64]; omega
            have h48 : (48 : Int) ≤ c := by omega
            obtain ⟨M, hM⟩ : ∃ M, (18446744073709551615 - (c - 48)) / 10 = M := ⟨_, rfl⟩
            by_cases e3 : M < x
            · have HV := Aside0.mk (nuV_none (l := l) (by rw [HG.out, HD.out, if_neg (by rw [dgOk, decide_eq_true_iff]; unfold dMax; omega)]))
              go_wp2_with fail
              go_ret2
              exact ⟨congrArg Ending.returned HV.out.symm, HBEL.out⟩
            · have hnx := dgOk_bd (c := c) (n := x) (by rw [dgOk, decide_eq_true_iff]; unfold dMax; omega) x0
              have HN2 := Aside0.mk (show dgL (l.drop (k + 1)) (10 * x + (c - 48)) = dgL l 0 by rw [HD.out, if_pos (by rw [dgOk, decide_eq_true_iff]; unfold dMax; omega)])
              unfold dMax at hnx
              obtain ⟨_, _, hx0, hx1⟩ := hnx
              have hw3 : IntKind.u64.wrap (10 * x) = 10 * x := by rw [IntKind.wrap_u64]; omega
              have hw4 : IntKind.u64.wrap (10 * x + (c - 48)) = 10 * x + (c - 48) := by rw [IntKind.wrap_u64]; omega
              go_wp2_with fail
              go_round
              case rel => exact ⟨k + 1, 10 * x + (c - 48), by omega, hx0, hx1, by go_num, by go_num, HN2⟩
              case measure => simp [intOf] <;> omega
      · obtain rfl : k = n := by omega
        have HV := Aside0.mk (nuV_some (l := l) (v := x) (by rw [HG.out, ← HX.out, List.drop_of_length_le (by rw [HN.out]; exact Nat.le_refl _)]; rfl))
        go_wp2_with fail
        go_ret2
        exact ⟨congrArg Ending.returned HV.out.symm, HBEL.out⟩
set_option maxHeartbeats 8000000 in
set_option maxRecDepth 100000 in
theorem eNumber_out (l : List Int) (w : World) (hl : isB l) (hm : l.length ≤ 9223372036854775807) (h : l = [] ∨ 20 < l.length ∨ (l.getD 0 0 = 48 ∧ 1 < l.length)) :
    Calls Try.prog 70 #[.string (strOfNums l)] w fun e w' => e = .returned (nuV l) ∧ Below w.heap.size w w' := by
  have HV := Aside0.mk (nuV_none (l := l) (by rw [numG, if_pos h]))
  cases l with
  | nil =>
    rw [show strOfNums [] = ByteArray.empty from rfl]
    go_enter Try.func70, Try.ntmps70
    go_wp2_with fail
    go_ret2
    exact ⟨congrArg Ending.returned HV.out.symm, Below.refl _ _⟩
  | cons b r =>
    have hs := strOf_size (b :: r)
    have he0 : (strOfNums (b :: r)).toList.isEmpty = false := by rw [strOfNums_toList']; rfl
    have he1 : ((strOfNums (b :: r)).toList == []) = false := by rw [strOfNums_toList']; rfl
    have hi0 := str_at (b :: r) hl 0 0 rfl (by simp)
    rw [List.getD_cons_zero] at hi0
    obtain ⟨n, hn⟩ : ∃ n, (b :: r).length = n := ⟨_, rfl⟩
    obtain ⟨S, hS⟩ : ∃ S, strOfNums (b :: r) = S := ⟨_, rfl⟩
    rw [hS] at hs hi0 he0 he1 ⊢
    rw [hn] at hs hm h
    rw [List.getD_cons_zero] at h
    clear hS hn hl
    by_cases c1 : 20 < n
    · clear h
      go_enter Try.func70, Try.ntmps70
      go_wp2_with fail
      go_ret2
      exact ⟨congrArg Ending.returned HV.out.symm, Below.refl _ _⟩
    · obtain ⟨rfl, h2⟩ : b = 48 ∧ 1 < n := by
        rcases h with h | h | h
        · cases h
        · omega
        · exact h
      go_enter Try.func70, Try.ntmps70
      go_wp2_with fail
      go_ret2
      exact ⟨congrArg Ending.returned HV.out.symm, Below.refl _ _⟩
theorem eNumber_calls (l : List Int) (w : World) (hl : isB l) (hm : l.length ≤ 9223372036854775807) :
    Calls Try.prog 70 #[.string (strOfNums l)] w fun e w' => e = .returned (nuV l) ∧ Below w.heap.size w w' := by
  by_cases h : l = [] ∨ 20 < l.length ∨ (l.getD 0 0 = 48 ∧ 1 < l.length)
  · exact eNumber_out l w hl hm h
  · exact eNumber_in l w hl (fun e => h (.inl e)) (by omega) (fun e => h (.inr (.inr e)))
end Go.Proofs.Ytplmdgimodgekaa
