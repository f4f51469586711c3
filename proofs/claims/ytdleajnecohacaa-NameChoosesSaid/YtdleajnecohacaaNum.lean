/- Contracts of the numbers of names, of the program and of the reference, over this translation. -/
import Derived.Test.YtdleajnecohacaaHex
import Derived.Test.YtdleajnecohacaaStr
namespace Go.Proofs.Ytdleajnecohacaa
open Go.RowKit Go.Proofs.YtdleajnecohacaaW.PrintWords Go.Proofs.YtdleajnecohacaaW.PrintLast Go.Proofs.YtdleajnecohacaaW.PrintMore
attribute [local go_sem] max2_int min2_int max_two min_two max_three min_three max_four min_four   -- for this text's walks alone
set_option linter.unusedVariables false
set_option linter.unusedSimpArgs false

/-- k digits of n, as numbers. -/
def hI : Nat → Int → List Int
  | 0, _ => []
  | k + 1, n => hexC (n / 16 ^ k % 16) :: hI k n
theorem hI_len : ∀ k n, (hI k n).length = k
  | 0, _ => rfl
  | k + 1, n => by simp [hI, hI_len k n]
theorem hexC_bd (d : Int) (h0 : 0 ≤ d) (h1 : d ≤ 15) : 48 ≤ hexC d ∧ hexC d ≤ 102 := by unfold hexC; split <;> omega
theorem hI_isB : ∀ k n, isB (hI k n)
  | 0, _ => fun x hx => by simp [hI] at hx
  | k + 1, n => fun x hx => by
    simp only [hI, List.mem_cons] at hx
    rcases hx with rfl | hx
    · have := hexC_bd (n / 16 ^ k % 16) (by omega) (by omega); omega
    · exact hI_isB k n x hx
theorem hexL_hI (n : Int) : hexL n = hI 16 n := by
  simp only [hexL, hexD, List.range_succ_eq_map, List.range_zero, List.map_cons, List.map_nil, hI]
  rfl
/-- A digit's value. -/
def hv (c : Int) : Option Int := if 48 ≤ c ∧ c ≤ 57 then some (c - 48) else if 97 ≤ c ∧ c ≤ 102 then some (c - 87) else none
def numL : List Int → Int → Option Int
  | [], n => some n
  | c :: r, n => (hv c).bind fun d => numL r (n * 16 + d)
theorem hv_hexC (d : Int) (h0 : 0 ≤ d) (h1 : d ≤ 15) : hv (hexC d) = some d := by
  unfold hv hexC
  split
  · rw [if_neg (by omega), if_pos (by omega)]; congr 1; omega
  · rw [if_pos (by omega)]; congr 1; omega
theorem hexC_hv {c d : Int} (h : hv c = some d) : hexC d = c ∧ 0 ≤ d ∧ d ≤ 15 := by
  unfold hv at h
  unfold hexC
  split at h
  · simp at h; subst h; rw [if_neg (by omega)]; omega
  · split at h
    · simp at h; subst h; rw [if_pos (by omega)]; omega
    · simp at h
theorem pow16_pos (k : Nat) : (0 : Int) < 16 ^ k := Int.pow_pos (by omega)
theorem div16 (n : Int) (k : Nat) : n / 16 ^ k / 16 = n / 16 ^ (k + 1) := by rw [Int.ediv_ediv_of_nonneg (Int.le_of_lt (pow16_pos k)), Int.pow_succ]
/-- Reading k digits of n behind the digits ahead of them. -/
theorem numL_hI : ∀ (k : Nat) (n : Int), numL (hI k n) (n / 16 ^ k) = some n
  | 0, n => by simp [hI, numL]
  | k + 1, n => by
    rw [hI, numL, hv_hexC _ (by omega) (by omega)]
    simp only [Option.bind_some]
    rw [← div16, show n / 16 ^ k / 16 * 16 + n / 16 ^ k % 16 = n / 16 ^ k by omega]
    exact numL_hI k n
theorem numL_hexL (n : Int) (h0 : 0 ≤ n) (h1 : n ≤ 18446744073709551615) : numL (hexL n) 0 = some n := by
  rw [hexL_hI]
  have h := numL_hI 16 n
  rwa [show n / 16 ^ 16 = 0 from Int.ediv_eq_zero_of_lt h0 (by omega)] at h
/-- What is read is written so. -/
theorem hI_numL : ∀ (l : List Int) (n v : Int), 0 ≤ n → numL l n = some v → hI l.length v = l ∧ v / 16 ^ l.length = n
  | [], n, v, _, h => by simp [numL] at h; subst h; simp [hI]
  | c :: r, n, v, h0, h => by
    simp only [numL] at h
    cases hc : hv c with
    | none => rw [hc] at h; simp at h
    | some d =>
      rw [hc] at h
      simp only [Option.bind_some] at h
      obtain ⟨e, d0, d1⟩ := hexC_hv hc
      obtain ⟨e1, e2⟩ := hI_numL r (n * 16 + d) v (by omega) h
      rw [List.length_cons, hI, e2, ← div16, e2]
      refine ⟨?_, by omega⟩
      rw [show (n * 16 + d) % 16 = d by omega, e, e1]
/-- What the reference adds up: what is no digit adds nothing. -/
def numR : List Int → Int → Int
  | [], n => n
  | c :: r, n => numR r (n * 16 + (hv c).getD 0)
theorem numR_numL : ∀ (l : List Int) (n v : Int), numL l n = some v → numR l n = v
  | [], n, v, h => by simpa [numL, numR] using h
  | c :: r, n, v, h => by
    simp only [numL] at h
    cases hc : hv c with
    | none => rw [hc] at h; simp at h
    | some d =>
      rw [hc] at h
      simp only [Option.bind_some] at h
      rw [numR, hc]
      exact numR_numL r _ v h
/-- What a text says: a number, or none. -/
def numS (s : ByteArray) : Option Int := if s.size = 16 then numL (bytesOf s) 0 else none
theorem numS_hexS (n : Int) (h0 : 0 ≤ n) (h1 : n ≤ 18446744073709551615) : numS (hexS n) = some n := by
  rw [numS, if_pos (hexS_size n), hexS, bytesOf_strOf (by rw [hexL_hI]; exact hI_isB _ _), numL_hexL n h0 h1]
theorem hexS_numS {s : ByteArray} {v : Int} (h : numS s = some v) : hexS v = s ∧ 0 ≤ v ∧ v ≤ 18446744073709551615 := by
  unfold numS at h
  split at h
  · rename_i h16
    obtain ⟨e1, e2⟩ := hI_numL (bytesOf s) 0 v (Int.le_refl _) h
    rw [bytesOf_length, h16] at e1 e2
    refine ⟨by rw [hexS, hexL_hI, e1, strOf_bytesOf], ?_, ?_⟩ <;> omega
  · simp at h
/-- The reference's way: what is added up, written, is the text or not. -/
theorem numS_ref (s : ByteArray) (m : Int) (hm : m = numR ((bytesOf s).take 16) 0) (h0 : 0 ≤ m) (h1 : m ≤ 18446744073709551615) : numS s = if hexS m = s then some m else none := by
  by_cases e : hexS m = s
  · rw [if_pos e]
    have := numS_hexS m h0 h1
    rwa [e] at this
  · rw [if_neg e]
    cases hn : numS s with
    | none => rfl
    | some v =>
      exfalso
      obtain ⟨e1, _, _⟩ := hexS_numS hn
      unfold numS at hn
      split at hn
      · rename_i h16
        have hr := numR_numL _ _ _ hn
        rw [List.take_of_length_le (by rw [bytesOf_length]; omega), hr] at hm
        subst hm
        exact e e1
      · simp at hn

theorem numL_bound : ∀ (l : List Int) (n v : Int), 0 ≤ n → numL l n = some v → 0 ≤ v
  | [], n, v, h0, h => by simp [numL] at h; omega
  | c :: r, n, v, h0, h => by
    simp only [numL] at h
    cases hc : hv c with
    | none => rw [hc] at h; simp at h
    | some d =>
      rw [hc] at h
      simp only [Option.bind_some] at h
      have := hexC_hv hc
      exact numL_bound r _ v (by omega) h
theorem lt16_15 : ∀ {k : Nat}, k ≤ 15 → (16 : Int) ^ k ≤ 1152921504606846976 := by decide
theorem or4 (x d : Int) (h0 : 0 ≤ x) (h1 : x ≤ 1152921504606846975) (hd : 0 ≤ d ∧ d ≤ 15) : Go.bits .or .u64 (x * 16) d = x * 16 + d := by
  have := or_u64 x d 4 h0 (by omega) hd.1 (by omega) (by omega)
  rwa [show (2 : Int) ^ 4 = 16 from rfl] at this
def numSt (l : List Int) (k : Nat) (x : Int) : Prop := 0 ≤ x ∧ x < 16 ^ k ∧ numL l 0 = numL (l.drop k) x
theorem getD_drop_cons {l : List Int} {k : Nat} (h : k < l.length) : l.drop k = l.getD k 0 :: l.drop (k + 1) := by
  rw [List.drop_eq_getElem_cons h, List.getD_eq_getElem?_getD, List.getElem?_eq_getElem h]; rfl
theorem numSt_step {l : List Int} {k : Nat} {x d : Int} (h : numSt l k x) (hk : k < l.length) (hd : hv (l.getD k 0) = some d) : numSt l (k + 1) (x * 16 + d) := by
  obtain ⟨h0, h1, h2⟩ := h
  obtain ⟨_, d0, d1⟩ := hexC_hv hd
  refine ⟨by omega, ?_, ?_⟩
  · rw [Int.pow_succ]; omega
  · rw [h2, getD_drop_cons hk, numL, hd]; rfl
theorem numSt_bad {l : List Int} {k : Nat} {x : Int} (h : numSt l k x) (hk : k < l.length) (hd : hv (l.getD k 0) = none) : numL l 0 = none := by
  rw [h.2.2, getD_drop_cons hk, numL, hd]; rfl
def numV (s : ByteArray) : Value := .tuple #[.int .u64 ((numS s).getD 0), .bool (numS s).isSome]
theorem numV_none {s : ByteArray} (h : numS s = none) : numV s = .tuple #[.int .u64 0, .bool false] := by rw [numV, h]; rfl
theorem numV_some {s : ByteArray} {v : Int} (h : numS s = some v) : numV s = .tuple #[.int .u64 v, .bool true] := by rw [numV, h]; rfl
set_option maxHeartbeats 8000000 in
set_option maxRecDepth 100000 in
theorem name_Number_calls (s : ByteArray) (w : World) :
    Calls Try.prog 90 #[.string s] w fun e w' => e = .returned (numV s) ∧ Below w.heap.size w w' := by
  by_cases h16 : s.size = 16
  · have kb := fun W => print_bytes (P := Try.prog) 9 30 5 Try.underlying9 Try.underlying30 Try.underlying5 s W
    have HL := Aside0.mk (show (bytesOf s).length = 16 by rw [bytesOf_length, h16])
    have hR := fun W => bytes_reads W 5 s (by omega)
    rw [h16] at hR
    have HR := Aside0.mk hR
    have HIB := Aside0.mk (bytesOf_isB s)
    have HS := Aside0.mk (show numS s = numL (bytesOf s) 0 by rw [numS, if_pos h16])
    obtain ⟨l, hl⟩ : ∃ l, bytesOf s = l := ⟨_, rfl⟩
    rw [hl] at HL HR HIB HS
    clear hR hl
    obtain ⟨n16, hn16⟩ : ∃ n : Nat, s.size = n := ⟨_, rfl⟩
    go_enter Try.func90, Try.ntmps90
    go_wp2
    go_loop [4, 6, 13] (fun v4 v6 v13 => ∃ (k : Nat) (x : Int), k ≤ 16 ∧ v13 = .int .i64 k ∧ v4 = .int .u64 x ∧ Aside0 (numSt l k x)) (fun _ _ v13 => 16 - (intOf v13).toNat)
    case atStart => exact ⟨0, 0, by omega, rfl, rfl, ⟨⟨by omega, by decide, rfl⟩⟩⟩
    case round =>
      obtain ⟨k, x, hk, rfl, rfl, HX⟩ := hrel
      by_cases c1 : k < 16
      · obtain ⟨b, hbb⟩ : ∃ b, l.getD k 0 = b := ⟨_, rfl⟩
        obtain ⟨ad, e, hcell⟩ := rd_at (HR.out w) k (by omega)
        rw [hbb] at hcell
        have hb0 := HIB.out.getD k
        rw [hbb] at hb0
        obtain ⟨hb0, hb1⟩ := hb0
        obtain ⟨hx0, hx1, _⟩ := HX.out
        have hx2 := lt16_15 (show k ≤ 15 by omega)
        have hx3 : x ≤ 1152921504606846975 := by omega
        clear hx1 hx2
        have HLb := Aside0.mk hbb
        clear hbb
        simp only [Option.some.injEq] at e
        subst e
        rw [add_plain] at hcell
        by_cases d1 : 48 ≤ b ∧ b ≤ 57
        · have HV := Aside0.mk (show hv (l.getD k 0) = some (b - 48) by rw [HLb.out, hv, if_pos d1])
          obtain ⟨d1, d2⟩ := d1
          have hor := or4 x (b - 48) hx0 hx3 (by omega)
          go_wp2
          go_round
          case rel => exact ⟨k + 1, x * 16 + (b - 48), by omega, by go_num, rfl, ⟨numSt_step HX.out (by rw [HL.out]; omega) HV.out⟩⟩
          case measure => simp [intOf]; omega
        · by_cases d3 : 97 ≤ b ∧ b ≤ 102
          · have HV := Aside0.mk (show hv (l.getD k 0) = some (b - 87) by rw [HLb.out, hv, if_neg d1, if_pos d3])
            obtain ⟨d3, d4⟩ := d3
            have hor := or4 x (b - 87) hx0 hx3 (by omega)
            have hb97 : b - 97 + 10 = b - 87 := by omega
            have n1 : decide (b ≤ 57) = false := by simp; omega
            have n2 : decide (48 ≤ b) = true := by simp; omega
            clear d1
            go_wp2
            go_round
            case rel => exact ⟨k + 1, x * 16 + (b - 87), by omega, by go_num, rfl, ⟨numSt_step HX.out (by rw [HL.out]; omega) HV.out⟩⟩
            case measure => simp [intOf]; omega
          · have HV := Aside0.mk (show hv (l.getD k 0) = none by rw [HLb.out, hv, if_neg d1, if_neg d3])
            have HE := Aside0.mk (numV_none (s := s) (by rw [HS.out]; exact numSt_bad HX.out (by rw [HL.out]; omega) HV.out))
            have HB := Aside0.mk (bytes_below (Below.refl w.heap.size w) (Nat.le_refl _) 5 s)
            by_cases q1 : 48 ≤ b
            · by_cases q2 : 97 ≤ b
              · have n1 : decide (b ≤ 57) = false := by simp; omega
                have n2 : decide (b ≤ 102) = false := by simp; omega
                clear d1 d3
                go_wp2
                go_ret2
                exact ⟨by rw [HE.out]; rfl, HB.out⟩
              · have n1 : decide (b ≤ 57) = false := by simp; omega
                clear d1 d3
                go_wp2
                go_ret2
                exact ⟨by rw [HE.out]; rfl, HB.out⟩
            · have n1 : decide (97 ≤ b) = false := by simp; omega
              clear d1 d3
              go_wp2
              go_ret2
              exact ⟨by rw [HE.out]; rfl, HB.out⟩
      · have HB := Aside0.mk (bytes_below (Below.refl w.heap.size w) (Nat.le_refl _) 5 s)
        have HJ := Aside0.mk (show k = 16 by omega)
        have HE := Aside0.mk (numV_some (s := s) (v := x) (by rw [HS.out, HX.out.2.2, HJ.out, List.drop_of_length_le (by rw [HL.out]; omega)]; rfl))
        go_wp2
        go_ret2
        exact ⟨by rw [HE.out]; rfl, HB.out⟩
  · have HE := Aside0.mk (numV_none (s := s) (by rw [numS, if_neg h16]))
    have hne : ((s.size : Int) != 16) = true := by simp; omega
    clear h16
    go_enter Try.func90, Try.ntmps90
    go_wp2
    go_ret2
    exact ⟨by rw [HE.out]; rfl, Below.refl _ _⟩
set_option maxHeartbeats 8000000 in
set_option maxRecDepth 100000 in
theorem ref_Hex_calls (n : Int) (w : World) (h0 : 0 ≤ n) (h1 : n ≤ 18446744073709551615) :
    Calls Try.prog 93 #[.int .u64 n] w fun e w' => e = .returned (.string (hexS n)) ∧ Below w.heap.size w w' := by
  have HN := Aside0.mk h0
  have HE := Aside0.mk (show hexS n = strOfNums (hI 16 n) by rw [hexS, hexL_hI])
  go_enter Try.func93, Try.ntmps93
  go_wp2
  go_loopw [0, 3, 4, 5, 6] (fun v0 v3 v4 v5 v6 w' => ∃ k : Nat, k ≤ 16 ∧ v4 = .int .i64 k ∧ v0 = .int .u64 (n / 16 ^ k) ∧ v3 = .string (strOfNums (hI k n)) ∧ Aside0 (Below w.heap.size w w')) (fun _ _ v4 _ _ _ => 16 - (intOf v4).toNat)
  case atStart => exact ⟨0, by omega, rfl, by simp, rfl, ⟨Below.refl _ _⟩⟩
  case round =>
    obtain ⟨k, hk, rfl, rfl, rfl, HB⟩ := hrel
    by_cases c : k < 16
    · have hx0 : 0 ≤ n / 16 ^ k := Int.ediv_nonneg HN.out (Int.pow_nonneg (by omega))
      have hx1 : n / 16 ^ k ≤ 18446744073709551615 := Int.le_trans (Int.ediv_le_self _ HN.out) h1
      obtain ⟨y, hy⟩ : ∃ y, n / 16 ^ k = y := ⟨_, rfl⟩
      have HY := Aside0.mk hy
      have HD := Aside0.mk (show n / 16 ^ (k + 1) = y / 16 by rw [← hy, div16])
      obtain ⟨d, hd⟩ : ∃ d, y % 16 = d := ⟨_, rfl⟩
      have hd0 : 0 ≤ d := by omega
      have hd1 : d ≤ 15 := by omega
      have HDD := Aside0.mk (show hI (k + 1) n = hexC d :: hI k n by rw [hI, hy, hd])
      rw [hy] at hx0 hx1
      clear hy
      obtain ⟨s, hs⟩ : ∃ s, strOfNums (hI k n) = s := ⟨_, rfl⟩
      have hsz : s.size = k := by rw [← hs, strOfNums_size, hI_len]
      have HSS := Aside0.mk hs
      clear hs
      rw [HY.out, HSS.out]
      have hm : d % 256 = d := by omega
      by_cases c9 : 9 < d
      · have hm2 : (97 + (d - 10)) % 256 = 97 + (d - 10) := by omega
        have hm3 : (d - 10) % 256 = d - 10 := by omega
        have hm4 : (48 + d) % 256 = 48 + d := by omega
        have hcv : ∀ W : World, (convert 30 9 (.slice (some ⟨W.heap.size, 0, none⟩) 1 1)).run Try.prog (W.alloc (.cells #[.int .u8 (97 + (d - 10))] 5)) = .ok (.string (strOfNums [97 + (d - 10)])) (W.alloc (.cells #[.int .u8 (97 + (d - 10))] 5)) := fun W =>
          string_of_reads (P := Try.prog) (c := 1) Try.underlying30 Try.underlying5 Try.underlying9 (own_reads' (own_lit W 0 5 .u8 [97 + (d - 10)] (Nat.zero_le _) (by simp)))
        have HF := Aside0.mk (show strOfNums [97 + (d - 10)] ++ s = strOfNums (hI (k + 1) n) by rw [← HSS.out, strOf_append, HDD.out, hexC, if_pos c9, show 97 + (d - 10) = 87 + d by omega]; rfl)
        have hs1 : (strOfNums [97 + (d - 10)]).size = 1 := by rw [strOfNums_size]; rfl
        obtain ⟨c1, hc1⟩ : ∃ c1, strOfNums [97 + (d - 10)] = c1 := ⟨_, rfl⟩
        rw [hc1] at hs1
        have HC1 := Aside0.mk hc1
        simp only [hc1] at hcv
        clear hc1
        go_wp2
        go_roundw
        case rel => exact ⟨k + 1, by omega, by go_num, by rw [HD.out], by rw [← HF.out, HC1.out], ⟨by (repeat (first | (with_reducible first | exact HB.out | apply below_alloc | apply pw_below_drewN | apply below_drew1) | exact HB.out))⟩⟩
        case measure => simp [intOf]; omega
      · have hm4 : (48 + d) % 256 = 48 + d := by omega
        have hcv : ∀ W : World, (convert 30 9 (.slice (some ⟨W.heap.size, 0, none⟩) 1 1)).run Try.prog (W.alloc (.cells #[.int .u8 (48 + d)] 5)) = .ok (.string (strOfNums [48 + d])) (W.alloc (.cells #[.int .u8 (48 + d)] 5)) := fun W =>
          string_of_reads (P := Try.prog) (c := 1) Try.underlying30 Try.underlying5 Try.underlying9 (own_reads' (own_lit W 0 5 .u8 [48 + d] (Nat.zero_le _) (by simp)))
        have HF := Aside0.mk (show strOfNums [48 + d] ++ s = strOfNums (hI (k + 1) n) by rw [← HSS.out, strOf_append, HDD.out, hexC, if_neg c9]; simp)
        have hs1 : (strOfNums [48 + d]).size = 1 := by rw [strOfNums_size]; rfl
        obtain ⟨c1, hc1⟩ : ∃ c1, strOfNums [48 + d] = c1 := ⟨_, rfl⟩
        rw [hc1] at hs1
        have HC1 := Aside0.mk hc1
        simp only [hc1] at hcv
        clear hc1
        go_wp2
        go_roundw
        case rel => exact ⟨k + 1, by omega, by go_num, by rw [HD.out], by rw [← HF.out, HC1.out], ⟨by (repeat (first | (with_reducible first | exact HB.out | apply below_alloc | apply pw_below_drewN | apply below_drew1) | exact HB.out))⟩⟩
        case measure => simp [intOf]; omega
    · have HJ := Aside0.mk (show k = 16 by omega)
      go_wp2
      go_ret
      exact ⟨by rw [HE.out, ← HJ.out]; rfl, HB.out⟩

theorem numR_step (l : List Int) : ∀ (k : Nat), k < l.length → numR (l.take (k + 1)) 0 = numR (l.take k) 0 * 16 + (hv (l.getD k 0)).getD 0 := by
  have gen : ∀ (m : List Int) (c n : Int), numR (m ++ [c]) n = numR m n * 16 + (hv c).getD 0 := by
    intro m
    induction m with
    | nil => intro c n; rfl
    | cons a m ih => intro c n; exact ih c _
  intro k hk
  rw [List.take_succ_eq_append_getElem hk, gen, List.getD_eq_getElem?_getD, List.getElem?_eq_getElem hk]
  rfl
theorem hv_bd (c : Int) : 0 ≤ (hv c).getD 0 ∧ (hv c).getD 0 ≤ 15 := by
  cases h : hv c with
  | none => simp
  | some d => have := hexC_hv h; simp; omega
theorem numR_bound (l : List Int) : ∀ (k : Nat), k ≤ l.length → 0 ≤ numR (l.take k) 0 ∧ numR (l.take k) 0 < 16 ^ k
  | 0, _ => by simp [numR]
  | k + 1, h => by
    have ih := numR_bound l k (by omega)
    have hb := hv_bd (l.getD k 0)
    rw [numR_step l k (by omega), Int.pow_succ]
    omega
theorem lt16_16 : ∀ {k : Nat}, k ≤ 16 → (16 : Int) ^ k ≤ 18446744073709551616 := by decide
set_option maxHeartbeats 8000000 in
set_option maxRecDepth 100000 in
theorem ref_Number_calls (s : ByteArray) (w : World) (hsm : s.size ≤ 140737488351232) :
    Calls Try.prog 91 #[.string s] w fun e w' => e = .returned (numV s) ∧ Below w.heap.size w w' := by
  have hlen := bytesOf_length s
  have hbt := bt_k s
  have HIB := Aside0.mk (bytesOf_isB s)
  obtain ⟨l, hl⟩ : ∃ l, bytesOf s = l := ⟨_, rfl⟩
  have HL := Aside0.mk hl
  rw [hl] at hlen hbt HIB
  clear hl
  have HLEN := Aside0.mk hlen
  have HBT := Aside0.mk hbt
  clear hlen hbt
  go_enter Try.func91, Try.ntmps91
  go_wp2
  go_loop [4, 5] (fun v4 v5 => ∃ (k : Nat), k ≤ 16 ∧ k ≤ s.size ∧ v5 = .int .i64 k ∧ v4 = .int .u64 (numR (l.take k) 0)) (fun _ v5 => s.size - (intOf v5).toNat)
  case atStart => exact ⟨0, by omega, by omega, rfl, rfl⟩
  case round =>
    obtain ⟨k, hk, hk2, rfl, rfl⟩ := hrel
    by_cases c1 : k < s.size
    · by_cases c2 : k < 16
      · obtain ⟨x, hx⟩ : ∃ x, numR (l.take k) 0 = x := ⟨_, rfl⟩
        obtain ⟨b, hbb⟩ : ∃ b, l.getD k 0 = b := ⟨_, rfl⟩
        have hbt : ∀ h : k < s.size, ((s[k]'h).toNat : Int) = b := by rw [← hbb]; exact HBT.out k
        have hb0 := HIB.out.getD k
        rw [hbb] at hb0
        obtain ⟨hb0, hb1⟩ := hb0
        have hxb := numR_bound l k (by rw [HLEN.out]; omega)
        have hx2 := lt16_15 (show k ≤ 15 by omega)
        rw [hx] at hxb
        have hx0 := hxb.1
        have hx3 : x ≤ 1152921504606846975 := by omega
        have HST := Aside0.mk (show numR (l.take (k + 1)) 0 = x * 16 + (hv b).getD 0 by rw [numR_step l k (by rw [HLEN.out]; omega), hx, hbb])
        have HX := Aside0.mk hx
        clear hxb hx2 hx hbb
        rw [HX.out]
        by_cases d1 : 48 ≤ b ∧ b ≤ 57
        · have HV := Aside0.mk (show hv b = some (b - 48) by rw [hv, if_pos d1])
          obtain ⟨d1, d2⟩ := d1
          have n1 : decide (97 ≤ b) = false := by simp; omega
          go_wp2
          go_round
          case rel => exact ⟨k + 1, by omega, by omega, by go_num, by rw [HST.out, HV.out]; rfl⟩
          case measure => simp [intOf]; omega
        · by_cases d3 : 97 ≤ b ∧ b ≤ 102
          · have HV := Aside0.mk (show hv b = some (b - 87) by rw [hv, if_neg d1, if_pos d3])
            obtain ⟨d3, d4⟩ := d3
            have n1 : decide (b ≤ 57) = false := by simp; omega
            clear d1
            go_wp2
            go_round
            case rel => exact ⟨k + 1, by omega, by omega, by go_num, by rw [HST.out, HV.out]; exact congrArg (Value.int .u64) (by simp; omega)⟩
            case measure => simp [intOf]; omega
          · have HV := Aside0.mk (show hv b = none by rw [hv, if_neg d1, if_neg d3])
            by_cases q1 : 48 ≤ b
            · have n1 : decide (b ≤ 57) = false := by simp; omega
              by_cases q2 : 97 ≤ b
              · have n2 : decide (b ≤ 102) = false := by simp; omega
                clear d1 d3
                go_wp2
                go_round
                case rel => exact ⟨k + 1, by omega, by omega, by go_num, by rw [HST.out, HV.out]; exact congrArg (Value.int .u64) (by simp)⟩
                case measure => simp [intOf]; omega
              · clear d1 d3
                go_wp2
                go_round
                case rel => exact ⟨k + 1, by omega, by omega, by go_num, by rw [HST.out, HV.out]; exact congrArg (Value.int .u64) (by simp)⟩
                case measure => simp [intOf]; omega
            · have n1 : decide (97 ≤ b) = false := by simp; omega
              clear d1 d3
              go_wp2
              go_round
              case rel => exact ⟨k + 1, by omega, by omega, by go_num, by rw [HST.out, HV.out]; exact congrArg (Value.int .u64) (by simp)⟩
              case measure => simp [intOf]; omega
      · obtain ⟨x, hx⟩ : ∃ x, numR (l.take k) 0 = x := ⟨_, rfl⟩
        have HJ := Aside0.mk (show k = 16 by omega)
        have HXR := Aside0.mk (show x = numR ((bytesOf s).take 16) 0 by rw [HL.out, ← hx, HJ.out])
        have hxb := numR_bound l k (by rw [HLEN.out]; omega)
        have hx2 := lt16_16 hk
        rw [hx] at hxb
        have hx0 := hxb.1
        have hx1 : x ≤ 18446744073709551615 := by omega
        have HREF := Aside0.mk (numS_ref s x HXR.out hx0 hx1)
        rw [hx]
        clear hxb hx2 hx
        by_cases e : hexS x = s
        · have HE := Aside0.mk (numV_some (s := s) (v := x) (by rw [HREF.out, if_pos e]))
          have hse : ((hexS x).toList == s.toList) = true := by rw [str_eq_iff]; exact decide_eq_true e
          clear e
          go_wp2_with fail
          refine (ref_Hex_calls x _ hx0 hx1).mono ?_
          rintro e w1 ⟨rfl, hb⟩
          have HB1 := Aside0.mk hb
          clear hb
          go_wp2_with fail
          go_ret2
          exact ⟨by rw [HE.out]; rfl, HB1.out⟩
        · have HE := Aside0.mk (numV_none (s := s) (by rw [HREF.out, if_neg e]))
          have hse : ((hexS x).toList == s.toList) = false := by rw [str_eq_iff]; exact decide_eq_false e
          clear e
          go_wp2_with fail
          refine (ref_Hex_calls x _ hx0 hx1).mono ?_
          rintro e w1 ⟨rfl, hb⟩
          have HB1 := Aside0.mk hb
          clear hb
          go_wp2_with fail
          go_ret2
          exact ⟨by rw [HE.out]; rfl, HB1.out⟩
    · obtain ⟨x, hx⟩ : ∃ x, numR (l.take k) 0 = x := ⟨_, rfl⟩
      have HJ := Aside0.mk (show k = s.size by omega)
      have HXR := Aside0.mk (show x = numR ((bytesOf s).take 16) 0 by rw [HL.out, ← hx, List.take_of_length_le (by rw [HLEN.out]; omega), List.take_of_length_le (by rw [HLEN.out]; omega)])
      have hxb := numR_bound l k (by rw [HLEN.out]; omega)
      have hx2 := lt16_16 hk
      rw [hx] at hxb
      have hx0 := hxb.1
      have hx1 : x ≤ 18446744073709551615 := by omega
      have HREF := Aside0.mk (numS_ref s x HXR.out hx0 hx1)
      rw [hx]
      clear hxb hx2 hx
      by_cases e : hexS x = s
      · have HE := Aside0.mk (numV_some (s := s) (v := x) (by rw [HREF.out, if_pos e]))
        have hse : ((hexS x).toList == s.toList) = true := by rw [str_eq_iff]; exact decide_eq_true e
        clear e
        go_wp2_with fail
        refine (ref_Hex_calls x _ hx0 hx1).mono ?_
        rintro e w1 ⟨rfl, hb⟩
        have HB1 := Aside0.mk hb
        clear hb
        go_wp2_with fail
        go_ret2
        exact ⟨by rw [HE.out]; rfl, HB1.out⟩
      · have HE := Aside0.mk (numV_none (s := s) (by rw [HREF.out, if_neg e]))
        have hse : ((hexS x).toList == s.toList) = false := by rw [str_eq_iff]; exact decide_eq_false e
        clear e
        go_wp2_with fail
        refine (ref_Hex_calls x _ hx0 hx1).mono ?_
        rintro e w1 ⟨rfl, hb⟩
        have HB1 := Aside0.mk hb
        clear hb
        go_wp2_with fail
        go_ret2
        exact ⟨by rw [HE.out]; rfl, HB1.out⟩
theorem numS_bd (s : ByteArray) : 0 ≤ (numS s).getD 0 ∧ (numS s).getD 0 ≤ 18446744073709551615 := by
  cases h : numS s with
  | none => simp
  | some v => have := hexS_numS h; simp; omega
end Go.Proofs.Ytdleajnecohacaa
