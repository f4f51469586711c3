/- Headers and slots as bytes: contracts of the two Encodes, and of their references. -/
import Derived.Test.YtigdchfjcfljjaaBk
import Derived.Test.YtigdchfjcfljjaaCrc
namespace Go.Proofs.Ytigdchfjcfljjaa
open Go.RowKit Go.Proofs.YtigdchfjcfljjaaW.PrintWords Go.Proofs.YtigdchfjcfljjaaW.PrintLast Go.Proofs.YtigdchfjcfljjaaW.PrintMore
attribute [local go_sem] max2_int min2_int max_two min_two max_three min_three max_four min_four   -- for this text's walks alone
set_option linter.unusedVariables false
set_option linter.unusedSimpArgs false

def magicL : List Int := [76, 79, 71, 66, 79, 79, 75, 49]
theorem magic_isB : isB magicL := fun x hx => by simp [magicL] at hx; omega
theorem isB_nil : isB [] := fun x hx => by simp at hx
/-- The bytes ahead of the sum, with it, and filled up. -/
def encB (pre ws : List Int) : List Int := pre ++ words8 ws
def encC (pre ws : List Int) : List Int := encB pre ws ++ leB (crcN (encB pre ws) : Nat) 4
def encZ (pre ws : List Int) : List Int := encC pre ws ++ List.replicate 12 0
theorem encB_isB {pre : List Int} (h : isB pre) (ws : List Int) : isB (encB pre ws) := h.app (words8_isB' _)
theorem encC_isB {pre : List Int} (h : isB pre) (ws : List Int) : isB (encC pre ws) := (encB_isB h ws).app (leB_isB _ _)
theorem zeros_isB (n : Nat) : isB (List.replicate n 0) := fun x hx => by have := List.eq_of_mem_replicate hx; omega
theorem encZ_isB {pre : List Int} (h : isB pre) (ws : List Int) : isB (encZ pre ws) := (encC_isB h ws).app (zeros_isB _)
theorem encB_len (pre ws : List Int) : (encB pre ws).length = pre.length + 8 * ws.length := by simp [encB, words8_len]
theorem encC_len (pre ws : List Int) : (encC pre ws).length = pre.length + 8 * ws.length + 4 := by simp [encC, encB_len, leB_len]
theorem leW8 : leW 8 = 8 := by decide
theorem leW4 : leW 4 = 4 := by decide
theorem pad52 : padN 52 64 = 12 := by decide

def hR (d f : Int) : Bool := decide (1 ≤ d) && decide (d ≤ 256) && decide (1 ≤ f) && decide (f ≤ 256)
set_option maxHeartbeats 8000000 in
set_option maxRecDepth 100000 in
theorem head_Right_calls (id key data fields made : Int) (w : World) :
    Calls Try.prog 115 #[.agg #[.int .u64 id, .int .u64 key, .int .i64 data, .int .i64 fields, .int .u64 made]] w fun e w' => e = .returned (.bool (hR data fields)) ∧ Below w.heap.size w w' := by
  cases a : decide (1 ≤ data) <;> cases b : decide (data ≤ 256) <;> cases c : decide (1 ≤ fields) <;> cases d : decide (fields ≤ 256)
  all_goals
    go_enter Try.func115, Try.ntmps115
    go_wp2
    go_ret
    exact ⟨by simp only [hR, a, b, c, d]; rfl, below_alloc (Below.refl _ _) _⟩
set_option maxHeartbeats 8000000 in
set_option maxRecDepth 100000 in
theorem ref_hRight_calls (id key data fields made : Int) (w : World) :
    Calls Try.prog 112 #[.agg #[.int .u64 id, .int .u64 key, .int .i64 data, .int .i64 fields, .int .u64 made]] w fun e w' => e = .returned (.bool (hR data fields)) ∧ Below w.heap.size w w' := by
  cases a : decide (1 ≤ data) <;> cases b : decide (data ≤ 256) <;> cases c : decide (1 ≤ fields) <;> cases d : decide (fields ≤ 256)
  all_goals
    go_enter Try.func112, Try.ntmps112
    go_wp2
    go_ret
    exact ⟨by simp only [hR, a, b, c, d]; rfl, below_alloc (Below.refl _ _) _⟩

def sR (turn state tail : Int) : Bool := decide (0 < turn) && ((state == 1) || (state == 2)) && (tail % 8 == 0)
set_option maxHeartbeats 8000000 in
set_option maxRecDepth 100000 in
theorem slot_Right_calls (turn tail count first last state : Int) (w : World) (t0 : 0 ≤ turn) (l0 : 0 ≤ tail) :
    Calls Try.prog 92 #[.agg #[.int .u64 turn, .int .u64 tail, .int .u64 count, .int .u64 first, .int .u64 last, .int .u64 state]] w fun e w' => e = .returned (.bool (sR turn state tail)) ∧ Below w.heap.size w w' := by
  have hx : (turn != 0) = decide (0 < turn) := by rw [Bool.eq_iff_iff]; simp; omega
  cases a : decide (0 < turn) <;> cases b : (state == 1) <;> cases c : (state == 2) <;> cases d : (tail % 8 == 0)
  all_goals
    rw [a] at hx
    go_enter Try.func92, Try.ntmps92
    go_wp2
    go_ret
    exact ⟨by simp only [sR, a, b, c, d]; rfl, below_alloc (Below.refl _ _) _⟩
set_option maxHeartbeats 8000000 in
set_option maxRecDepth 100000 in
theorem ref_sRight_calls (turn tail count first last state : Int) (w : World) (t0 : 0 ≤ turn) (l0 : 0 ≤ tail) :
    Calls Try.prog 20 #[.agg #[.int .u64 turn, .int .u64 tail, .int .u64 count, .int .u64 first, .int .u64 last, .int .u64 state]] w fun e w' => e = .returned (.bool (sR turn state tail)) ∧ Below w.heap.size w w' := by
  have hx : (turn != 0) = decide (0 < turn) := by rw [Bool.eq_iff_iff]; simp; omega
  cases a : decide (0 < turn) <;> cases b : (state == 1) <;> cases c : (state == 2) <;> cases d : (tail % 8 == 0)
  all_goals
    rw [a] at hx
    go_enter Try.func20, Try.ntmps20
    go_wp2
    go_ret
    exact ⟨by simp only [sR, a, b, c, d]; rfl, below_alloc (Below.refl _ _) _⟩

set_option maxHeartbeats 8000000 in
set_option maxRecDepth 100000 in
theorem head_Encode_yes (id key data fields made : Int) (w : World) (T : Nat) (hT : CrcT w T) (hr : hR data fields = true) (id0 : 0 ≤ id) (id1 : id ≤ 18446744073709551615) (key0 : 0 ≤ key) (key1 : key ≤ 18446744073709551615) (data0 : 0 ≤ data) (data1 : data ≤ 256) (fields0 : 0 ≤ fields) (fields1 : fields ≤ 256) (made0 : 0 ≤ made) (made1 : made ≤ 18446744073709551615) :
    Calls Try.prog 119 #[.agg #[.int .u64 id, .int .u64 key, .int .i64 data, .int .i64 fields, .int .u64 made], .pointer (some ⟨T, 0, none⟩)] w fun e w' => ∃ v, e = .returned v ∧ Own (Value.int .u8) w' w.heap.size 5 v (encZ magicL [id, key, data, fields, made]) ∧ Below w.heap.size w w' := by
  have HT := Aside0.mk hT
  have HR := Aside0.mk hr
  have HBX := Aside0.mk (blk_new w (.cells #[.int .u64 id, .int .u64 key, .int .i64 data, .int .i64 fields, .int .u64 made] 59))
  have HW := Aside0.mk (show isW [id, key, data, fields, made] by intro x hx; simp only [List.mem_cons, List.not_mem_nil, or_false] at hx; rcases hx with rfl | rfl | rfl | rfl | rfl <;> omega)
  have hcb := crcN_lt (encB_isB (show isB magicL by exact magic_isB) [id, key, data, fields, made])
  obtain ⟨K, hK⟩ : ∃ K : Int, ((crcN (encB magicL [id, key, data, fields, made]) : Nat) : Int) = K := ⟨_, rfl⟩
  have hK0 : 0 ≤ K := by omega
  have hK1 : K ≤ 4294967295 := by omega
  have HKK := Aside0.mk hK
  clear hr hT hK hcb
  go_enter Try.func119, Try.ntmps119
  go_wp2_with fail
  refine (head_Right_calls id key data fields made _).mono ?_
  rintro e w1 ⟨rfl, hb⟩
  have HB1 := Aside0.mk (below_step (below_alloc (Below.refl _ _) (.cells #[.int .u64 id, .int .u64 key, .int .i64 data, .int .i64 fields, .int .u64 made] 59)) hb)
  have HX1 := Aside0.mk (blk_below HBX.out hb)
  clear hb
  rw [HR.out]
  have HV0 := Aside0.mk (show WrV ((w1.alloc (.cells #[.slice none 0 0] 159)).alloc (.cells #[.int .u8 76, .int .u8 79, .int .u8 71, .int .u8 66, .int .u8 79, .int .u8 79, .int .u8 75, .int .u8 49] 5 (8, 9))) w1.heap.size w.heap.size (.slice none 0 0) [] from ⟨blk_alloc (blk_new _ _) _, Own.nil _ _ _ _⟩)
  have HM0 := Aside0.mk (show Rd ((w1.alloc (.cells #[.slice none 0 0] 159)).alloc (.cells #[.int .u8 76, .int .u8 79, .int .u8 71, .int .u8 66, .int .u8 79, .int .u8 79, .int .u8 75, .int .u8 49] 5 (8, 9))) .u8 (.slice (some ⟨w1.heap.size + 1, 0, none⟩) 8 8) magicL by have := Rd.const (w1.alloc (.cells #[.slice none 0 0] 159)) .u8 5 (8, 9) magicL (by simp [magicL]); simpa [magicL, nums] using this)
  have HB0 := Aside0.mk (below_alloc (below_alloc HB1.out (.cells #[.slice none 0 0] 159)) (.cells #[.int .u8 76, .int .u8 79, .int .u8 71, .int .u8 66, .int .u8 79, .int .u8 79, .int .u8 75, .int .u8 49] 5 (8, 9)))
  have HX0 := Aside0.mk (blk_alloc (blk_alloc HX1.out (.cells #[.slice none 0 0] 159)) (.cells #[.int .u8 76, .int .u8 79, .int .u8 71, .int .u8 66, .int .u8 79, .int .u8 79, .int .u8 75, .int .u8 49] 5 (8, 9)))
  have hcv : (convert 22 22 (.slice (some ⟨w1.heap.size + 1, 0, none⟩) 8 8)).run Try.prog ((w1.alloc (.cells #[.slice none 0 0] 159)).alloc (.cells #[.int .u8 76, .int .u8 79, .int .u8 71, .int .u8 66, .int .u8 79, .int .u8 79, .int .u8 75, .int .u8 49] 5)) = .ok (.slice (some ⟨w1.heap.size + 1, 0, none⟩) 8 8) ((w1.alloc (.cells #[.slice none 0 0] 159)).alloc (.cells #[.int .u8 76, .int .u8 79, .int .u8 71, .int .u8 66, .int .u8 79, .int .u8 79, .int .u8 75, .int .u8 49] 5 (8, 9))) := Go.Joins.run_convert_bytes_const_at (w1.alloc (.cells #[.slice none 0 0] 159)) 22 5 #[.int .u8 76, .int .u8 79, .int .u8 71, .int .u8 66, .int .u8 79, .int .u8 79, .int .u8 75, .int .u8 49] 8 8 (w1.heap.size + 1) (by simp) Try.underlying22 Try.underlying5
  go_wp2_with fail
  refine (Writer_Raw_calls _ magicL _ w1.heap.size w.heap.size (.slice none 0 0) [] HV0.out HM0.out (by have := HB0.out.size; simpa using this) (by simp [magicL])).mono ?_
  rintro e w2 ⟨rfl, hs⟩
  obtain ⟨v2, hv2, hb2⟩ := WrS.next HV0.out HB0.out HB1.out.size hs
  have HX2 := Aside0.mk (hs.keep HV0.out HX0.out (by decide) (by have := blk_lt HX1.out; omega))
  rw [List.nil_append] at hv2
  clear hcv
  have HV2 := Aside0.mk hv2
  have HB2 := Aside0.mk hb2
  clear hs hv2 hb2
  have c0 := blk_cell HX2.out 0
  have c1 := blk_cell HX2.out 1
  have c2 := blk_cell HX2.out 2
  have c3 := blk_cell HX2.out 3
  have c4 := blk_cell HX2.out 4
  have HV3 := Aside0.mk (HV2.out.below (below_alloc (Below.refl _ _) (.cells #[.int .u64 id, .int .u64 key, .int .u64 data, .int .u64 fields, .int .u64 made] 32)))
  have HB3 := Aside0.mk (below_alloc HB2.out (.cells #[.int .u64 id, .int .u64 key, .int .u64 data, .int .u64 fields, .int .u64 made] 32))
  have HM3 := Aside0.mk (show Rd ((w2).alloc (.cells #[.int .u64 id, .int .u64 key, .int .u64 data, .int .u64 fields, .int .u64 made] 32)) .u64 (.slice (some ⟨w2.heap.size, 0, none⟩) 5 5) [id, key, data, fields, made] by have := Rd.lit (w2) .u64 32 [id, key, data, fields, made] (by simp); simpa [nums] using this)
  have HLT := Aside0.mk (fun k (hk : Value.ownBlock (v2) = some k) => HV2.out.2.lt hk)
  have HGL := Aside0.mk (show w1.heap.size < (w2).heap.size from blk_lt HV2.out.1)
  go_wp2_with fail
  refine (Writer_Words_calls (.slice (some ⟨w2.heap.size, 0, none⟩) 5 5) [id, key, data, fields, made] HW.out _ w1.heap.size w.heap.size (v2) magicL HV3.out HM3.out ?_ ?_ (by simp [magicL])).mono ?_
  · intro A' n' c' e1 _
    simp only [Value.slice.injEq, Option.some.injEq] at e1
    obtain ⟨rfl, _, _⟩ := e1
    refine ⟨?_, fun hh => ?_⟩
    · have := HGL.out
      (try simp at this ⊢) <;> omega
    · have := HLT.out _ hh
      (try simp at this) <;> omega
  · have := HB3.out.size; simpa using this
  rintro e w4 ⟨rfl, hs⟩
  obtain ⟨v4, hv4, hb4⟩ := WrS.next HV3.out HB3.out HB1.out.size hs
  have HV4 := Aside0.mk (show WrV w4 w1.heap.size w.heap.size v4 (encB magicL [id, key, data, fields, made]) from hv4)
  have HB4 := Aside0.mk hb4
  clear hs hv4 hb4 c0 c1 c2 c3 c4
  have HL := Aside0.mk (show (encB magicL [id, key, data, fields, made]).length = 48 by simp [encB_len, magicL])
  go_wp2_with fail
  refine (Writer_Done_calls _ w1.heap.size w.heap.size v4 (encB magicL [id, key, data, fields, made]) HV4.out (by rw [HL.out]; omega)).mono ?_
  rintro e w5 ⟨v5, rfl, ho, hb⟩
  have HO5 := Aside0.mk (Own.rd ho)
  have HV5 := Aside0.mk (HV4.out.below hb)
  have HB5 := Aside0.mk (below_step HB4.out hb)
  clear ho hb
  go_wp2_with fail
  refine (crc_Sum_calls v5 (encB magicL [id, key, data, fields, made]) _ T (HT.out.below HB5.out) HO5.out (encB_isB (show isB magicL by exact magic_isB) _)).mono ?_
  rintro e w6 ⟨rfl, hb⟩
  have HV6 := Aside0.mk (HV5.out.below hb)
  have HB6 := Aside0.mk (below_step HB5.out hb)
  clear hb
  rw [HKK.out]
  go_wp2_with fail
  refine (Writer_Num_calls K 4 _ w1.heap.size w.heap.size v4 (encB magicL [id, key, data, fields, made]) HV6.out HB6.out.size (by rw [HL.out]; omega) hK0 (by omega)).mono ?_
  rintro e w7 ⟨rfl, hs⟩
  obtain ⟨v7, hv7, hb7⟩ := WrS.next HV6.out HB6.out HB1.out.size hs
  have HC := Aside0.mk (show (encB magicL [id, key, data, fields, made]) ++ leB K (leW 4) = encC magicL [id, key, data, fields, made] by rw [encC, ← HKK.out, leW4])
  have HLC := Aside0.mk (show (encC magicL [id, key, data, fields, made]).length = 52 by simp [encC_len, magicL])
  rw [HC.out] at hv7
  have HV7 := Aside0.mk hv7
  have HB7 := Aside0.mk hb7
  clear hs hv7 hb7
  go_wp2_with fail
  refine (Writer_Pad_calls 64 _ w1.heap.size w.heap.size v7 _ HV7.out HB7.out.size (by rw [HLC.out]; decide)).mono ?_
  rintro e w8 ⟨rfl, hs⟩
  obtain ⟨v8, hv8, hb8⟩ := WrS.next HV7.out HB7.out HB1.out.size hs
  rw [HLC.out, show padN ((52 : Nat) : Int) 64 = 12 from pad52] at hv8
  have HV8 := Aside0.mk (show WrV w8 w1.heap.size w.heap.size v8 (encZ magicL [id, key, data, fields, made]) from hv8)
  have HB8 := Aside0.mk hb8
  clear hs hv8 hb8
  go_wp2_with fail
  refine (Writer_Done_calls _ w1.heap.size w.heap.size v8 _ HV8.out (by simp [encZ, HLC.out])).mono ?_
  rintro e w9 ⟨v9, rfl, ho, hb⟩
  have HO9 := Aside0.mk (ho.weaken HB8.out.size)
  have HB9 := Aside0.mk (below_step HB8.out hb)
  clear ho hb
  go_wp2_with fail
  go_ret
  exact ⟨_, rfl, HO9.out, HB9.out⟩
set_option maxHeartbeats 8000000 in
set_option maxRecDepth 100000 in
theorem head_Encode_no (id key data fields made : Int) (w : World) (p : Value) (hr : hR data fields = false) :
    Calls Try.prog 119 #[.agg #[.int .u64 id, .int .u64 key, .int .i64 data, .int .i64 fields, .int .u64 made], p] w fun e w' => e = .returned (.slice none 0 0) ∧ Below w.heap.size w w' := by
  have HR := Aside0.mk hr
  clear hr
  go_enter Try.func119, Try.ntmps119
  go_wp2_with fail
  refine (head_Right_calls id key data fields made _).mono ?_
  rintro e w1 ⟨rfl, hb⟩
  have HB1 := Aside0.mk (below_step (below_alloc (Below.refl _ _) (.cells #[.int .u64 id, .int .u64 key, .int .i64 data, .int .i64 fields, .int .u64 made] 59)) hb)
  clear hb
  rw [HR.out]
  go_wp2_with fail
  go_ret
  exact ⟨rfl, HB1.out⟩

set_option maxHeartbeats 8000000 in
set_option maxRecDepth 100000 in
theorem slot_Encode_yes (turn tail count first last state : Int) (w : World) (T : Nat) (hT : CrcT w T) (hr : sR turn state tail = true) (turn0 : 0 ≤ turn) (turn1 : turn ≤ 18446744073709551615) (tail0 : 0 ≤ tail) (tail1 : tail ≤ 18446744073709551615) (count0 : 0 ≤ count) (count1 : count ≤ 18446744073709551615) (first0 : 0 ≤ first) (first1 : first ≤ 18446744073709551615) (last0 : 0 ≤ last) (last1 : last ≤ 18446744073709551615) (state0 : 0 ≤ state) (state1 : state ≤ 18446744073709551615) :
    Calls Try.prog 25 #[.agg #[.int .u64 turn, .int .u64 tail, .int .u64 count, .int .u64 first, .int .u64 last, .int .u64 state], .pointer (some ⟨T, 0, none⟩)] w fun e w' => ∃ v, e = .returned v ∧ Own (Value.int .u8) w' w.heap.size 5 v (encZ [] [turn, tail, count, first, last, state]) ∧ Below w.heap.size w w' := by
  have HT := Aside0.mk hT
  have HR := Aside0.mk hr
  have HBX := Aside0.mk (blk_new w (.cells #[.int .u64 turn, .int .u64 tail, .int .u64 count, .int .u64 first, .int .u64 last, .int .u64 state] 38))
  have HW := Aside0.mk (show isW [turn, tail, count, first, last, state] by intro x hx; simp only [List.mem_cons, List.not_mem_nil, or_false] at hx; rcases hx with rfl | rfl | rfl | rfl | rfl | rfl <;> omega)
  have hcb := crcN_lt (encB_isB (show isB [] by exact isB_nil) [turn, tail, count, first, last, state])
  obtain ⟨K, hK⟩ : ∃ K : Int, ((crcN (encB [] [turn, tail, count, first, last, state]) : Nat) : Int) = K := ⟨_, rfl⟩
  have hK0 : 0 ≤ K := by omega
  have hK1 : K ≤ 4294967295 := by omega
  have HKK := Aside0.mk hK
  clear hr hT hK hcb
  go_enter Try.func25, Try.ntmps25
  go_wp2_with fail
  refine (slot_Right_calls turn tail count first last state _ turn0 tail0).mono ?_
  rintro e w1 ⟨rfl, hb⟩
  have HB1 := Aside0.mk (below_step (below_alloc (Below.refl _ _) (.cells #[.int .u64 turn, .int .u64 tail, .int .u64 count, .int .u64 first, .int .u64 last, .int .u64 state] 38)) hb)
  have HX1 := Aside0.mk (blk_below HBX.out hb)
  clear hb
  rw [HR.out]
  have HV2 := Aside0.mk (show WrV (w1.alloc (.cells #[.slice none 0 0] 159)) w1.heap.size w.heap.size (.slice none 0 0) [] from ⟨blk_new _ _, Own.nil _ _ _ _⟩)
  have HB2 := Aside0.mk (below_alloc HB1.out (.cells #[.slice none 0 0] 159))
  have HX2 := Aside0.mk (blk_alloc HX1.out (.cells #[.slice none 0 0] 159))
  have c0 := blk_cell HX2.out 0
  have c1 := blk_cell HX2.out 1
  have c2 := blk_cell HX2.out 2
  have c3 := blk_cell HX2.out 3
  have c4 := blk_cell HX2.out 4
  have c5 := blk_cell HX2.out 5
  have HV3 := Aside0.mk (HV2.out.below (below_alloc (Below.refl _ _) (.cells #[.int .u64 turn, .int .u64 tail, .int .u64 count, .int .u64 first, .int .u64 last, .int .u64 state] 32)))
  have HB3 := Aside0.mk (below_alloc HB2.out (.cells #[.int .u64 turn, .int .u64 tail, .int .u64 count, .int .u64 first, .int .u64 last, .int .u64 state] 32))
  have HM3 := Aside0.mk (show Rd ((w1.alloc (.cells #[.slice none 0 0] 159)).alloc (.cells #[.int .u64 turn, .int .u64 tail, .int .u64 count, .int .u64 first, .int .u64 last, .int .u64 state] 32)) .u64 (.slice (some ⟨w1.heap.size + 1, 0, none⟩) 6 6) [turn, tail, count, first, last, state] by have := Rd.lit (w1.alloc (.cells #[.slice none 0 0] 159)) .u64 32 [turn, tail, count, first, last, state] (by simp); simpa [nums] using this)
  have HLT := Aside0.mk (fun k (hk : Value.ownBlock (.slice none 0 0) = some k) => HV2.out.2.lt hk)
  have HGL := Aside0.mk (show w1.heap.size < (w1.alloc (.cells #[.slice none 0 0] 159)).heap.size from blk_lt HV2.out.1)
  go_wp2_with fail
  refine (Writer_Words_calls (.slice (some ⟨w1.heap.size + 1, 0, none⟩) 6 6) [turn, tail, count, first, last, state] HW.out _ w1.heap.size w.heap.size (.slice none 0 0) [] HV3.out HM3.out ?_ ?_ (by simp [magicL])).mono ?_
  · intro A' n' c' e1 _
    simp only [Value.slice.injEq, Option.some.injEq] at e1
    obtain ⟨rfl, _, _⟩ := e1
    refine ⟨?_, fun hh => ?_⟩
    · have := HGL.out
      (try simp at this ⊢) <;> omega
    · have := HLT.out _ hh
      (try simp at this) <;> omega
  · have := HB3.out.size; simpa using this
  rintro e w4 ⟨rfl, hs⟩
  obtain ⟨v4, hv4, hb4⟩ := WrS.next HV3.out HB3.out HB1.out.size hs
  have HV4 := Aside0.mk (show WrV w4 w1.heap.size w.heap.size v4 (encB [] [turn, tail, count, first, last, state]) from by simpa [encB] using hv4)
  have HB4 := Aside0.mk hb4
  clear hs hv4 hb4 c0 c1 c2 c3 c4 c5
  have HL := Aside0.mk (show (encB [] [turn, tail, count, first, last, state]).length = 48 by simp [encB_len, magicL])
  go_wp2_with fail
  refine (Writer_Done_calls _ w1.heap.size w.heap.size v4 (encB [] [turn, tail, count, first, last, state]) HV4.out (by rw [HL.out]; omega)).mono ?_
  rintro e w5 ⟨v5, rfl, ho, hb⟩
  have HO5 := Aside0.mk (Own.rd ho)
  have HV5 := Aside0.mk (HV4.out.below hb)
  have HB5 := Aside0.mk (below_step HB4.out hb)
  clear ho hb
  go_wp2_with fail
  refine (crc_Sum_calls v5 (encB [] [turn, tail, count, first, last, state]) _ T (HT.out.below HB5.out) HO5.out (encB_isB (show isB [] by exact isB_nil) _)).mono ?_
  rintro e w6 ⟨rfl, hb⟩
  have HV6 := Aside0.mk (HV5.out.below hb)
  have HB6 := Aside0.mk (below_step HB5.out hb)
  clear hb
  rw [HKK.out]
  go_wp2_with fail
  refine (Writer_Num_calls K 4 _ w1.heap.size w.heap.size v4 (encB [] [turn, tail, count, first, last, state]) HV6.out HB6.out.size (by rw [HL.out]; omega) hK0 (by omega)).mono ?_
  rintro e w7 ⟨rfl, hs⟩
  obtain ⟨v7, hv7, hb7⟩ := WrS.next HV6.out HB6.out HB1.out.size hs
  have HC := Aside0.mk (show (encB [] [turn, tail, count, first, last, state]) ++ leB K (leW 4) = encC [] [turn, tail, count, first, last, state] by rw [encC, ← HKK.out, leW4])
  have HLC := Aside0.mk (show (encC [] [turn, tail, count, first, last, state]).length = 52 by simp [encC_len, magicL])
  rw [HC.out] at hv7
  have HV7 := Aside0.mk hv7
  have HB7 := Aside0.mk hb7
  clear hs hv7 hb7
  go_wp2_with fail
  refine (Writer_Pad_calls 64 _ w1.heap.size w.heap.size v7 _ HV7.out HB7.out.size (by rw [HLC.out]; decide)).mono ?_
  rintro e w8 ⟨rfl, hs⟩
  obtain ⟨v8, hv8, hb8⟩ := WrS.next HV7.out HB7.out HB1.out.size hs
  rw [HLC.out, show padN ((52 : Nat) : Int) 64 = 12 from pad52] at hv8
  have HV8 := Aside0.mk (show WrV w8 w1.heap.size w.heap.size v8 (encZ [] [turn, tail, count, first, last, state]) from hv8)
  have HB8 := Aside0.mk hb8
  clear hs hv8 hb8
  go_wp2_with fail
  refine (Writer_Done_calls _ w1.heap.size w.heap.size v8 _ HV8.out (by simp [encZ, HLC.out])).mono ?_
  rintro e w9 ⟨v9, rfl, ho, hb⟩
  have HO9 := Aside0.mk (ho.weaken HB8.out.size)
  have HB9 := Aside0.mk (below_step HB8.out hb)
  clear ho hb
  go_wp2_with fail
  go_ret
  exact ⟨_, rfl, HO9.out, HB9.out⟩
set_option maxHeartbeats 8000000 in
set_option maxRecDepth 100000 in
theorem slot_Encode_no (turn tail count first last state : Int) (w : World) (p : Value) (hr : sR turn state tail = false) (turn0 : 0 ≤ turn) (tail0 : 0 ≤ tail) :
    Calls Try.prog 25 #[.agg #[.int .u64 turn, .int .u64 tail, .int .u64 count, .int .u64 first, .int .u64 last, .int .u64 state], p] w fun e w' => e = .returned (.slice none 0 0) ∧ Below w.heap.size w w' := by
  have HR := Aside0.mk hr
  clear hr
  go_enter Try.func25, Try.ntmps25
  go_wp2_with fail
  refine (slot_Right_calls turn tail count first last state _ turn0 tail0).mono ?_
  rintro e w1 ⟨rfl, hb⟩
  have HB1 := Aside0.mk (below_step (below_alloc (Below.refl _ _) (.cells #[.int .u64 turn, .int .u64 tail, .int .u64 count, .int .u64 first, .int .u64 last, .int .u64 state] 38)) hb)
  clear hb
  rw [HR.out]
  go_wp2_with fail
  go_ret
  exact ⟨rfl, HB1.out⟩

end Go.Proofs.Ytigdchfjcfljjaa
