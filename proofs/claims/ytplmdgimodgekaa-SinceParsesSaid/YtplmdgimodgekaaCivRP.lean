/- Times read: the reference's Parse. -/
import Derived.Test.YtplmdgimodgekaaCivP
import Derived.Test.YtplmdgimodgekaaCivR
namespace Go.Proofs.Ytplmdgimodgekaa
open Go.RowKit Go.Proofs.YtplmdgimodgekaaW.PrintWords Go.Proofs.YtplmdgimodgekaaW.PrintLast Go.Proofs.YtplmdgimodgekaaW.PrintMore
attribute [local go_sem] max2_int min2_int max_two min_two max_three min_three max_four min_four   -- for this text's walks alone
set_option linter.unusedVariables false
set_option linter.unusedSimpArgs false

def offN (i : Nat) : Nat := [0, 5, 8, 11, 14, 17, 20, 27].getD i 0
def wdN (i : Nat) : Nat := [4, 2, 2, 2, 2, 2, 6].getD i 0
theorem off_facts : ∀ i, i < 7 → offN i + wdN i ≤ 26 ∧ wdN i ≤ 6 ∧ offN (i + 1) = offN i + wdN i + 1 ∧ ∀ k, k < wdN i → formL.getD (offN i + k) 0 = 48 := by decide
def fldj (P : List Int) (j : Nat) : Int := numD ((P.drop (offN j)).take (wdN j))
def gF (P : List Int) (i k j : Nat) : Int := if j < i then fldj P j else if j = i then numD ((P.drop (offN i)).take k) else 0
def arrV (g : Nat → Int) : Array Value := #[.int .i64 (g 0), .int .i64 (g 1), .int .i64 (g 2), .int .i64 (g 3), .int .i64 (g 4), .int .i64 (g 5), .int .i64 (g 6)]
theorem arrV_get (g : Nat → Int) (i : Nat) (h : i < 7) : (arrV g)[i]? = some (.int .i64 (g i)) := by
  match i, h with
  | 0, _ => rfl
  | 1, _ => rfl
  | 2, _ => rfl
  | 3, _ => rfl
  | 4, _ => rfl
  | 5, _ => rfl
  | 6, _ => rfl
theorem arrV_set (g h : Nat → Int) (i : Nat) (hi : i < 7) (x : Int) (hx : h i = x) (ho : ∀ j, j ≠ i → h j = g j) : (arrV g).setIfInBounds i (.int .i64 x) = arrV h := by
  match i, hi with
  | 0, _ => simp [arrV, ← hx, ← ho 1 (by omega), ← ho 2 (by omega), ← ho 3 (by omega), ← ho 4 (by omega), ← ho 5 (by omega), ← ho 6 (by omega)]
  | 1, _ => simp [arrV, ← hx, ← ho 0 (by omega), ← ho 2 (by omega), ← ho 3 (by omega), ← ho 4 (by omega), ← ho 5 (by omega), ← ho 6 (by omega)]
  | 2, _ => simp [arrV, ← hx, ← ho 0 (by omega), ← ho 1 (by omega), ← ho 3 (by omega), ← ho 4 (by omega), ← ho 5 (by omega), ← ho 6 (by omega)]
  | 3, _ => simp [arrV, ← hx, ← ho 0 (by omega), ← ho 1 (by omega), ← ho 2 (by omega), ← ho 4 (by omega), ← ho 5 (by omega), ← ho 6 (by omega)]
  | 4, _ => simp [arrV, ← hx, ← ho 0 (by omega), ← ho 1 (by omega), ← ho 2 (by omega), ← ho 3 (by omega), ← ho 5 (by omega), ← ho 6 (by omega)]
  | 5, _ => simp [arrV, ← hx, ← ho 0 (by omega), ← ho 1 (by omega), ← ho 2 (by omega), ← ho 3 (by omega), ← ho 4 (by omega), ← ho 6 (by omega)]
  | 6, _ => simp [arrV, ← hx, ← ho 0 (by omega), ← ho 1 (by omega), ← ho 2 (by omega), ← ho 3 (by omega), ← ho 4 (by omega), ← ho 5 (by omega)]

theorem wd_get (i : Nat) (h : i < 7) : (#[.int .i64 4, .int .i64 2, .int .i64 2, .int .i64 2, .int .i64 2, .int .i64 2, .int .i64 6] : Array Value)[i]? = some (.int .i64 ((wdN i : Nat) : Int)) := by
  match i, h with
  | 0, _ => rfl
  | 1, _ => rfl
  | 2, _ => rfl
  | 3, _ => rfl
  | 4, _ => rfl
  | 5, _ => rfl
  | 6, _ => rfl
theorem gF_next (P : List Int) (i : Nat) : gF P i (wdN i) = gF P (i + 1) 0 := by
  funext j
  unfold gF
  by_cases c : j < i
  · rw [if_pos c, if_pos (by omega)]
  · by_cases e : j = i
    · rw [if_neg c, if_pos e, if_pos (by omega), fldj, e]
    · rw [if_neg c, if_neg e, if_neg (by omega)]
      split
      · simp [numD]
      · rfl
/-- The places of digits of the first fields are digits. -/
def digK (P : List Int) (i k : Nat) : Prop := (∀ j, j < i → ∀ x, x < wdN j → dgB (P.getD (offN j + x) 0) = true) ∧ ∀ x, x < k → dgB (P.getD (offN i + x) 0) = true
theorem digK_more {P : List Int} {i k : Nat} (h : digK P i k) (hd : dgB (P.getD (offN i + k) 0) = true) : digK P i (k + 1) :=
  ⟨h.1, fun x hx => by
    by_cases e : x = k
    · rw [e]; exact hd
    · exact h.2 x (by omega)⟩
theorem digK_next {P : List Int} {i : Nat} (h : digK P i (wdN i)) : digK P (i + 1) 0 :=
  ⟨fun j hj x hx => by
    by_cases e : j = i
    · subst e; exact h.2 x hx
    · exact h.1 j (by omega) x hx, fun x hx => by omega⟩
theorem mem_part {P : List Int} {a b : Nat} {c : Int} (hb : b ≤ P.length) (h : c ∈ (P.take b).drop a) : ∃ i, a ≤ i ∧ i < b ∧ P.getD i 0 = c := by
  obtain ⟨i, hi, e⟩ := List.getElem_of_mem h
  have hl : i < b - a := by rw [List.length_drop, List.length_take] at hi; omega
  refine ⟨a + i, by omega, by omega, ?_⟩
  rw [List.getElem_drop, List.getElem_take] at e
  rw [List.getD_eq_getElem?_getD, List.getElem?_eq_getElem (by omega), ← e]; rfl
theorem digK_all {P : List Int} (hP : P.length = 26) (h : digK P 7 0) : digOk P := by
  have key : ∀ j, j < 7 → ∀ c ∈ (P.take (offN j + wdN j)).drop (offN j), dgB c = true := fun j hj c hc => by
    obtain ⟨i, h1, h2, rfl⟩ := mem_part (by have := (off_facts j hj).1; omega) hc
    have := h.1 j hj (i - offN j) (by omega)
    rwa [show offN j + (i - offN j) = i by omega] at this
  exact ⟨key 0 (by omega), key 1 (by omega), key 2 (by omega), key 3 (by omega), key 4 (by omega), key 5 (by omega), key 6 (by omega)⟩
theorem fldj_fld (P : List Int) : fldj P 0 = fld P 0 4 ∧ fldj P 1 = fld P 5 7 ∧ fldj P 2 = fld P 8 10 ∧ fldj P 3 = fld P 11 13 ∧ fldj P 4 = fld P 14 16 ∧ fldj P 5 = fld P 17 19 ∧ fldj P 6 = fld P 20 26 := by
  have : ∀ j, fldj P j = fld P (offN j) (offN j + wdN j) := fun j => by rw [fldj, fld, List.drop_take, Nat.add_sub_cancel_left]
  exact ⟨this 0, this 1, this 2, this 3, this 4, this 5, this 6⟩
theorem like_bad {P : List Int} (hP : P.length = 26) {i k : Nat} (hi : i < 7) (hk : k < wdN i) (hd : dgB (P.getD (offN i + k) 0) = false) : likeB P formL = false := by
  obtain ⟨h1, h2, h3, h4⟩ := off_facts i hi
  exact likeB_no (i := offN i + k) (by omega) (by rw [likeC, if_pos (h4 k hk)]; exact hd)
theorem digK_bound {P : List Int} (hP : P.length = 26) {i k : Nat} (h : digK P i k) (hk : offN i + k ≤ 26) : 0 ≤ numD ((P.drop (offN i)).take k) ∧ numD ((P.drop (offN i)).take k) < 10 ^ k := by
  refine numD_bound k _ (by rw [List.length_take, List.length_drop]; omega) (fun c hc => ?_)
  rw [List.take_drop] at hc
  obtain ⟨j, h1, h2, rfl⟩ := mem_part (by omega) hc
  have := h.2 (j - offN i) (by omega)
  rwa [show offN i + (j - offN i) = j by omega] at this
theorem gF_step {P : List Int} (hP : P.length = 26) {i k : Nat} (hk : offN i + k < 26) : gF P i (k + 1) i = gF P i k i * 10 + (P.getD (offN i + k) 0 - 48) := by
  unfold gF
  rw [if_neg (by omega), if_pos rfl, if_neg (by omega), if_pos rfl, numD_step (by rw [List.length_drop]; omega), getD_drop']
theorem gF_other (P : List Int) {i k j : Nat} (h : j ≠ i) : gF P i (k + 1) j = gF P i k j := by
  unfold gF
  split
  · rfl
  · simp [h]
theorem gF_at (P : List Int) (i k : Nat) : gF P i k i = numD ((P.drop (offN i)).take k) := by
  unfold gF; rw [if_neg (by omega), if_pos rfl]
theorem gF_start (P : List Int) : arrV (gF P 0 0) = #[.int .i64 0, .int .i64 0, .int .i64 0, .int .i64 0, .int .i64 0, .int .i64 0, .int .i64 0] := by
  simp [arrV, gF, numD]
theorem gF_end (P : List Int) (j : Nat) (h : j < 7) : gF P 7 0 j = fldj P j := by unfold gF; rw [if_pos h]
theorem pow6 : ∀ k : Nat, k ≤ 6 → (10 : Int) ^ k ≤ 1000000 := by decide
theorem bytes_inj' {s t : ByteArray} (h : bytesOf s = bytesOf t) : s = t := by
  rw [← strOf_bytesOf s, ← strOf_bytesOf t, h]

set_option maxHeartbeats 8000000 in
set_option maxRecDepth 100000 in
theorem ref_Parse_far (s : ByteArray) (w : World) (hs : s.size ≤ 1000) (hn : lenOk s.size = false) :
    Calls Try.prog 78 #[.string s] w fun e w' => e = .returned (parV (bytesOf s)) ∧ Below w.heap.size w w' := by
  have HE := Aside0.mk (parV_no (l := bytesOf s) (by rw [goodP, bytesOf_length, hn]; rfl))
  have h := of_decide_eq_false hn
  have t1 : ((s.size : Int) != 10) = true := by rw [bne_iff_ne]; omega
  have t2 : ((s.size : Int) != 16) = true := by rw [bne_iff_ne]; omega
  have t3 : ((s.size : Int) != 19) = true := by rw [bne_iff_ne]; omega
  have t4 : ((s.size : Int) != 26) = true := by rw [bne_iff_ne]; omega
  have HB := Aside0.mk (below_alloc (Below.refl w.heap.size w) (.cells #[.int .i64 0, .int .i64 0, .int .i64 0, .int .i64 0, .int .i64 0, .int .i64 0, .int .i64 0] 138))
  clear hn h
  go_enter Try.func78, Try.ntmps78
  go_upto_if 25 with (fail)
  have H0 := blk_new w (.cells #[.int .i64 0, .int .i64 0, .int .i64 0, .int .i64 0, .int .i64 0, .int .i64 0, .int .i64 0] 138)
  have hB := HB.out
  obtain ⟨wx, hwx⟩ : ∃ wx, w.alloc (.cells #[.int .i64 0, .int .i64 0, .int .i64 0, .int .i64 0, .int .i64 0, .int .i64 0, .int .i64 0] 138) = wx := ⟨_, rfl⟩
  rw [hwx] at H0 hB ⊢
  have HB2 := Aside0.mk hB
  clear hwx HB hB
  have r0 := blk_cell H0 0
  have r1 := blk_cell H0 1
  have r2 := blk_cell H0 2
  have r3 := blk_cell H0 3
  have r4 := blk_cell H0 4
  have r5 := blk_cell H0 5
  have r6 := blk_cell H0 6
  have f0 := blk_frozen H0 0
  have f1 := blk_frozen H0 1
  have f2 := blk_frozen H0 2
  have f3 := blk_frozen H0 3
  have f4 := blk_frozen H0 4
  have f5 := blk_frozen H0 5
  have f6 := blk_frozen H0 6

  clear H0
  go_wp2_with fail
  refine bodyPost_ret (v := .tuple #[.agg #[.int .i64 0, .int .i64 0, .int .i64 0, .int .i64 0, .int .i64 0, .int .i64 0, .int .i64 0], .bool false]) (by simp [results, Try.results78, go_sem, r0, r1, r2, r3, r4, r5, r6]) rfl ⟨by rw [HE.out], below_set7 HB2.out (Nat.le_refl _) _ _ _ _ _ _ _⟩
theorem textL_isB {y m d h i s u : Int} (hr : rightB y m d h i s u = true) : isB (textL y m d h i s u) := by
  have k : ∀ c : Int, 0 ≤ c → c ≤ 255 → isB [c] := fun c h0 h1 x hx => by simp at hx; omega
  have D := dI_isB
  unfold textL
  exact ((((((((((((D 4 y).app (k 45 (by omega) (by omega))).app (D 2 m)).app (k 45 (by omega) (by omega))).app (D 2 d)).app (k 32 (by omega) (by omega))).app (D 2 h)).app (k 58 (by omega) (by omega))).app (D 2 i)).app (k 58 (by omega) (by omega))).app (D 2 s)).app (k 46 (by omega) (by omega))).app (D 6 u)

set_option maxHeartbeats 8000000 in
set_option maxRecDepth 100000 in
theorem ref_Parse_10 (s : ByteArray) (w : World) (hN : s.size = 10) :
    Calls Try.prog 78 #[.string s] w fun e w' => e = .returned (parV (bytesOf s)) ∧ Below w.heap.size w w' := by
  have hn26 : s.size ≤ 26 := by omega
  have hpad := pad_str hn26
  have hPL := padP_len (l := bytesOf s) (by rw [bytesOf_length]; exact hn26)
  have HGO := Aside0.mk (show goodP (bytesOf s) = (likeB (padP (bytesOf s)) formL && timB (padP (bytesOf s))) by rw [goodP, bytesOf_length, hN]; rfl)
  obtain ⟨L, hL⟩ : ∃ l, bytesOf s = l := ⟨_, rfl⟩
  rw [hL] at hpad hPL HGO ⊢
  obtain ⟨P, hP⟩ : ∃ P, padP L = P := ⟨_, rfl⟩
  have HP := Aside0.mk hP
  rw [hP] at hpad hPL HGO
  have HPL := Aside0.mk hPL
  obtain ⟨q, hq⟩ : ∃ q, s ++ (⟨#[48, 48, 48, 48, 45, 48, 48, 45, 48, 48, 32, 48, 48, 58, 48, 48, 58, 48, 48, 46, 48, 48, 48, 48, 48, 48]⟩ : ByteArray).extract s.size 26 = q := ⟨_, rfl⟩
  have hqb : bytesOf q = P := by rw [← hq]; exact hpad
  have hqs : q.size = 26 := by rw [← bytesOf_length, hqb, hPL]
  have HQB := Aside0.mk hqb
  have HBT := Aside0.mk (show ∀ k, ∀ h : k < q.size, ((q[k]'h).toNat : Int) = P.getD k 0 from fun k => by rw [← hqb]; exact bt_k q k)
  have HIB := Aside0.mk (show isB P by rw [← hqb]; exact bytesOf_isB q)
  rw [hN] at hq
  have HQ := Aside0.mk hq
  have hz26 : (⟨#[48, 48, 48, 48, 45, 48, 48, 45, 48, 48, 32, 48, 48, 58, 48, 48, 58, 48, 48, 46, 48, 48, 48, 48, 48, 48]⟩ : ByteArray).size = 26 := rfl
  have HNO := Aside0.mk (show likeB P formL = false → parV L = .tuple #[.agg #[.int .i64 0, .int .i64 0, .int .i64 0, .int .i64 0, .int .i64 0, .int .i64 0, .int .i64 0], .bool false] from fun h => parV_no (by rw [HGO.out, h]; rfl))
  have HS1 := Aside0.mk (blk_alloc (blk_alloc (blk_new w (.cells #[.int .i64 0, .int .i64 0, .int .i64 0, .int .i64 0, .int .i64 0, .int .i64 0, .int .i64 0] 138)) (.cells #[.int .i64 0, .int .i64 0, .int .i64 0, .int .i64 0, .int .i64 0, .int .i64 0, .int .i64 0] 138)) (.cells #[.int .i64 4, .int .i64 2, .int .i64 2, .int .i64 2, .int .i64 2, .int .i64 2, .int .i64 6] 3))
  have HT1 := Aside0.mk (blk_alloc (blk_new (w.alloc (.cells #[.int .i64 0, .int .i64 0, .int .i64 0, .int .i64 0, .int .i64 0, .int .i64 0, .int .i64 0] 138)) (.cells #[.int .i64 0, .int .i64 0, .int .i64 0, .int .i64 0, .int .i64 0, .int .i64 0, .int .i64 0] 138)) (.cells #[.int .i64 4, .int .i64 2, .int .i64 2, .int .i64 2, .int .i64 2, .int .i64 2, .int .i64 6] 3))
  have HW1 := Aside0.mk (blk_new ((w.alloc (.cells #[.int .i64 0, .int .i64 0, .int .i64 0, .int .i64 0, .int .i64 0, .int .i64 0, .int .i64 0] 138)).alloc (.cells #[.int .i64 0, .int .i64 0, .int .i64 0, .int .i64 0, .int .i64 0, .int .i64 0, .int .i64 0] 138)) (.cells #[.int .i64 4, .int .i64 2, .int .i64 2, .int .i64 2, .int .i64 2, .int .i64 2, .int .i64 6] 3))
  rw [show (w.alloc (.cells #[.int .i64 0, .int .i64 0, .int .i64 0, .int .i64 0, .int .i64 0, .int .i64 0, .int .i64 0] 138)).heap.size = w.heap.size + 1 from Array.size_push _] at HT1
  rw [show ((w.alloc (.cells #[.int .i64 0, .int .i64 0, .int .i64 0, .int .i64 0, .int .i64 0, .int .i64 0, .int .i64 0] 138)).alloc (.cells #[.int .i64 0, .int .i64 0, .int .i64 0, .int .i64 0, .int .i64 0, .int .i64 0, .int .i64 0] 138)).heap.size = w.heap.size + 1 + 1 by rw [show ((w.alloc (.cells #[.int .i64 0, .int .i64 0, .int .i64 0, .int .i64 0, .int .i64 0, .int .i64 0, .int .i64 0] 138)).alloc (.cells #[.int .i64 0, .int .i64 0, .int .i64 0, .int .i64 0, .int .i64 0, .int .i64 0, .int .i64 0] 138)).heap.size = (w.alloc (.cells #[.int .i64 0, .int .i64 0, .int .i64 0, .int .i64 0, .int .i64 0, .int .i64 0, .int .i64 0] 138)).heap.size + 1 from Array.size_push _, show (w.alloc (.cells #[.int .i64 0, .int .i64 0, .int .i64 0, .int .i64 0, .int .i64 0, .int .i64 0, .int .i64 0] 138)).heap.size = w.heap.size + 1 from Array.size_push _]] at HW1
  have HB1 := Aside0.mk (below_alloc (below_alloc (below_alloc (Below.refl w.heap.size w) (.cells #[.int .i64 0, .int .i64 0, .int .i64 0, .int .i64 0, .int .i64 0, .int .i64 0, .int .i64 0] 138)) (.cells #[.int .i64 0, .int .i64 0, .int .i64 0, .int .i64 0, .int .i64 0, .int .i64 0, .int .i64 0] 138)) (.cells #[.int .i64 4, .int .i64 2, .int .i64 2, .int .i64 2, .int .i64 2, .int .i64 2, .int .i64 6] 3))
  clear hpad hPL hP hq hqb hL hn26
  go_enter Try.func78, Try.ntmps78
  go_upto_region 8 with (fail)
  rw [HQ.out]
  go_wp2_with fail
  go_loopw [6, 8, 9] (fun v6 v8 v9 w' => ∃ (i a : Nat), i ≤ 7 ∧ a ≤ 27 ∧ v8 = .int .i64 i ∧ v6 = .int .i64 (a : Int) ∧ Aside0 (a = offN i) ∧ Aside0 (w'.heap[w.heap.size]? = some (.cells #[.int .i64 0, .int .i64 0, .int .i64 0, .int .i64 0, .int .i64 0, .int .i64 0, .int .i64 0] 138 (0, 0))) ∧ Aside0 (w'.heap[w.heap.size + 1]? = some (.cells (arrV (gF P i 0)) 138 (0, 0))) ∧ Aside0 (w'.heap[w.heap.size + 1 + 1]? = some (.cells #[.int .i64 4, .int .i64 2, .int .i64 2, .int .i64 2, .int .i64 2, .int .i64 2, .int .i64 6] 3 (0, 0))) ∧ Aside0 (Below w.heap.size w w') ∧ Aside0 (digK P i 0)) (fun _ v8 _ _ => 7 - (intOf v8).toNat)
  case atStart => exact ⟨0, 0, by omega, by omega, rfl, by simp, ⟨rfl⟩, HS1, ⟨by rw [gF_start]; exact HT1.out⟩, HW1, HB1, ⟨⟨fun j hj => by omega, fun x hx => by omega⟩⟩⟩
  case round =>
    clear HS1 HT1 HW1 HB1
    obtain ⟨i, a, hi, ha, rfl, rfl, HA, HS, HT, HW, HB, HD⟩ := hrel
    by_cases c1 : i < 7
    · obtain ⟨o1, o2, o3, o4⟩ := off_facts i c1
      have z7 := wd_get i c1
      have HWD := Aside0.mk (show ∃ W, wdN i = W from ⟨_, rfl⟩)
      obtain ⟨W, hW⟩ := HWD.out
      rw [hW] at o1 o2 o3 z7
      have HWW := Aside0.mk hW
      have HO3 := Aside0.mk o3
      have HO1 := Aside0.mk o1
      have hZ := (blk_cell HW.out i).trans z7
      have HZW := Aside0.mk z7
      clear o1 o3 o4 hW HWD z7
      have t33 : decide ((i : Int) < 7) = true := by simp; omega
      go_wp2_with fail
      go_loopw [6, 9] (fun v6 v9 w' => ∃ (k p : Nat), k ≤ W ∧ p ≤ 26 ∧ v9 = .int .i64 k ∧ v6 = .int .i64 (p : Int) ∧ Aside0 (p = offN i + k) ∧ Aside0 (w'.heap[w.heap.size]? = some (.cells #[.int .i64 0, .int .i64 0, .int .i64 0, .int .i64 0, .int .i64 0, .int .i64 0, .int .i64 0] 138 (0, 0))) ∧ Aside0 (w'.heap[w.heap.size + 1]? = some (.cells (arrV (gF P i k)) 138 (0, 0))) ∧ Aside0 (w'.heap[w.heap.size + 1 + 1]? = some (.cells #[.int .i64 4, .int .i64 2, .int .i64 2, .int .i64 2, .int .i64 2, .int .i64 2, .int .i64 6] 3 (0, 0))) ∧ Aside0 (Below w.heap.size w w') ∧ Aside0 (digK P i k)) (fun _ v9 _ => W - (intOf v9).toNat)
      case atStart => exact ⟨0, a, by omega, by have := HA.out; have := HO1.out; omega, rfl, rfl, ⟨HA.out⟩, HS, HT, HW, HB, HD⟩
      case round =>
        clear HS HT HW HB HD hZ
        obtain ⟨k, p, hk, hp, rfl, rfl, HPP, HS, HT, HW, HB, HD⟩ := hrel
        have hZ := (blk_cell HW.out i).trans HZW.out
        by_cases c2 : k < W
        · have hp25 : p < 26 := by have := HPP.out; have := HO1.out; omega
          obtain ⟨b, hb⟩ : ∃ b, P.getD p 0 = b := ⟨_, rfl⟩
          have hbt : ∀ h : p < q.size, ((q[p]'h).toNat : Int) = b := by rw [← hb]; exact HBT.out p
          have hb0 := HIB.out.getD p
          rw [hb] at hb0
          obtain ⟨hb0, hb1⟩ := hb0
          have HBV := Aside0.mk (show P.getD (offN i + k) 0 = b by rw [← HPP.out]; exact hb)
          clear hb
          by_cases d : 48 ≤ b ∧ b ≤ 57
          · obtain ⟨d1, d2⟩ := d
            have HDG := Aside0.mk (digK_more HD.out (show dgB (P.getD (offN i + k) 0) = true by rw [HBV.out, dgB]; simp; omega))
            have hxb := digK_bound HPL.out HD.out (by have := HO1.out; omega)
            have h6 := pow6 k (by omega)
            have hg := gF_step HPL.out (i := i) (k := k) (by have := HPP.out; omega)
            rw [HBV.out] at hg
            have z1 := (blk_cell HT.out i).trans (arrV_get (gF P i k) i c1)
            rw [gF_at P i k] at hg z1
            obtain ⟨x, hx⟩ : ∃ x, numD ((P.drop (offN i)).take k) = x := ⟨_, rfl⟩
            rw [hx] at hxb hg z1
            obtain ⟨x0, x1⟩ := hxb
            have x2 : x ≤ 1000000 := by omega
            have f1 := blk_frozen HT.out i
            have HT2 := Aside0.mk (show (wr.setCell ⟨w.heap.size + 1, i, none⟩ (.int .i64 (x * 10 + (b - 48)))).heap[w.heap.size + 1]? = some (.cells (arrV (gF P i (k + 1))) 138 (0, 0)) by
              rw [blk_set HT.out i (.int .i64 (x * 10 + (b - 48))), arrV_set (gF P i k) (gF P i (k + 1)) i c1 _ hg (fun j hj => gF_other P hj)])
            have HS2 := Aside0.mk (blk_far HS.out (p := ⟨w.heap.size + 1, i, none⟩) (by show w.heap.size ≠ w.heap.size + 1; omega) (.int .i64 (x * 10 + (b - 48))))
            have HW2 := Aside0.mk (blk_far HW.out (p := ⟨w.heap.size + 1, i, none⟩) (by show w.heap.size + 1 + 1 ≠ w.heap.size + 1; omega) (.int .i64 (x * 10 + (b - 48))))
            have HB2 := Aside0.mk (cbelow_set HB.out ⟨w.heap.size + 1, i, none⟩ (by show w.heap.size ≤ w.heap.size + 1; omega) (.int .i64 (x * 10 + (b - 48))))
            have w1 : IntKind.i64.wrap (x * 10) = x * 10 := by rw [IntKind.wrap_i64]; omega
            have w2 : IntKind.u8.wrap (b - 48) = b - 48 := by rw [IntKind.wrap_u8]; omega
            have w3 : IntKind.i64.wrap (b - 48) = b - 48 := by rw [IntKind.wrap_i64]; omega
            have w4 : IntKind.i64.wrap (x * 10 + (b - 48)) = x * 10 + (b - 48) := by rw [IntKind.wrap_i64]; omega
            have i0 : (0 : Int) ≤ (i : Int) := by omega
            have i7 : (i : Int) < 7 := by omega
            clear hg hx h6 x1
            go_wp2_with fail
            refine start_ (n := 13) (S := fun w' => w'.cell? ⟨w.heap.size + 1, i, none⟩ = some (.int .i64 x)) (ds := [12]) #[false, false, false, false, false, false, false, false, false, false, false, false, false] (by kernel_rfl) rfl rfl (z1) (fun hHeld => ?_)
            refine pure_ (i := 0) (N := some 55) (v := ?_) (a' := ?_) #[true, false, false, false, false, false, false, false, false, false, false, false, false] rfl rfl (by kernel_rfl) (fun _ _ _ h => h) (Or.inl ⟨by rfl, ?_⟩) ?_ ?_
            rotate_left
            · intro w'
              go_simp
              with_reducible rfl
            rotate_left
            · simp only [Act.put, List.setIfInBounds_toArray, List.set_cons_zero, List.set_cons_succ, i64_w, i32_w]
              rfl
            refine pure_ (i := 1) (N := some 56) (v := ?_) (a' := ?_) #[true, true, false, false, false, false, false, false, false, false, false, false, false] rfl rfl (by kernel_rfl) (fun _ _ _ h => h) (Or.inl ⟨by rfl, ?_⟩) ?_ ?_
            rotate_left
            · intro w'
              go_simp
              with_reducible rfl
            rotate_left
            · simp only [Act.put, List.setIfInBounds_toArray, List.set_cons_zero, List.set_cons_succ, i64_w, i32_w]
              rfl
            refine pure_ (i := 2) (N := some 57) (v := ?_) (a' := ?_) #[true, true, true, false, false, false, false, false, false, false, false, false, false] rfl rfl (by kernel_rfl) (fun _ _ _ h => h) (Or.inl ⟨by rfl, ?_⟩) ?_ ?_
            rotate_left
            · intro w'
              go_simp
              with_reducible rfl
            rotate_left
            · simp only [Act.put, List.setIfInBounds_toArray, List.set_cons_zero, List.set_cons_succ, i64_w, i32_w]
              rfl
            refine pure_ (i := 5) (N := some 60) (v := ?_) (a' := ?_) #[true, true, true, false, false, true, false, false, false, false, false, false, false] rfl rfl (by kernel_rfl) (fun _ _ _ h => h) (Or.inl ⟨by rfl, ?_⟩) ?_ ?_
            rotate_left
            · intro w'
              go_simp
              with_reducible rfl
            rotate_left
            · simp only [Act.put, List.setIfInBounds_toArray, List.set_cons_zero, List.set_cons_succ, i64_w, i32_w]
              rfl
            refine pure_ (i := 6) (N := some 61) (v := ?_) (a' := ?_) #[true, true, true, false, false, true, true, false, false, false, false, false, false] rfl rfl (by kernel_rfl) (fun _ _ _ h => h) (Or.inl ⟨by rfl, ?_⟩) ?_ ?_
            rotate_left
            · intro w'
              go_simp
              with_reducible rfl
            rotate_left
            · simp only [Act.put, List.setIfInBounds_toArray, List.set_cons_zero, List.set_cons_succ, i64_w, i32_w]
              rfl
            refine take_ (i := 3) (N := some 58) (v := ?_) (a' := ?_) #[true, true, true, true, false, true, true, false, false, false, false, false, false] rfl rfl (by kernel_rfl) (fun _ _ _ h => h) (Or.inl ⟨by rfl, ?_⟩) hHeld ?_ ?_
            rotate_left
            · intro w' s0
              go_simp
              with_reducible rfl
            rotate_left
            · simp only [Act.put, List.setIfInBounds_toArray, List.set_cons_zero, List.set_cons_succ, i64_w, i32_w]
              rfl
            refine pure_ (i := 4) (N := some 59) (v := ?_) (a' := ?_) #[true, true, true, true, true, true, true, false, false, false, false, false, false] rfl rfl (by kernel_rfl) (fun _ _ _ h => h) (Or.inl ⟨by rfl, ?_⟩) ?_ ?_
            rotate_left
            · intro w'
              go_simp
              with_reducible rfl
            rotate_left
            · simp only [Act.put, List.setIfInBounds_toArray, List.set_cons_zero, List.set_cons_succ, i64_w, i32_w]
              rfl
            refine take_ (i := 7) (N := some 62) (v := ?_) (a' := ?_) #[true, true, true, true, true, true, true, true, false, false, false, false, false] rfl rfl (by kernel_rfl) (fun _ _ _ h => h) (Or.inl ⟨by rfl, ?_⟩) hHeld ?_ ?_
            rotate_left
            · intro w' s0
              go_simp
              with_reducible rfl
            rotate_left
            · simp only [Act.put, List.setIfInBounds_toArray, List.set_cons_zero, List.set_cons_succ, i64_w, i32_w]
              rfl
            refine pure_ (i := 8) (N := some 63) (v := ?_) (a' := ?_) #[true, true, true, true, true, true, true, true, true, false, false, false, false] rfl rfl (by kernel_rfl) (fun _ _ _ h => h) (Or.inl ⟨by rfl, ?_⟩) ?_ ?_
            rotate_left
            · intro w'
              go_simp
              with_reducible rfl
            rotate_left
            · simp only [Act.put, List.setIfInBounds_toArray, List.set_cons_zero, List.set_cons_succ, i64_w, i32_w]
              rfl
            refine pure_ (i := 9) (N := some 64) (v := ?_) (a' := ?_) #[true, true, true, true, true, true, true, true, true, true, false, false, false] rfl rfl (by kernel_rfl) (fun _ _ _ h => h) (Or.inl ⟨by rfl, ?_⟩) ?_ ?_
            rotate_left
            · intro w'
              go_simp
              with_reducible rfl
            rotate_left
            · simp only [Act.put, List.setIfInBounds_toArray, List.set_cons_zero, List.set_cons_succ, i64_w, i32_w]
              rfl
            refine pure_ (i := 10) (N := some 65) (v := ?_) (a' := ?_) #[true, true, true, true, true, true, true, true, true, true, true, false, false] rfl rfl (by kernel_rfl) (fun _ _ _ h => h) (Or.inl ⟨by rfl, ?_⟩) ?_ ?_
            rotate_left
            · intro w'
              go_simp
              with_reducible rfl
            rotate_left
            · simp only [Act.put, List.setIfInBounds_toArray, List.set_cons_zero, List.set_cons_succ, i64_w, i32_w]
              rfl
            refine pure_ (i := 11) (N := some 66) (v := ?_) (a' := ?_) #[true, true, true, true, true, true, true, true, true, true, true, true, false] rfl rfl (by kernel_rfl) (fun _ _ _ h => h) (Or.inl ⟨by rfl, ?_⟩) ?_ ?_
            rotate_left
            · intro w'
              go_simp
              with_reducible rfl
            rotate_left
            · simp only [Act.put, List.setIfInBounds_toArray, List.set_cons_zero, List.set_cons_succ, i64_w, i32_w]
              rfl
            refine last_ (i := 12) (N := none) #[true, true, true, true, true, true, true, true, true, true, true, true, true] rfl rfl (by kernel_rfl) (by decide) (fun K hK => ?_)
            refine skip_ (w1 := ?_) (by rfl) rfl ?_ ?_
            rotate_left
            · go_simp
              rfl
            refine hK.out _ _ ?_
            clear hK K
            refine done_ (by kernel_rfl) ?_
            clear w1 w2 w3 w4
            go_wp2_with fail
            go_roundw
            case rel => exact ⟨k + 1, p + 1, by omega, by omega, by go_num, by go_num, ⟨by have := HPP.out; omega⟩, ⟨blk_drew HS2.out⟩, ⟨blk_drew HT2.out⟩, ⟨blk_drew HW2.out⟩, ⟨below_drew HB2.out⟩, HDG⟩
            case measure => simp [intOf] <;> omega
          · have HE := Aside0.mk (HNO.out (like_bad HPL.out c1 (show k < wdN i by rw [HWW.out]; exact c2) (by rw [HBV.out, dgB]; simp; omega)))
            have H0 := HS.out
            have r0 := blk_cell H0 0
            have r1 := blk_cell H0 1
            have r2 := blk_cell H0 2
            have r3 := blk_cell H0 3
            have r4 := blk_cell H0 4
            have r5 := blk_cell H0 5
            have r6 := blk_cell H0 6
            have f0 := blk_frozen H0 0
            have f1 := blk_frozen H0 1
            have f2 := blk_frozen H0 2
            have f3 := blk_frozen H0 3
            have f4 := blk_frozen H0 4
            have f5 := blk_frozen H0 5
            have f6 := blk_frozen H0 6
            clear H0
            by_cases e : b < 48
            · clear d
              go_wp2_with fail
              refine bodyPost_ret (v := .tuple #[.agg #[.int .i64 0, .int .i64 0, .int .i64 0, .int .i64 0, .int .i64 0, .int .i64 0, .int .i64 0], .bool false]) (by simp [results, Try.results78, go_sem, r0, r1, r2, r3, r4, r5, r6]) rfl ⟨by rw [HE.out], below_set7 HB.out (Nat.le_refl _) _ _ _ _ _ _ _⟩
            · have e2 : 57 < b := by omega
              clear d
              go_wp2_with fail
              refine bodyPost_ret (v := .tuple #[.agg #[.int .i64 0, .int .i64 0, .int .i64 0, .int .i64 0, .int .i64 0, .int .i64 0, .int .i64 0], .bool false]) (by simp [results, Try.results78, go_sem, r0, r1, r2, r3, r4, r5, r6]) rfl ⟨by rw [HE.out], below_set7 HB.out (Nat.le_refl _) _ _ _ _ _ _ _⟩
        · have hkW : k = W := by omega
          have HT2 := Aside0.mk (show wr.heap[w.heap.size + 1]? = some (.cells (arrV (gF P (i + 1) 0)) 138 (0, 0)) by rw [← gF_next, HWW.out, ← hkW]; exact HT.out)
          have HD2 := Aside0.mk (digK_next (by rw [HWW.out, ← hkW]; exact HD.out))
          have HA2 := Aside0.mk (show p + 1 = offN (i + 1) by have := HPP.out; have := HO3.out; omega)
          go_wp2_with fail
          go_roundw
          case rel => first | exact ⟨i + 1, p + 1, by omega, by omega, by go_num, by go_num, HA2, HS, HT2, HW, HB, HD2⟩ | ((repeat apply Exists.intro); exact ⟨⟨i + 1, p + 1, by omega, by omega, by go_num, by go_num, HA2, HS, HT2, HW, HB, HD2⟩, rfl⟩)
          case measure => simp [intOf] <;> omega
    · obtain rfl : i = 7 := by omega
      have hdg := digK_all HPL.out HD.out
      have hlt := like_text HPL.out hdg
      obtain ⟨F0, F1, F2, F3, F4, F5, F6⟩ := fldj_fld P
      have hT := HT.out
      rw [arrV, gF_end P 0 (by omega), gF_end P 1 (by omega), gF_end P 2 (by omega), gF_end P 3 (by omega), gF_end P 4 (by omega), gF_end P 5 (by omega), gF_end P 6 (by omega), F0, F1, F2, F3, F4, F5, F6] at hT
      have hti : timB P = rightB (fld P 0 4) (fld P 5 7) (fld P 8 10) (fld P 11 13) (fld P 14 16) (fld P 17 19) (fld P 20 26) := rfl
      obtain ⟨y, e0⟩ : ∃ x, fld P 0 4 = x := ⟨_, rfl⟩
      obtain ⟨m, e1⟩ : ∃ x, fld P 5 7 = x := ⟨_, rfl⟩
      obtain ⟨d, e2⟩ : ∃ x, fld P 8 10 = x := ⟨_, rfl⟩
      obtain ⟨h, e3⟩ : ∃ x, fld P 11 13 = x := ⟨_, rfl⟩
      obtain ⟨i, e4⟩ : ∃ x, fld P 14 16 = x := ⟨_, rfl⟩
      obtain ⟨s, e5⟩ : ∃ x, fld P 17 19 = x := ⟨_, rfl⟩
      obtain ⟨u, e6⟩ : ∃ x, fld P 20 26 = x := ⟨_, rfl⟩
      rw [e0, e1, e2, e3, e4, e5, e6] at hT hti hlt
      have E0 := Aside0.mk e0
      have E1 := Aside0.mk e1
      have E2 := Aside0.mk e2
      have E3 := Aside0.mk e3
      have E4 := Aside0.mk e4
      have E5 := Aside0.mk e5
      have E6 := Aside0.mk e6
      clear e0 e1 e2 e3 e4 e5 e6
      have HTI := Aside0.mk hti
      have HT7 := Aside0.mk hT
      have HLT := Aside0.mk hlt
      have H0 := HS.out
      have r0 := blk_cell H0 0
      have r1 := blk_cell H0 1
      have r2 := blk_cell H0 2
      have r3 := blk_cell H0 3
      have r4 := blk_cell H0 4
      have r5 := blk_cell H0 5
      have r6 := blk_cell H0 6
      have f0 := blk_frozen H0 0
      have f1 := blk_frozen H0 1
      have f2 := blk_frozen H0 2
      have f3 := blk_frozen H0 3
      have f4 := blk_frozen H0 4
      have f5 := blk_frozen H0 5
      have f6 := blk_frozen H0 6
      clear H0 hdg hlt hT hti F0 F1 F2 F3 F4 F5 F6 c1
      have z0 : (wr).cell? ⟨w.heap.size + 1, 0, none⟩ = some (.int .i64 y) := blk_cell HT7.out 0
      have z1 : (wr).cell? ⟨w.heap.size + 1, 1, none⟩ = some (.int .i64 m) := blk_cell HT7.out 1
      have z2 : (wr).cell? ⟨w.heap.size + 1, 2, none⟩ = some (.int .i64 d) := blk_cell HT7.out 2
      have z3 : (wr).cell? ⟨w.heap.size + 1, 3, none⟩ = some (.int .i64 h) := blk_cell HT7.out 3
      have z4 : (wr).cell? ⟨w.heap.size + 1, 4, none⟩ = some (.int .i64 i) := blk_cell HT7.out 4
      have z5 : (wr).cell? ⟨w.heap.size + 1, 5, none⟩ = some (.int .i64 s) := blk_cell HT7.out 5
      have z6 : (wr).cell? ⟨w.heap.size + 1, 6, none⟩ = some (.int .i64 u) := blk_cell HT7.out 6
      go_wp2_with fail
      refine (ref_Right_calls y m d h i s u _).mono ?_
      rintro e w8 ⟨rfl, hb8⟩
      have HB8 := Aside0.mk (below_step HB.out hb8)
      have HX8 := Aside0.mk (blk_below HT7.out hb8)
      have HS8 := Aside0.mk (blk_below HS.out hb8)
      clear hb8 z0 z1 z2 z3 z4 z5 z6
      obtain ⟨b, hb⟩ : ∃ b, rightB y m d h i s u = b := ⟨_, rfl⟩
      rw [hb] at HTI ⊢
      have HRB := Aside0.mk hb
      clear hb
      have H0 := HS8.out
      have r0 := blk_cell H0 0
      have r1 := blk_cell H0 1
      have r2 := blk_cell H0 2
      have r3 := blk_cell H0 3
      have r4 := blk_cell H0 4
      have r5 := blk_cell H0 5
      have r6 := blk_cell H0 6
      have f0 := blk_frozen H0 0
      have f1 := blk_frozen H0 1
      have f2 := blk_frozen H0 2
      have f3 := blk_frozen H0 3
      have f4 := blk_frozen H0 4
      have f5 := blk_frozen H0 5
      have f6 := blk_frozen H0 6
      have z0 : (w8).cell? ⟨w.heap.size + 1, 0, none⟩ = some (.int .i64 y) := blk_cell HX8.out 0
      have z1 : (w8).cell? ⟨w.heap.size + 1, 1, none⟩ = some (.int .i64 m) := blk_cell HX8.out 1
      have z2 : (w8).cell? ⟨w.heap.size + 1, 2, none⟩ = some (.int .i64 d) := blk_cell HX8.out 2
      have z3 : (w8).cell? ⟨w.heap.size + 1, 3, none⟩ = some (.int .i64 h) := blk_cell HX8.out 3
      have z4 : (w8).cell? ⟨w.heap.size + 1, 4, none⟩ = some (.int .i64 i) := blk_cell HX8.out 4
      have z5 : (w8).cell? ⟨w.heap.size + 1, 5, none⟩ = some (.int .i64 s) := blk_cell HX8.out 5
      have z6 : (w8).cell? ⟨w.heap.size + 1, 6, none⟩ = some (.int .i64 u) := blk_cell HX8.out 6
      clear H0
      cases b with
      | false =>
        have HE := Aside0.mk (parV_no (l := L) (by rw [HGO.out, HTI.out]; simp))
        go_wp2_with fail
        refine bodyPost_ret (v := .tuple #[.agg #[.int .i64 0, .int .i64 0, .int .i64 0, .int .i64 0, .int .i64 0, .int .i64 0, .int .i64 0], .bool false]) (by simp [results, Try.results78, go_sem, r0, r1, r2, r3, r4, r5, r6]) rfl ⟨by rw [HE.out], below_set7 HB8.out (Nat.le_refl _) _ _ _ _ _ _ _⟩
      | true =>
        obtain ⟨lk, hlk⟩ : ∃ b, likeB P formL = b := ⟨_, rfl⟩
        have HLK := Aside0.mk hlk
        obtain ⟨S1, hS1⟩ : ∃ S1, textS y m d h i s u = S1 := ⟨_, rfl⟩
        have heq : (S1.toList == q.toList) = lk := by
          rw [str_eq_iff, ← hlk, Bool.eq_iff_iff, decide_eq_true_eq, ← HLT.out]
          constructor
          · intro h
            have h2 := congrArg bytesOf h
            rw [HQB.out, ← hS1, textS, bytesOf_strOf (textL_isB HRB.out)] at h2
            exact h2
          · intro h
            rw [← hS1, textS, h, ← HQB.out, strOf_bytesOf]
        have hne : (S1.toList != q.toList) = !lk := by rw [← heq]; rfl
        have HS1 := Aside0.mk hS1
        clear hlk hS1
        go_wp2_with fail
        refine (ref_Text_calls y m d h i s u _ HRB.out).mono ?_
        rintro e w9 ⟨rfl, hb9⟩
        rw [HS1.out]
        have HB9 := Aside0.mk (below_step HB8.out hb9)
        have HX9 := Aside0.mk (blk_below HX8.out hb9)
        have H0 := blk_below HS8.out hb9
        clear hb9 r0 f0 r1 f1 r2 f2 r3 f3 r4 f4 r5 f5 r6 f6 z0 z1 z2 z3 z4 z5 z6
        have r0 := blk_cell H0 0
        have r1 := blk_cell H0 1
        have r2 := blk_cell H0 2
        have r3 := blk_cell H0 3
        have r4 := blk_cell H0 4
        have r5 := blk_cell H0 5
        have r6 := blk_cell H0 6
        have f0 := blk_frozen H0 0
        have f1 := blk_frozen H0 1
        have f2 := blk_frozen H0 2
        have f3 := blk_frozen H0 3
        have f4 := blk_frozen H0 4
        have f5 := blk_frozen H0 5
        have f6 := blk_frozen H0 6
        have z0 : (w9).cell? ⟨w.heap.size + 1, 0, none⟩ = some (.int .i64 y) := blk_cell HX9.out 0
        have z1 : (w9).cell? ⟨w.heap.size + 1, 1, none⟩ = some (.int .i64 m) := blk_cell HX9.out 1
        have z2 : (w9).cell? ⟨w.heap.size + 1, 2, none⟩ = some (.int .i64 d) := blk_cell HX9.out 2
        have z3 : (w9).cell? ⟨w.heap.size + 1, 3, none⟩ = some (.int .i64 h) := blk_cell HX9.out 3
        have z4 : (w9).cell? ⟨w.heap.size + 1, 4, none⟩ = some (.int .i64 i) := blk_cell HX9.out 4
        have z5 : (w9).cell? ⟨w.heap.size + 1, 5, none⟩ = some (.int .i64 s) := blk_cell HX9.out 5
        have z6 : (w9).cell? ⟨w.heap.size + 1, 6, none⟩ = some (.int .i64 u) := blk_cell HX9.out 6
        clear H0
        cases lk with
        | false =>
          have HE := Aside0.mk (HNO.out HLK.out)
          go_wp2_with fail
          refine bodyPost_ret (v := .tuple #[.agg #[.int .i64 0, .int .i64 0, .int .i64 0, .int .i64 0, .int .i64 0, .int .i64 0, .int .i64 0], .bool false]) (by simp [results, Try.results78, go_sem, r0, r1, r2, r3, r4, r5, r6]) rfl ⟨by rw [HE.out], below_set7 HB9.out (Nat.le_refl _) _ _ _ _ _ _ _⟩
        | true =>
          have HE := Aside0.mk (parV_yes (by rw [HGO.out, HLK.out, HTI.out]; rfl) HP.out E0.out E1.out E2.out E3.out E4.out E5.out E6.out)
          go_wp2_with fail
          refine bodyPost_ret (v := .tuple #[.agg #[.int .i64 y, .int .i64 m, .int .i64 d, .int .i64 h, .int .i64 i, .int .i64 s, .int .i64 u], .bool true]) (by simp [results, Try.results78, go_sem, r0, r1, r2, r3, r4, r5, r6]) rfl ⟨by rw [HE.out], below_set7 HB9.out (Nat.le_refl _) _ _ _ _ _ _ _⟩
set_option maxHeartbeats 8000000 in
set_option maxRecDepth 100000 in
theorem ref_Parse_16 (s : ByteArray) (w : World) (hN : s.size = 16) :
    Calls Try.prog 78 #[.string s] w fun e w' => e = .returned (parV (bytesOf s)) ∧ Below w.heap.size w w' := by
  have hn26 : s.size ≤ 26 := by omega
  have hpad := pad_str hn26
  have hPL := padP_len (l := bytesOf s) (by rw [bytesOf_length]; exact hn26)
  have HGO := Aside0.mk (show goodP (bytesOf s) = (likeB (padP (bytesOf s)) formL && timB (padP (bytesOf s))) by rw [goodP, bytesOf_length, hN]; rfl)
  obtain ⟨L, hL⟩ : ∃ l, bytesOf s = l := ⟨_, rfl⟩
  rw [hL] at hpad hPL HGO ⊢
  obtain ⟨P, hP⟩ : ∃ P, padP L = P := ⟨_, rfl⟩
  have HP := Aside0.mk hP
  rw [hP] at hpad hPL HGO
  have HPL := Aside0.mk hPL
  obtain ⟨q, hq⟩ : ∃ q, s ++ (⟨#[48, 48, 48, 48, 45, 48, 48, 45, 48, 48, 32, 48, 48, 58, 48, 48, 58, 48, 48, 46, 48, 48, 48, 48, 48, 48]⟩ : ByteArray).extract s.size 26 = q := ⟨_, rfl⟩
  have hqb : bytesOf q = P := by rw [← hq]; exact hpad
  have hqs : q.size = 26 := by rw [← bytesOf_length, hqb, hPL]
  have HQB := Aside0.mk hqb
  have HBT := Aside0.mk (show ∀ k, ∀ h : k < q.size, ((q[k]'h).toNat : Int) = P.getD k 0 from fun k => by rw [← hqb]; exact bt_k q k)
  have HIB := Aside0.mk (show isB P by rw [← hqb]; exact bytesOf_isB q)
  rw [hN] at hq
  have HQ := Aside0.mk hq
  have hz26 : (⟨#[48, 48, 48, 48, 45, 48, 48, 45, 48, 48, 32, 48, 48, 58, 48, 48, 58, 48, 48, 46, 48, 48, 48, 48, 48, 48]⟩ : ByteArray).size = 26 := rfl
  have HNO := Aside0.mk (show likeB P formL = false → parV L = .tuple #[.agg #[.int .i64 0, .int .i64 0, .int .i64 0, .int .i64 0, .int .i64 0, .int .i64 0, .int .i64 0], .bool false] from fun h => parV_no (by rw [HGO.out, h]; rfl))
  have HS1 := Aside0.mk (blk_alloc (blk_alloc (blk_new w (.cells #[.int .i64 0, .int .i64 0, .int .i64 0, .int .i64 0, .int .i64 0, .int .i64 0, .int .i64 0] 138)) (.cells #[.int .i64 0, .int .i64 0, .int .i64 0, .int .i64 0, .int .i64 0, .int .i64 0, .int .i64 0] 138)) (.cells #[.int .i64 4, .int .i64 2, .int .i64 2, .int .i64 2, .int .i64 2, .int .i64 2, .int .i64 6] 3))
  have HT1 := Aside0.mk (blk_alloc (blk_new (w.alloc (.cells #[.int .i64 0, .int .i64 0, .int .i64 0, .int .i64 0, .int .i64 0, .int .i64 0, .int .i64 0] 138)) (.cells #[.int .i64 0, .int .i64 0, .int .i64 0, .int .i64 0, .int .i64 0, .int .i64 0, .int .i64 0] 138)) (.cells #[.int .i64 4, .int .i64 2, .int .i64 2, .int .i64 2, .int .i64 2, .int .i64 2, .int .i64 6] 3))
  have HW1 := Aside0.mk (blk_new ((w.alloc (.cells #[.int .i64 0, .int .i64 0, .int .i64 0, .int .i64 0, .int .i64 0, .int .i64 0, .int .i64 0] 138)).alloc (.cells #[.int .i64 0, .int .i64 0, .int .i64 0, .int .i64 0, .int .i64 0, .int .i64 0, .int .i64 0] 138)) (.cells #[.int .i64 4, .int .i64 2, .int .i64 2, .int .i64 2, .int .i64 2, .int .i64 2, .int .i64 6] 3))
  rw [show (w.alloc (.cells #[.int .i64 0, .int .i64 0, .int .i64 0, .int .i64 0, .int .i64 0, .int .i64 0, .int .i64 0] 138)).heap.size = w.heap.size + 1 from Array.size_push _] at HT1
  rw [show ((w.alloc (.cells #[.int .i64 0, .int .i64 0, .int .i64 0, .int .i64 0, .int .i64 0, .int .i64 0, .int .i64 0] 138)).alloc (.cells #[.int .i64 0, .int .i64 0, .int .i64 0, .int .i64 0, .int .i64 0, .int .i64 0, .int .i64 0] 138)).heap.size = w.heap.size + 1 + 1 by rw [show ((w.alloc (.cells #[.int .i64 0, .int .i64 0, .int .i64 0, .int .i64 0, .int .i64 0, .int .i64 0, .int .i64 0] 138)).alloc (.cells #[.int .i64 0, .int .i64 0, .int .i64 0, .int .i64 0, .int .i64 0, .int .i64 0, .int .i64 0] 138)).heap.size = (w.alloc (.cells #[.int .i64 0, .int .i64 0, .int .i64 0, .int .i64 0, .int .i64 0, .int .i64 0, .int .i64 0] 138)).heap.size + 1 from Array.size_push _, show (w.alloc (.cells #[.int .i64 0, .int .i64 0, .int .i64 0, .int .i64 0, .int .i64 0, .int .i64 0, .int .i64 0] 138)).heap.size = w.heap.size + 1 from Array.size_push _]] at HW1
  have HB1 := Aside0.mk (below_alloc (below_alloc (below_alloc (Below.refl w.heap.size w) (.cells #[.int .i64 0, .int .i64 0, .int .i64 0, .int .i64 0, .int .i64 0, .int .i64 0, .int .i64 0] 138)) (.cells #[.int .i64 0, .int .i64 0, .int .i64 0, .int .i64 0, .int .i64 0, .int .i64 0, .int .i64 0] 138)) (.cells #[.int .i64 4, .int .i64 2, .int .i64 2, .int .i64 2, .int .i64 2, .int .i64 2, .int .i64 6] 3))
  clear hpad hPL hP hq hqb hL hn26
  go_enter Try.func78, Try.ntmps78
  go_upto_region 8 with (fail)
  rw [HQ.out]
  go_wp2_with fail
  go_loopw [6, 8, 9] (fun v6 v8 v9 w' => ∃ (i a : Nat), i ≤ 7 ∧ a ≤ 27 ∧ v8 = .int .i64 i ∧ v6 = .int .i64 (a : Int) ∧ Aside0 (a = offN i) ∧ Aside0 (w'.heap[w.heap.size]? = some (.cells #[.int .i64 0, .int .i64 0, .int .i64 0, .int .i64 0, .int .i64 0, .int .i64 0, .int .i64 0] 138 (0, 0))) ∧ Aside0 (w'.heap[w.heap.size + 1]? = some (.cells (arrV (gF P i 0)) 138 (0, 0))) ∧ Aside0 (w'.heap[w.heap.size + 1 + 1]? = some (.cells #[.int .i64 4, .int .i64 2, .int .i64 2, .int .i64 2, .int .i64 2, .int .i64 2, .int .i64 6] 3 (0, 0))) ∧ Aside0 (Below w.heap.size w w') ∧ Aside0 (digK P i 0)) (fun _ v8 _ _ => 7 - (intOf v8).toNat)
  case atStart => exact ⟨0, 0, by omega, by omega, rfl, by simp, ⟨rfl⟩, HS1, ⟨by rw [gF_start]; exact HT1.out⟩, HW1, HB1, ⟨⟨fun j hj => by omega, fun x hx => by omega⟩⟩⟩
  case round =>
    clear HS1 HT1 HW1 HB1
    obtain ⟨i, a, hi, ha, rfl, rfl, HA, HS, HT, HW, HB, HD⟩ := hrel
    by_cases c1 : i < 7
    · obtain ⟨o1, o2, o3, o4⟩ := off_facts i c1
      have z7 := wd_get i c1
      have HWD := Aside0.mk (show ∃ W, wdN i = W from ⟨_, rfl⟩)
      obtain ⟨W, hW⟩ := HWD.out
      rw [hW] at o1 o2 o3 z7
      have HWW := Aside0.mk hW
      have HO3 := Aside0.mk o3
      have HO1 := Aside0.mk o1
      have hZ := (blk_cell HW.out i).trans z7
      have HZW := Aside0.mk z7
      clear o1 o3 o4 hW HWD z7
      have t33 : decide ((i : Int) < 7) = true := by simp; omega
      go_wp2_with fail
      go_loopw [6, 9] (fun v6 v9 w' => ∃ (k p : Nat), k ≤ W ∧ p ≤ 26 ∧ v9 = .int .i64 k ∧ v6 = .int .i64 (p : Int) ∧ Aside0 (p = offN i + k) ∧ Aside0 (w'.heap[w.heap.size]? = some (.cells #[.int .i64 0, .int .i64 0, .int .i64 0, .int .i64 0, .int .i64 0, .int .i64 0, .int .i64 0] 138 (0, 0))) ∧ Aside0 (w'.heap[w.heap.size + 1]? = some (.cells (arrV (gF P i k)) 138 (0, 0))) ∧ Aside0 (w'.heap[w.heap.size + 1 + 1]? = some (.cells #[.int .i64 4, .int .i64 2, .int .i64 2, .int .i64 2, .int .i64 2, .int .i64 2, .int .i64 6] 3 (0, 0))) ∧ Aside0 (Below w.heap.size w w') ∧ Aside0 (digK P i k)) (fun _ v9 _ => W - (intOf v9).toNat)
      case atStart => exact ⟨0, a, by omega, by have := HA.out; have := HO1.out; omega, rfl, rfl, ⟨HA.out⟩, HS, HT, HW, HB, HD⟩
      case round =>
        clear HS HT HW HB HD hZ
        obtain ⟨k, p, hk, hp, rfl, rfl, HPP, HS, HT, HW, HB, HD⟩ := hrel
        have hZ := (blk_cell HW.out i).trans HZW.out
        by_cases c2 : k < W
        · have hp25 : p < 26 := by have := HPP.out; have := HO1.out; omega
          obtain ⟨b, hb⟩ : ∃ b, P.getD p 0 = b := ⟨_, rfl⟩
          have hbt : ∀ h : p < q.size, ((q[p]'h).toNat : Int) = b := by rw [← hb]; exact HBT.out p
          have hb0 := HIB.out.getD p
          rw [hb] at hb0
          obtain ⟨hb0, hb1⟩ := hb0
          have HBV := Aside0.mk (show P.getD (offN i + k) 0 = b by rw [← HPP.out]; exact hb)
          clear hb
          by_cases d : 48 ≤ b ∧ b ≤ 57
          · obtain ⟨d1, d2⟩ := d
            have HDG := Aside0.mk (digK_more HD.out (show dgB (P.getD (offN i + k) 0) = true by rw [HBV.out, dgB]; simp; omega))
            have hxb := digK_bound HPL.out HD.out (by have := HO1.out; omega)
            have h6 := pow6 k (by omega)
            have hg := gF_step HPL.out (i := i) (k := k) (by have := HPP.out; omega)
            rw [HBV.out] at hg
            have z1 := (blk_cell HT.out i).trans (arrV_get (gF P i k) i c1)
            rw [gF_at P i k] at hg z1
            obtain ⟨x, hx⟩ : ∃ x, numD ((P.drop (offN i)).take k) = x := ⟨_, rfl⟩
            rw [hx] at hxb hg z1
            obtain ⟨x0, x1⟩ := hxb
            have x2 : x ≤ 1000000 := by omega
            have f1 := blk_frozen HT.out i
            have HT2 := Aside0.mk (show (wr.setCell ⟨w.heap.size + 1, i, none⟩ (.int .i64 (x * 10 + (b - 48)))).heap[w.heap.size + 1]? = some (.cells (arrV (gF P i (k + 1))) 138 (0, 0)) by
              rw [blk_set HT.out i (.int .i64 (x * 10 + (b - 48))), arrV_set (gF P i k) (gF P i (k + 1)) i c1 _ hg (fun j hj => gF_other P hj)])
            have HS2 := Aside0.mk (blk_far HS.out (p := ⟨w.heap.size + 1, i, none⟩) (by show w.heap.size ≠ w.heap.size + 1; omega) (.int .i64 (x * 10 + (b - 48))))
            have HW2 := Aside0.mk (blk_far HW.out (p := ⟨w.heap.size + 1, i, none⟩) (by show w.heap.size + 1 + 1 ≠ w.heap.size + 1; omega) (.int .i64 (x * 10 + (b - 48))))
            have HB2 := Aside0.mk (cbelow_set HB.out ⟨w.heap.size + 1, i, none⟩ (by show w.heap.size ≤ w.heap.size + 1; omega) (.int .i64 (x * 10 + (b - 48))))
            have w1 : IntKind.i64.wrap (x * 10) = x * 10 := by rw [IntKind.wrap_i64]; omega
            have w2 : IntKind.u8.wrap (b - 48) = b - 48 := by rw [IntKind.wrap_u8]; omega
            have w3 : IntKind.i64.wrap (b - 48) = b - 48 := by rw [IntKind.wrap_i64]; omega
            have w4 : IntKind.i64.wrap (x * 10 + (b - 48)) = x * 10 + (b - 48) := by rw [IntKind.wrap_i64]; omega
            have i0 : (0 : Int) ≤ (i : Int) := by omega
            have i7 : (i : Int) < 7 := by omega
            clear hg hx h6 x1
            go_wp2_with fail
            refine start_ (n := 13) (S := fun w' => w'.cell? ⟨w.heap.size + 1, i, none⟩ = some (.int .i64 x)) (ds := [12]) #[false, false, false, false, false, false, false, false, false, false, false, false, false] (by kernel_rfl) rfl rfl (z1) (fun hHeld => ?_)
            refine pure_ (i := 0) (N := some 55) (v := ?_) (a' := ?_) #[true, false, false, false, false, false, false, false, false, false, false, false, false] rfl rfl (by kernel_rfl) (fun _ _ _ h => h) (Or.inl ⟨by rfl, ?_⟩) ?_ ?_
            rotate_left
            · intro w'
              go_simp
              with_reducible rfl
            rotate_left
            · simp only [Act.put, List.setIfInBounds_toArray, List.set_cons_zero, List.set_cons_succ, i64_w, i32_w]
              rfl
            refine pure_ (i := 1) (N := some 56) (v := ?_) (a' := ?_) #[true, true, false, false, false, false, false, false, false, false, false, false, false] rfl rfl (by kernel_rfl) (fun _ _ _ h => h) (Or.inl ⟨by rfl, ?_⟩) ?_ ?_
            rotate_left
            · intro w'
              go_simp
              with_reducible rfl
            rotate_left
            · simp only [Act.put, List.setIfInBounds_toArray, List.set_cons_zero, List.set_cons_succ, i64_w, i32_w]
              rfl
            refine pure_ (i := 2) (N := some 57) (v := ?_) (a' := ?_) #[true, true, true, false, false, false, false, false, false, false, false, false, false] rfl rfl (by kernel_rfl) (fun _ _ _ h => h) (Or.inl ⟨by rfl, ?_⟩) ?_ ?_
            rotate_left
            · intro w'
              go_simp
              with_reducible rfl
            rotate_left
            · simp only [Act.put, List.setIfInBounds_toArray, List.set_cons_zero, List.set_cons_succ, i64_w, i32_w]
              rfl
            refine pure_ (i := 5) (N := some 60) (v := ?_) (a' := ?_) #[true, true, true, false, false, true, false, false, false, false, false, false, false] rfl rfl (by kernel_rfl) (fun _ _ _ h => h) (Or.inl ⟨by rfl, ?_⟩) ?_ ?_
            rotate_left
            · intro w'
              go_simp
              with_reducible rfl
            rotate_left
            · simp only [Act.put, List.setIfInBounds_toArray, List.set_cons_zero, List.set_cons_succ, i64_w, i32_w]
              rfl
            refine pure_ (i := 6) (N := some 61) (v := ?_) (a' := ?_) #[true, true, true, false, false, true, true, false, false, false, false, false, false] rfl rfl (by kernel_rfl) (fun _ _ _ h => h) (Or.inl ⟨by rfl, ?_⟩) ?_ ?_
            rotate_left
            · intro w'
              go_simp
              with_reducible rfl
            rotate_left
            · simp only [Act.put, List.setIfInBounds_toArray, List.set_cons_zero, List.set_cons_succ, i64_w, i32_w]
              rfl
            refine take_ (i := 3) (N := some 58) (v := ?_) (a' := ?_) #[true, true, true, true, false, true, true, false, false, false, false, false, false] rfl rfl (by kernel_rfl) (fun _ _ _ h => h) (Or.inl ⟨by rfl, ?_⟩) hHeld ?_ ?_
            rotate_left
            · intro w' s0
              go_simp
              with_reducible rfl
            rotate_left
            · simp only [Act.put, List.setIfInBounds_toArray, List.set_cons_zero, List.set_cons_succ, i64_w, i32_w]
              rfl
            refine pure_ (i := 4) (N := some 59) (v := ?_) (a' := ?_) #[true, true, true, true, true, true, true, false, false, false, false, false, false] rfl rfl (by kernel_rfl) (fun _ _ _ h => h) (Or.inl ⟨by rfl, ?_⟩) ?_ ?_
            rotate_left
            · intro w'
              go_simp
              with_reducible rfl
            rotate_left
            · simp only [Act.put, List.setIfInBounds_toArray, List.set_cons_zero, List.set_cons_succ, i64_w, i32_w]
              rfl
            refine take_ (i := 7) (N := some 62) (v := ?_) (a' := ?_) #[true, true, true, true, true, true, true, true, false, false, false, false, false] rfl rfl (by kernel_rfl) (fun _ _ _ h => h) (Or.inl ⟨by rfl, ?_⟩) hHeld ?_ ?_
            rotate_left
            · intro w' s0
              go_simp
              with_reducible rfl
            rotate_left
            · simp only [Act.put, List.setIfInBounds_toArray, List.set_cons_zero, List.set_cons_succ, i64_w, i32_w]
              rfl
            refine pure_ (i := 8) (N := some 63) (v := ?_) (a' := ?_) #[true, true, true, true, true, true, true, true, true, false, false, false, false] rfl rfl (by kernel_rfl) (fun _ _ _ h => h) (Or.inl ⟨by rfl, ?_⟩) ?_ ?_
            rotate_left
            · intro w'
              go_simp
              with_reducible rfl
            rotate_left
            · simp only [Act.put, List.setIfInBounds_toArray, List.set_cons_zero, List.set_cons_succ, i64_w, i32_w]
              rfl
            refine pure_ (i := 9) (N := some 64) (v := ?_) (a' := ?_) #[true, true, true, true, true, true, true, true, true, true, false, false, false] rfl rfl (by kernel_rfl) (fun _ _ _ h => h) (Or.inl ⟨by rfl, ?_⟩) ?_ ?_
            rotate_left
            · intro w'
              go_simp
              with_reducible rfl
            rotate_left
            · simp only [Act.put, List.setIfInBounds_toArray, List.set_cons_zero, List.set_cons_succ, i64_w, i32_w]
              rfl
            refine pure_ (i := 10) (N := some 65) (v := ?_) (a' := ?_) #[true, true, true, true, true, true, true, true, true, true, true, false, false] rfl rfl (by kernel_rfl) (fun _ _ _ h => h) (Or.inl ⟨by rfl, ?_⟩) ?_ ?_
            rotate_left
            · intro w'
              go_simp
              with_reducible rfl
            rotate_left
            · simp only [Act.put, List.setIfInBounds_toArray, List.set_cons_zero, List.set_cons_succ, i64_w, i32_w]
              rfl
            refine pure_ (i := 11) (N := some 66) (v := ?_) (a' := ?_) #[true, true, true, true, true, true, true, true, true, true, true, true, false] rfl rfl (by kernel_rfl) (fun _ _ _ h => h) (Or.inl ⟨by rfl, ?_⟩) ?_ ?_
            rotate_left
            · intro w'
              go_simp
              with_reducible rfl
            rotate_left
            · simp only [Act.put, List.setIfInBounds_toArray, List.set_cons_zero, List.set_cons_succ, i64_w, i32_w]
              rfl
            refine last_ (i := 12) (N := none) #[true, true, true, true, true, true, true, true, true, true, true, true, true] rfl rfl (by kernel_rfl) (by decide) (fun K hK => ?_)
            refine skip_ (w1 := ?_) (by rfl) rfl ?_ ?_
            rotate_left
            · go_simp
              rfl
            refine hK.out _ _ ?_
            clear hK K
            refine done_ (by kernel_rfl) ?_
            clear w1 w2 w3 w4
            go_wp2_with fail
            go_roundw
            case rel => exact ⟨k + 1, p + 1, by omega, by omega, by go_num, by go_num, ⟨by have := HPP.out; omega⟩, ⟨blk_drew HS2.out⟩, ⟨blk_drew HT2.out⟩, ⟨blk_drew HW2.out⟩, ⟨below_drew HB2.out⟩, HDG⟩
            case measure => simp [intOf] <;> omega
          · have HE := Aside0.mk (HNO.out (like_bad HPL.out c1 (show k < wdN i by rw [HWW.out]; exact c2) (by rw [HBV.out, dgB]; simp; omega)))
            have H0 := HS.out
            have r0 := blk_cell H0 0
            have r1 := blk_cell H0 1
            have r2 := blk_cell H0 2
            have r3 := blk_cell H0 3
            have r4 := blk_cell H0 4
            have r5 := blk_cell H0 5
            have r6 := blk_cell H0 6
            have f0 := blk_frozen H0 0
            have f1 := blk_frozen H0 1
            have f2 := blk_frozen H0 2
            have f3 := blk_frozen H0 3
            have f4 := blk_frozen H0 4
            have f5 := blk_frozen H0 5
            have f6 := blk_frozen H0 6
            clear H0
            by_cases e : b < 48
            · clear d
              go_wp2_with fail
              refine bodyPost_ret (v := .tuple #[.agg #[.int .i64 0, .int .i64 0, .int .i64 0, .int .i64 0, .int .i64 0, .int .i64 0, .int .i64 0], .bool false]) (by simp [results, Try.results78, go_sem, r0, r1, r2, r3, r4, r5, r6]) rfl ⟨by rw [HE.out], below_set7 HB.out (Nat.le_refl _) _ _ _ _ _ _ _⟩
            · have e2 : 57 < b := by omega
              clear d
              go_wp2_with fail
              refine bodyPost_ret (v := .tuple #[.agg #[.int .i64 0, .int .i64 0, .int .i64 0, .int .i64 0, .int .i64 0, .int .i64 0, .int .i64 0], .bool false]) (by simp [results, Try.results78, go_sem, r0, r1, r2, r3, r4, r5, r6]) rfl ⟨by rw [HE.out], below_set7 HB.out (Nat.le_refl _) _ _ _ _ _ _ _⟩
        · have hkW : k = W := by omega
          have HT2 := Aside0.mk (show wr.heap[w.heap.size + 1]? = some (.cells (arrV (gF P (i + 1) 0)) 138 (0, 0)) by rw [← gF_next, HWW.out, ← hkW]; exact HT.out)
          have HD2 := Aside0.mk (digK_next (by rw [HWW.out, ← hkW]; exact HD.out))
          have HA2 := Aside0.mk (show p + 1 = offN (i + 1) by have := HPP.out; have := HO3.out; omega)
          go_wp2_with fail
          go_roundw
          case rel => first | exact ⟨i + 1, p + 1, by omega, by omega, by go_num, by go_num, HA2, HS, HT2, HW, HB, HD2⟩ | ((repeat apply Exists.intro); exact ⟨⟨i + 1, p + 1, by omega, by omega, by go_num, by go_num, HA2, HS, HT2, HW, HB, HD2⟩, rfl⟩)
          case measure => simp [intOf] <;> omega
    · obtain rfl : i = 7 := by omega
      have hdg := digK_all HPL.out HD.out
      have hlt := like_text HPL.out hdg
      obtain ⟨F0, F1, F2, F3, F4, F5, F6⟩ := fldj_fld P
      have hT := HT.out
      rw [arrV, gF_end P 0 (by omega), gF_end P 1 (by omega), gF_end P 2 (by omega), gF_end P 3 (by omega), gF_end P 4 (by omega), gF_end P 5 (by omega), gF_end P 6 (by omega), F0, F1, F2, F3, F4, F5, F6] at hT
      have hti : timB P = rightB (fld P 0 4) (fld P 5 7) (fld P 8 10) (fld P 11 13) (fld P 14 16) (fld P 17 19) (fld P 20 26) := rfl
      obtain ⟨y, e0⟩ : ∃ x, fld P 0 4 = x := ⟨_, rfl⟩
      obtain ⟨m, e1⟩ : ∃ x, fld P 5 7 = x := ⟨_, rfl⟩
      obtain ⟨d, e2⟩ : ∃ x, fld P 8 10 = x := ⟨_, rfl⟩
      obtain ⟨h, e3⟩ : ∃ x, fld P 11 13 = x := ⟨_, rfl⟩
      obtain ⟨i, e4⟩ : ∃ x, fld P 14 16 = x := ⟨_, rfl⟩
      obtain ⟨s, e5⟩ : ∃ x, fld P 17 19 = x := ⟨_, rfl⟩
      obtain ⟨u, e6⟩ : ∃ x, fld P 20 26 = x := ⟨_, rfl⟩
      rw [e0, e1, e2, e3, e4, e5, e6] at hT hti hlt
      have E0 := Aside0.mk e0
      have E1 := Aside0.mk e1
      have E2 := Aside0.mk e2
      have E3 := Aside0.mk e3
      have E4 := Aside0.mk e4
      have E5 := Aside0.mk e5
      have E6 := Aside0.mk e6
      clear e0 e1 e2 e3 e4 e5 e6
      have HTI := Aside0.mk hti
      have HT7 := Aside0.mk hT
      have HLT := Aside0.mk hlt
      have H0 := HS.out
      have r0 := blk_cell H0 0
      have r1 := blk_cell H0 1
      have r2 := blk_cell H0 2
      have r3 := blk_cell H0 3
      have r4 := blk_cell H0 4
      have r5 := blk_cell H0 5
      have r6 := blk_cell H0 6
      have f0 := blk_frozen H0 0
      have f1 := blk_frozen H0 1
      have f2 := blk_frozen H0 2
      have f3 := blk_frozen H0 3
      have f4 := blk_frozen H0 4
      have f5 := blk_frozen H0 5
      have f6 := blk_frozen H0 6
      clear H0 hdg hlt hT hti F0 F1 F2 F3 F4 F5 F6 c1
      have z0 : (wr).cell? ⟨w.heap.size + 1, 0, none⟩ = some (.int .i64 y) := blk_cell HT7.out 0
      have z1 : (wr).cell? ⟨w.heap.size + 1, 1, none⟩ = some (.int .i64 m) := blk_cell HT7.out 1
      have z2 : (wr).cell? ⟨w.heap.size + 1, 2, none⟩ = some (.int .i64 d) := blk_cell HT7.out 2
      have z3 : (wr).cell? ⟨w.heap.size + 1, 3, none⟩ = some (.int .i64 h) := blk_cell HT7.out 3
      have z4 : (wr).cell? ⟨w.heap.size + 1, 4, none⟩ = some (.int .i64 i) := blk_cell HT7.out 4
      have z5 : (wr).cell? ⟨w.heap.size + 1, 5, none⟩ = some (.int .i64 s) := blk_cell HT7.out 5
      have z6 : (wr).cell? ⟨w.heap.size + 1, 6, none⟩ = some (.int .i64 u) := blk_cell HT7.out 6
      go_wp2_with fail
      refine (ref_Right_calls y m d h i s u _).mono ?_
      rintro e w8 ⟨rfl, hb8⟩
      have HB8 := Aside0.mk (below_step HB.out hb8)
      have HX8 := Aside0.mk (blk_below HT7.out hb8)
      have HS8 := Aside0.mk (blk_below HS.out hb8)
      clear hb8 z0 z1 z2 z3 z4 z5 z6
      obtain ⟨b, hb⟩ : ∃ b, rightB y m d h i s u = b := ⟨_, rfl⟩
      rw [hb] at HTI ⊢
      have HRB := Aside0.mk hb
      clear hb
      have H0 := HS8.out
      have r0 := blk_cell H0 0
      have r1 := blk_cell H0 1
      have r2 := blk_cell H0 2
      have r3 := blk_cell H0 3
      have r4 := blk_cell H0 4
      have r5 := blk_cell H0 5
      have r6 := blk_cell H0 6
      have f0 := blk_frozen H0 0
      have f1 := blk_frozen H0 1
      have f2 := blk_frozen H0 2
      have f3 := blk_frozen H0 3
      have f4 := blk_frozen H0 4
      have f5 := blk_frozen H0 5
      have f6 := blk_frozen H0 6
      have z0 : (w8).cell? ⟨w.heap.size + 1, 0, none⟩ = some (.int .i64 y) := blk_cell HX8.out 0
      have z1 : (w8).cell? ⟨w.heap.size + 1, 1, none⟩ = some (.int .i64 m) := blk_cell HX8.out 1
      have z2 : (w8).cell? ⟨w.heap.size + 1, 2, none⟩ = some (.int .i64 d) := blk_cell HX8.out 2
      have z3 : (w8).cell? ⟨w.heap.size + 1, 3, none⟩ = some (.int .i64 h) := blk_cell HX8.out 3
      have z4 : (w8).cell? ⟨w.heap.size + 1, 4, none⟩ = some (.int .i64 i) := blk_cell HX8.out 4
      have z5 : (w8).cell? ⟨w.heap.size + 1, 5, none⟩ = some (.int .i64 s) := blk_cell HX8.out 5
      have z6 : (w8).cell? ⟨w.heap.size + 1, 6, none⟩ = some (.int .i64 u) := blk_cell HX8.out 6
      clear H0
      cases b with
      | false =>
        have HE := Aside0.mk (parV_no (l := L) (by rw [HGO.out, HTI.out]; simp))
        go_wp2_with fail
        refine bodyPost_ret (v := .tuple #[.agg #[.int .i64 0, .int .i64 0, .int .i64 0, .int .i64 0, .int .i64 0, .int .i64 0, .int .i64 0], .bool false]) (by simp [results, Try.results78, go_sem, r0, r1, r2, r3, r4, r5, r6]) rfl ⟨by rw [HE.out], below_set7 HB8.out (Nat.le_refl _) _ _ _ _ _ _ _⟩
      | true =>
        obtain ⟨lk, hlk⟩ : ∃ b, likeB P formL = b := ⟨_, rfl⟩
        have HLK := Aside0.mk hlk
        obtain ⟨S1, hS1⟩ : ∃ S1, textS y m d h i s u = S1 := ⟨_, rfl⟩
        have heq : (S1.toList == q.toList) = lk := by
          rw [str_eq_iff, ← hlk, Bool.eq_iff_iff, decide_eq_true_eq, ← HLT.out]
          constructor
          · intro h
            have h2 := congrArg bytesOf h
            rw [HQB.out, ← hS1, textS, bytesOf_strOf (textL_isB HRB.out)] at h2
            exact h2
          · intro h
            rw [← hS1, textS, h, ← HQB.out, strOf_bytesOf]
        have hne : (S1.toList != q.toList) = !lk := by rw [← heq]; rfl
        have HS1 := Aside0.mk hS1
        clear hlk hS1
        go_wp2_with fail
        refine (ref_Text_calls y m d h i s u _ HRB.out).mono ?_
        rintro e w9 ⟨rfl, hb9⟩
        rw [HS1.out]
        have HB9 := Aside0.mk (below_step HB8.out hb9)
        have HX9 := Aside0.mk (blk_below HX8.out hb9)
        have H0 := blk_below HS8.out hb9
        clear hb9 r0 f0 r1 f1 r2 f2 r3 f3 r4 f4 r5 f5 r6 f6 z0 z1 z2 z3 z4 z5 z6
        have r0 := blk_cell H0 0
        have r1 := blk_cell H0 1
        have r2 := blk_cell H0 2
        have r3 := blk_cell H0 3
        have r4 := blk_cell H0 4
        have r5 := blk_cell H0 5
        have r6 := blk_cell H0 6
        have f0 := blk_frozen H0 0
        have f1 := blk_frozen H0 1
        have f2 := blk_frozen H0 2
        have f3 := blk_frozen H0 3
        have f4 := blk_frozen H0 4
        have f5 := blk_frozen H0 5
        have f6 := blk_frozen H0 6
        have z0 : (w9).cell? ⟨w.heap.size + 1, 0, none⟩ = some (.int .i64 y) := blk_cell HX9.out 0
        have z1 : (w9).cell? ⟨w.heap.size + 1, 1, none⟩ = some (.int .i64 m) := blk_cell HX9.out 1
        have z2 : (w9).cell? ⟨w.heap.size + 1, 2, none⟩ = some (.int .i64 d) := blk_cell HX9.out 2
        have z3 : (w9).cell? ⟨w.heap.size + 1, 3, none⟩ = some (.int .i64 h) := blk_cell HX9.out 3
        have z4 : (w9).cell? ⟨w.heap.size + 1, 4, none⟩ = some (.int .i64 i) := blk_cell HX9.out 4
        have z5 : (w9).cell? ⟨w.heap.size + 1, 5, none⟩ = some (.int .i64 s) := blk_cell HX9.out 5
        have z6 : (w9).cell? ⟨w.heap.size + 1, 6, none⟩ = some (.int .i64 u) := blk_cell HX9.out 6
        clear H0
        cases lk with
        | false =>
          have HE := Aside0.mk (HNO.out HLK.out)
          go_wp2_with fail
          refine bodyPost_ret (v := .tuple #[.agg #[.int .i64 0, .int .i64 0, .int .i64 0, .int .i64 0, .int .i64 0, .int .i64 0, .int .i64 0], .bool false]) (by simp [results, Try.results78, go_sem, r0, r1, r2, r3, r4, r5, r6]) rfl ⟨by rw [HE.out], below_set7 HB9.out (Nat.le_refl _) _ _ _ _ _ _ _⟩
        | true =>
          have HE := Aside0.mk (parV_yes (by rw [HGO.out, HLK.out, HTI.out]; rfl) HP.out E0.out E1.out E2.out E3.out E4.out E5.out E6.out)
          go_wp2_with fail
          refine bodyPost_ret (v := .tuple #[.agg #[.int .i64 y, .int .i64 m, .int .i64 d, .int .i64 h, .int .i64 i, .int .i64 s, .int .i64 u], .bool true]) (by simp [results, Try.results78, go_sem, r0, r1, r2, r3, r4, r5, r6]) rfl ⟨by rw [HE.out], below_set7 HB9.out (Nat.le_refl _) _ _ _ _ _ _ _⟩
set_option maxHeartbeats 8000000 in
set_option maxRecDepth 100000 in
theorem ref_Parse_19 (s : ByteArray) (w : World) (hN : s.size = 19) :
    Calls Try.prog 78 #[.string s] w fun e w' => e = .returned (parV (bytesOf s)) ∧ Below w.heap.size w w' := by
  have hn26 : s.size ≤ 26 := by omega
  have hpad := pad_str hn26
  have hPL := padP_len (l := bytesOf s) (by rw [bytesOf_length]; exact hn26)
  have HGO := Aside0.mk (show goodP (bytesOf s) = (likeB (padP (bytesOf s)) formL && timB (padP (bytesOf s))) by rw [goodP, bytesOf_length, hN]; rfl)
  obtain ⟨L, hL⟩ : ∃ l, bytesOf s = l := ⟨_, rfl⟩
  rw [hL] at hpad hPL HGO ⊢
  obtain ⟨P, hP⟩ : ∃ P, padP L = P := ⟨_, rfl⟩
  have HP := Aside0.mk hP
  rw [hP] at hpad hPL HGO
  have HPL := Aside0.mk hPL
  obtain ⟨q, hq⟩ : ∃ q, s ++ (⟨#[48, 48, 48, 48, 45, 48, 48, 45, 48, 48, 32, 48, 48, 58, 48, 48, 58, 48, 48, 46, 48, 48, 48, 48, 48, 48]⟩ : ByteArray).extract s.size 26 = q := ⟨_, rfl⟩
  have hqb : bytesOf q = P := by rw [← hq]; exact hpad
  have hqs : q.size = 26 := by rw [← bytesOf_length, hqb, hPL]
  have HQB := Aside0.mk hqb
  have HBT := Aside0.mk (show ∀ k, ∀ h : k < q.size, ((q[k]'h).toNat : Int) = P.getD k 0 from fun k => by rw [← hqb]; exact bt_k q k)
  have HIB := Aside0.mk (show isB P by rw [← hqb]; exact bytesOf_isB q)
  rw [hN] at hq
  have HQ := Aside0.mk hq
  have hz26 : (⟨#[48, 48, 48, 48, 45, 48, 48, 45, 48, 48, 32, 48, 48, 58, 48, 48, 58, 48, 48, 46, 48, 48, 48, 48, 48, 48]⟩ : ByteArray).size = 26 := rfl
  have HNO := Aside0.mk (show likeB P formL = false → parV L = .tuple #[.agg #[.int .i64 0, .int .i64 0, .int .i64 0, .int .i64 0, .int .i64 0, .int .i64 0, .int .i64 0], .bool false] from fun h => parV_no (by rw [HGO.out, h]; rfl))
  have HS1 := Aside0.mk (blk_alloc (blk_alloc (blk_new w (.cells #[.int .i64 0, .int .i64 0, .int .i64 0, .int .i64 0, .int .i64 0, .int .i64 0, .int .i64 0] 138)) (.cells #[.int .i64 0, .int .i64 0, .int .i64 0, .int .i64 0, .int .i64 0, .int .i64 0, .int .i64 0] 138)) (.cells #[.int .i64 4, .int .i64 2, .int .i64 2, .int .i64 2, .int .i64 2, .int .i64 2, .int .i64 6] 3))
  have HT1 := Aside0.mk (blk_alloc (blk_new (w.alloc (.cells #[.int .i64 0, .int .i64 0, .int .i64 0, .int .i64 0, .int .i64 0, .int .i64 0, .int .i64 0] 138)) (.cells #[.int .i64 0, .int .i64 0, .int .i64 0, .int .i64 0, .int .i64 0, .int .i64 0, .int .i64 0] 138)) (.cells #[.int .i64 4, .int .i64 2, .int .i64 2, .int .i64 2, .int .i64 2, .int .i64 2, .int .i64 6] 3))
  have HW1 := Aside0.mk (blk_new ((w.alloc (.cells #[.int .i64 0, .int .i64 0, .int .i64 0, .int .i64 0, .int .i64 0, .int .i64 0, .int .i64 0] 138)).alloc (.cells #[.int .i64 0, .int .i64 0, .int .i64 0, .int .i64 0, .int .i64 0, .int .i64 0, .int .i64 0] 138)) (.cells #[.int .i64 4, .int .i64 2, .int .i64 2, .int .i64 2, .int .i64 2, .int .i64 2, .int .i64 6] 3))
  rw [show (w.alloc (.cells #[.int .i64 0, .int .i64 0, .int .i64 0, .int .i64 0, .int .i64 0, .int .i64 0, .int .i64 0] 138)).heap.size = w.heap.size + 1 from Array.size_push _] at HT1
  rw [show ((w.alloc (.cells #[.int .i64 0, .int .i64 0, .int .i64 0, .int .i64 0, .int .i64 0, .int .i64 0, .int .i64 0] 138)).alloc (.cells #[.int .i64 0, .int .i64 0, .int .i64 0, .int .i64 0, .int .i64 0, .int .i64 0, .int .i64 0] 138)).heap.size = w.heap.size + 1 + 1 by rw [show ((w.alloc (.cells #[.int .i64 0, .int .i64 0, .int .i64 0, .int .i64 0, .int .i64 0, .int .i64 0, .int .i64 0] 138)).alloc (.cells #[.int .i64 0, .int .i64 0, .int .i64 0, .int .i64 0, .int .i64 0, .int .i64 0, .int .i64 0] 138)).heap.size = (w.alloc (.cells #[.int .i64 0, .int .i64 0, .int .i64 0, .int .i64 0, .int .i64 0, .int .i64 0, .int .i64 0] 138)).heap.size + 1 from Array.size_push _, show (w.alloc (.cells #[.int .i64 0, .int .i64 0, .int .i64 0, .int .i64 0, .int .i64 0, .int .i64 0, .int .i64 0] 138)).heap.size = w.heap.size + 1 from Array.size_push _]] at HW1
  have HB1 := Aside0.mk (below_alloc (below_alloc (below_alloc (Below.refl w.heap.size w) (.cells #[.int .i64 0, .int .i64 0, .int .i64 0, .int .i64 0, .int .i64 0, .int .i64 0, .int .i64 0] 138)) (.cells #[.int .i64 0, .int .i64 0, .int .i64 0, .int .i64 0, .int .i64 0, .int .i64 0, .int .i64 0] 138)) (.cells #[.int .i64 4, .int .i64 2, .int .i64 2, .int .i64 2, .int .i64 2, .int .i64 2, .int .i64 6] 3))
  clear hpad hPL hP hq hqb hL hn26
  go_enter Try.func78, Try.ntmps78
  go_upto_region 8 with (fail)
  rw [HQ.out]
  go_wp2_with fail
  go_loopw [6, 8, 9] (fun v6 v8 v9 w' => ∃ (i a : Nat), i ≤ 7 ∧ a ≤ 27 ∧ v8 = .int .i64 i ∧ v6 = .int .i64 (a : Int) ∧ Aside0 (a = offN i) ∧ Aside0 (w'.heap[w.heap.size]? = some (.cells #[.int .i64 0, .int .i64 0, .int .i64 0, .int .i64 0, .int .i64 0, .int .i64 0, .int .i64 0] 138 (0, 0))) ∧ Aside0 (w'.heap[w.heap.size + 1]? = some (.cells (arrV (gF P i 0)) 138 (0, 0))) ∧ Aside0 (w'.heap[w.heap.size + 1 + 1]? = some (.cells #[.int .i64 4, .int .i64 2, .int .i64 2, .int .i64 2, .int .i64 2, .int .i64 2, .int .i64 6] 3 (0, 0))) ∧ Aside0 (Below w.heap.size w w') ∧ Aside0 (digK P i 0)) (fun _ v8 _ _ => 7 - (intOf v8).toNat)
  case atStart => exact ⟨0, 0, by omega, by omega, rfl, by simp, ⟨rfl⟩, HS1, ⟨by rw [gF_start]; exact HT1.out⟩, HW1, HB1, ⟨⟨fun j hj => by omega, fun x hx => by omega⟩⟩⟩
  case round =>
    clear HS1 HT1 HW1 HB1
    obtain ⟨i, a, hi, ha, rfl, rfl, HA, HS, HT, HW, HB, HD⟩ := hrel
    by_cases c1 : i < 7
    · obtain ⟨o1, o2, o3, o4⟩ := off_facts i c1
      have z7 := wd_get i c1
      have HWD := Aside0.mk (show ∃ W, wdN i = W from ⟨_, rfl⟩)
      obtain ⟨W, hW⟩ := HWD.out
      rw [hW] at o1 o2 o3 z7
      have HWW := Aside0.mk hW
      have HO3 := Aside0.mk o3
      have HO1 := Aside0.mk o1
      have hZ := (blk_cell HW.out i).trans z7
      have HZW := Aside0.mk z7
      clear o1 o3 o4 hW HWD z7
      have t33 : decide ((i : Int) < 7) = true := by simp; omega
      go_wp2_with fail
      go_loopw [6, 9] (fun v6 v9 w' => ∃ (k p : Nat), k ≤ W ∧ p ≤ 26 ∧ v9 = .int .i64 k ∧ v6 = .int .i64 (p : Int) ∧ Aside0 (p = offN i + k) ∧ Aside0 (w'.heap[w.heap.size]? = some (.cells #[.int .i64 0, .int .i64 0, .int .i64 0, .int .i64 0, .int .i64 0, .int .i64 0, .int .i64 0] 138 (0, 0))) ∧ Aside0 (w'.heap[w.heap.size + 1]? = some (.cells (arrV (gF P i k)) 138 (0, 0))) ∧ Aside0 (w'.heap[w.heap.size + 1 + 1]? = some (.cells #[.int .i64 4, .int .i64 2, .int .i64 2, .int .i64 2, .int .i64 2, .int .i64 2, .int .i64 6] 3 (0, 0))) ∧ Aside0 (Below w.heap.size w w') ∧ Aside0 (digK P i k)) (fun _ v9 _ => W - (intOf v9).toNat)
      case atStart => exact ⟨0, a, by omega, by have := HA.out; have := HO1.out; omega, rfl, rfl, ⟨HA.out⟩, HS, HT, HW, HB, HD⟩
      case round =>
        clear HS HT HW HB HD hZ
        obtain ⟨k, p, hk, hp, rfl, rfl, HPP, HS, HT, HW, HB, HD⟩ := hrel
        have hZ := (blk_cell HW.out i).trans HZW.out
        by_cases c2 : k < W
        · have hp25 : p < 26 := by have := HPP.out; have := HO1.out; omega
          obtain ⟨b, hb⟩ : ∃ b, P.getD p 0 = b := ⟨_, rfl⟩
          have hbt : ∀ h : p < q.size, ((q[p]'h).toNat : Int) = b := by rw [← hb]; exact HBT.out p
          have hb0 := HIB.out.getD p
          rw [hb] at hb0
          obtain ⟨hb0, hb1⟩ := hb0
          have HBV := Aside0.mk (show P.getD (offN i + k) 0 = b by rw [← HPP.out]; exact hb)
          clear hb
          by_cases d : 48 ≤ b ∧ b ≤ 57
          · obtain ⟨d1, d2⟩ := d
            have HDG := Aside0.mk (digK_more HD.out (show dgB (P.getD (offN i + k) 0) = true by rw [HBV.out, dgB]; simp; omega))
            have hxb := digK_bound HPL.out HD.out (by have := HO1.out; omega)
            have h6 := pow6 k (by omega)
            have hg := gF_step HPL.out (i := i) (k := k) (by have := HPP.out; omega)
            rw [HBV.out] at hg
            have z1 := (blk_cell HT.out i).trans (arrV_get (gF P i k) i c1)
            rw [gF_at P i k] at hg z1
            obtain ⟨x, hx⟩ : ∃ x, numD ((P.drop (offN i)).take k) = x := ⟨_, rfl⟩
            rw [hx] at hxb hg z1
            obtain ⟨x0, x1⟩ := hxb
            have x2 : x ≤ 1000000 := by omega
            have f1 := blk_frozen HT.out i
            have HT2 := Aside0.mk (show (wr.setCell ⟨w.heap.size + 1, i, none⟩ (.int .i64 (x * 10 + (b - 48)))).heap[w.heap.size + 1]? = some (.cells (arrV (gF P i (k + 1))) 138 (0, 0)) by
              rw [blk_set HT.out i (.int .i64 (x * 10 + (b - 48))), arrV_set (gF P i k) (gF P i (k + 1)) i c1 _ hg (fun j hj => gF_other P hj)])
            have HS2 := Aside0.mk (blk_far HS.out (p := ⟨w.heap.size + 1, i, none⟩) (by show w.heap.size ≠ w.heap.size + 1; omega) (.int .i64 (x * 10 + (b - 48))))
            have HW2 := Aside0.mk (blk_far HW.out (p := ⟨w.heap.size + 1, i, none⟩) (by show w.heap.size + 1 + 1 ≠ w.heap.size + 1; omega) (.int .i64 (x * 10 + (b - 48))))
            have HB2 := Aside0.mk (cbelow_set HB.out ⟨w.heap.size + 1, i, none⟩ (by show w.heap.size ≤ w.heap.size + 1; omega) (.int .i64 (x * 10 + (b - 48))))
            have w1 : IntKind.i64.wrap (x * 10) = x * 10 := by rw [IntKind.wrap_i64]; omega
            have w2 : IntKind.u8.wrap (b - 48) = b - 48 := by rw [IntKind.wrap_u8]; omega
            have w3 : IntKind.i64.wrap (b - 48) = b - 48 := by rw [IntKind.wrap_i64]; omega
            have w4 : IntKind.i64.wrap (x * 10 + (b - 48)) = x * 10 + (b - 48) := by rw [IntKind.wrap_i64]; omega
            have i0 : (0 : Int) ≤ (i : Int) := by omega
            have i7 : (i : Int) < 7 := by omega
            clear hg hx h6 x1
            go_wp2_with fail
            refine start_ (n := 13) (S := fun w' => w'.cell? ⟨w.heap.size + 1, i, none⟩ = some (.int .i64 x)) (ds := [12]) #[false, false, false, false, false, false, false, false, false, false, false, false, false] (by kernel_rfl) rfl rfl (z1) (fun hHeld => ?_)
            refine pure_ (i := 0) (N := some 55) (v := ?_) (a' := ?_) #[true, false, false, false, false, false, false, false, false, false, false, false, false] rfl rfl (by kernel_rfl) (fun _ _ _ h => h) (Or.inl ⟨by rfl, ?_⟩) ?_ ?_
            rotate_left
            · intro w'
              go_simp
              with_reducible rfl
            rotate_left
            · simp only [Act.put, List.setIfInBounds_toArray, List.set_cons_zero, List.set_cons_succ, i64_w, i32_w]
              rfl
            refine pure_ (i := 1) (N := some 56) (v := ?_) (a' := ?_) #[true, true, false, false, false, false, false, false, false, false, false, false, false] rfl rfl (by kernel_rfl) (fun _ _ _ h => h) (Or.inl ⟨by rfl, ?_⟩) ?_ ?_
            rotate_left
            · intro w'
              go_simp
              with_reducible rfl
            rotate_left
            · simp only [Act.put, List.setIfInBounds_toArray, List.set_cons_zero, List.set_cons_succ, i64_w, i32_w]
              rfl
            refine pure_ (i := 2) (N := some 57) (v := ?_) (a' := ?_) #[true, true, true, false, false, false, false, false, false, false, false, false, false] rfl rfl (by kernel_rfl) (fun _ _ _ h => h) (Or.inl ⟨by rfl, ?_⟩) ?_ ?_
            rotate_left
            · intro w'
              go_simp
              with_reducible rfl
            rotate_left
            · simp only [Act.put, List.setIfInBounds_toArray, List.set_cons_zero, List.set_cons_succ, i64_w, i32_w]
              rfl
            refine pure_ (i := 5) (N := some 60) (v := ?_) (a' := ?_) #[true, true, true, false, false, true, false, false, false, false, false, false, false] rfl rfl (by kernel_rfl) (fun _ _ _ h => h) (Or.inl ⟨by rfl, ?_⟩) ?_ ?_
            rotate_left
            · intro w'
              go_simp
              with_reducible rfl
            rotate_left
            · simp only [Act.put, List.setIfInBounds_toArray, List.set_cons_zero, List.set_cons_succ, i64_w, i32_w]
              rfl
            refine pure_ (i := 6) (N := some 61) (v := ?_) (a' := ?_) #[true, true, true, false, false, true, true, false, false, false, false, false, false] rfl rfl (by kernel_rfl) (fun _ _ _ h => h) (Or.inl ⟨by rfl, ?_⟩) ?_ ?_
            rotate_left
            · intro w'
              go_simp
              with_reducible rfl
            rotate_left
            · simp only [Act.put, List.setIfInBounds_toArray, List.set_cons_zero, List.set_cons_succ, i64_w, i32_w]
              rfl
            refine take_ (i := 3) (N := some 58) (v := ?_) (a' := ?_) #[true, true, true, true, false, true, true, false, false, false, false, false, false] rfl rfl (by kernel_rfl) (fun _ _ _ h => h) (Or.inl ⟨by rfl, ?_⟩) hHeld ?_ ?_
            rotate_left
            · intro w' s0
              go_simp
              with_reducible rfl
            rotate_left
            · simp only [Act.put, List.setIfInBounds_toArray, List.set_cons_zero, List.set_cons_succ, i64_w, i32_w]
              rfl
            refine pure_ (i := 4) (N := some 59) (v := ?_) (a' := ?_) #[true, true, true, true, true, true, true, false, false, false, false, false, false] rfl rfl (by kernel_rfl) (fun _ _ _ h => h) (Or.inl ⟨by rfl, ?_⟩) ?_ ?_
            rotate_left
            · intro w'
              go_simp
              with_reducible rfl
            rotate_left
            · simp only [Act.put, List.setIfInBounds_toArray, List.set_cons_zero, List.set_cons_succ, i64_w, i32_w]
              rfl
            refine take_ (i := 7) (N := some 62) (v := ?_) (a' := ?_) #[true, true, true, true, true, true, true, true, false, false, false, false, false] rfl rfl (by kernel_rfl) (fun _ _ _ h => h) (Or.inl ⟨by rfl, ?_⟩) hHeld ?_ ?_
            rotate_left
            · intro w' s0
              go_simp
              with_reducible rfl
            rotate_left
            · simp only [Act.put, List.setIfInBounds_toArray, List.set_cons_zero, List.set_cons_succ, i64_w, i32_w]
              rfl
            refine pure_ (i := 8) (N := some 63) (v := ?_) (a' := ?_) #[true, true, true, true, true, true, true, true, true, false, false, false, false] rfl rfl (by kernel_rfl) (fun _ _ _ h => h) (Or.inl ⟨by rfl, ?_⟩) ?_ ?_
            rotate_left
            · intro w'
              go_simp
              with_reducible rfl
            rotate_left
            · simp only [Act.put, List.setIfInBounds_toArray, List.set_cons_zero, List.set_cons_succ, i64_w, i32_w]
              rfl
            refine pure_ (i := 9) (N := some 64) (v := ?_) (a' := ?_) #[true, true, true, true, true, true, true, true, true, true, false, false, false] rfl rfl (by kernel_rfl) (fun _ _ _ h => h) (Or.inl ⟨by rfl, ?_⟩) ?_ ?_
            rotate_left
            · intro w'
              go_simp
              with_reducible rfl
            rotate_left
            · simp only [Act.put, List.setIfInBounds_toArray, List.set_cons_zero, List.set_cons_succ, i64_w, i32_w]
              rfl
            refine pure_ (i := 10) (N := some 65) (v := ?_) (a' := ?_) #[true, true, true, true, true, true, true, true, true, true, true, false, false] rfl rfl (by kernel_rfl) (fun _ _ _ h => h) (Or.inl ⟨by rfl, ?_⟩) ?_ ?_
            rotate_left
            · intro w'
              go_simp
              with_reducible rfl
            rotate_left
            · simp only [Act.put, List.setIfInBounds_toArray, List.set_cons_zero, List.set_cons_succ, i64_w, i32_w]
              rfl
            refine pure_ (i := 11) (N := some 66) (v := ?_) (a' := ?_) #[true, true, true, true, true, true, true, true, true, true, true, true, false] rfl rfl (by kernel_rfl) (fun _ _ _ h => h) (Or.inl ⟨by rfl, ?_⟩) ?_ ?_
            rotate_left
            · intro w'
              go_simp
              with_reducible rfl
            rotate_left
            · simp only [Act.put, List.setIfInBounds_toArray, List.set_cons_zero, List.set_cons_succ, i64_w, i32_w]
              rfl
            refine last_ (i := 12) (N := none) #[true, true, true, true, true, true, true, true, true, true, true, true, true] rfl rfl (by kernel_rfl) (by decide) (fun K hK => ?_)
            refine skip_ (w1 := ?_) (by rfl) rfl ?_ ?_
            rotate_left
            · go_simp
              rfl
            refine hK.out _ _ ?_
            clear hK K
            refine done_ (by kernel_rfl) ?_
            clear w1 w2 w3 w4
            go_wp2_with fail
            go_roundw
            case rel => exact ⟨k + 1, p + 1, by omega, by omega, by go_num, by go_num, ⟨by have := HPP.out; omega⟩, ⟨blk_drew HS2.out⟩, ⟨blk_drew HT2.out⟩, ⟨blk_drew HW2.out⟩, ⟨below_drew HB2.out⟩, HDG⟩
            case measure => simp [intOf] <;> omega
          · have HE := Aside0.mk (HNO.out (like_bad HPL.out c1 (show k < wdN i by rw [HWW.out]; exact c2) (by rw [HBV.out, dgB]; simp; omega)))
            have H0 := HS.out
            have r0 := blk_cell H0 0
            have r1 := blk_cell H0 1
            have r2 := blk_cell H0 2
            have r3 := blk_cell H0 3
            have r4 := blk_cell H0 4
            have r5 := blk_cell H0 5
            have r6 := blk_cell H0 6
            have f0 := blk_frozen H0 0
            have f1 := blk_frozen H0 1
            have f2 := blk_frozen H0 2
            have f3 := blk_frozen H0 3
            have f4 := blk_frozen H0 4
            have f5 := blk_frozen H0 5
            have f6 := blk_frozen H0 6
            clear H0
            by_cases e : b < 48
            · clear d
              go_wp2_with fail
              refine bodyPost_ret (v := .tuple #[.agg #[.int .i64 0, .int .i64 0, .int .i64 0, .int .i64 0, .int .i64 0, .int .i64 0, .int .i64 0], .bool false]) (by simp [results, Try.results78, go_sem, r0, r1, r2, r3, r4, r5, r6]) rfl ⟨by rw [HE.out], below_set7 HB.out (Nat.le_refl _) _ _ _ _ _ _ _⟩
            · have e2 : 57 < b := by omega
              clear d
              go_wp2_with fail
              refine bodyPost_ret (v := .tuple #[.agg #[.int .i64 0, .int .i64 0, .int .i64 0, .int .i64 0, .int .i64 0, .int .i64 0, .int .i64 0], .bool false]) (by simp [results, Try.results78, go_sem, r0, r1, r2, r3, r4, r5, r6]) rfl ⟨by rw [HE.out], below_set7 HB.out (Nat.le_refl _) _ _ _ _ _ _ _⟩
        · have hkW : k = W := by omega
          have HT2 := Aside0.mk (show wr.heap[w.heap.size + 1]? = some (.cells (arrV (gF P (i + 1) 0)) 138 (0, 0)) by rw [← gF_next, HWW.out, ← hkW]; exact HT.out)
          have HD2 := Aside0.mk (digK_next (by rw [HWW.out, ← hkW]; exact HD.out))
          have HA2 := Aside0.mk (show p + 1 = offN (i + 1) by have := HPP.out; have := HO3.out; omega)
          go_wp2_with fail
          go_roundw
          case rel => first | exact ⟨i + 1, p + 1, by omega, by omega, by go_num, by go_num, HA2, HS, HT2, HW, HB, HD2⟩ | ((repeat apply Exists.intro); exact ⟨⟨i + 1, p + 1, by omega, by omega, by go_num, by go_num, HA2, HS, HT2, HW, HB, HD2⟩, rfl⟩)
          case measure => simp [intOf] <;> omega
    · obtain rfl : i = 7 := by omega
      have hdg := digK_all HPL.out HD.out
      have hlt := like_text HPL.out hdg
      obtain ⟨F0, F1, F2, F3, F4, F5, F6⟩ := fldj_fld P
      have hT := HT.out
      rw [arrV, gF_end P 0 (by omega), gF_end P 1 (by omega), gF_end P 2 (by omega), gF_end P 3 (by omega), gF_end P 4 (by omega), gF_end P 5 (by omega), gF_end P 6 (by omega), F0, F1, F2, F3, F4, F5, F6] at hT
      have hti : timB P = rightB (fld P 0 4) (fld P 5 7) (fld P 8 10) (fld P 11 13) (fld P 14 16) (fld P 17 19) (fld P 20 26) := rfl
      obtain ⟨y, e0⟩ : ∃ x, fld P 0 4 = x := ⟨_, rfl⟩
      obtain ⟨m, e1⟩ : ∃ x, fld P 5 7 = x := ⟨_, rfl⟩
      obtain ⟨d, e2⟩ : ∃ x, fld P 8 10 = x := ⟨_, rfl⟩
      obtain ⟨h, e3⟩ : ∃ x, fld P 11 13 = x := ⟨_, rfl⟩
      obtain ⟨i, e4⟩ : ∃ x, fld P 14 16 = x := ⟨_, rfl⟩
      obtain ⟨s, e5⟩ : ∃ x, fld P 17 19 = x := ⟨_, rfl⟩
      obtain ⟨u, e6⟩ : ∃ x, fld P 20 26 = x := ⟨_, rfl⟩
      rw [e0, e1, e2, e3, e4, e5, e6] at hT hti hlt
      have E0 := Aside0.mk e0
      have E1 := Aside0.mk e1
      have E2 := Aside0.mk e2
      have E3 := Aside0.mk e3
      have E4 := Aside0.mk e4
      have E5 := Aside0.mk e5
      have E6 := Aside0.mk e6
      clear e0 e1 e2 e3 e4 e5 e6
      have HTI := Aside0.mk hti
      have HT7 := Aside0.mk hT
      have HLT := Aside0.mk hlt
      have H0 := HS.out
      have r0 := blk_cell H0 0
      have r1 := blk_cell H0 1
      have r2 := blk_cell H0 2
      have r3 := blk_cell H0 3
      have r4 := blk_cell H0 4
      have r5 := blk_cell H0 5
      have r6 := blk_cell H0 6
      have f0 := blk_frozen H0 0
      have f1 := blk_frozen H0 1
      have f2 := blk_frozen H0 2
      have f3 := blk_frozen H0 3
      have f4 := blk_frozen H0 4
      have f5 := blk_frozen H0 5
      have f6 := blk_frozen H0 6
      clear H0 hdg hlt hT hti F0 F1 F2 F3 F4 F5 F6 c1
      have z0 : (wr).cell? ⟨w.heap.size + 1, 0, none⟩ = some (.int .i64 y) := blk_cell HT7.out 0
      have z1 : (wr).cell? ⟨w.heap.size + 1, 1, none⟩ = some (.int .i64 m) := blk_cell HT7.out 1
      have z2 : (wr).cell? ⟨w.heap.size + 1, 2, none⟩ = some (.int .i64 d) := blk_cell HT7.out 2
      have z3 : (wr).cell? ⟨w.heap.size + 1, 3, none⟩ = some (.int .i64 h) := blk_cell HT7.out 3
      have z4 : (wr).cell? ⟨w.heap.size + 1, 4, none⟩ = some (.int .i64 i) := blk_cell HT7.out 4
      have z5 : (wr).cell? ⟨w.heap.size + 1, 5, none⟩ = some (.int .i64 s) := blk_cell HT7.out 5
      have z6 : (wr).cell? ⟨w.heap.size + 1, 6, none⟩ = some (.int .i64 u) := blk_cell HT7.out 6
      go_wp2_with fail
      refine (ref_Right_calls y m d h i s u _).mono ?_
      rintro e w8 ⟨rfl, hb8⟩
      have HB8 := Aside0.mk (below_step HB.out hb8)
      have HX8 := Aside0.mk (blk_below HT7.out hb8)
      have HS8 := Aside0.mk (blk_below HS.out hb8)
      clear hb8 z0 z1 z2 z3 z4 z5 z6
      obtain ⟨b, hb⟩ : ∃ b, rightB y m d h i s u = b := ⟨_, rfl⟩
      rw [hb] at HTI ⊢
      have HRB := Aside0.mk hb
      clear hb
      have H0 := HS8.out
      have r0 := blk_cell H0 0
      have r1 := blk_cell H0 1
      have r2 := blk_cell H0 2
      have r3 := blk_cell H0 3
      have r4 := blk_cell H0 4
      have r5 := blk_cell H0 5
      have r6 := blk_cell H0 6
      have f0 := blk_frozen H0 0
      have f1 := blk_frozen H0 1
      have f2 := blk_frozen H0 2
      have f3 := blk_frozen H0 3
      have f4 := blk_frozen H0 4
      have f5 := blk_frozen H0 5
      have f6 := blk_frozen H0 6
      have z0 : (w8).cell? ⟨w.heap.size + 1, 0, none⟩ = some (.int .i64 y) := blk_cell HX8.out 0
      have z1 : (w8).cell? ⟨w.heap.size + 1, 1, none⟩ = some (.int .i64 m) := blk_cell HX8.out 1
      have z2 : (w8).cell? ⟨w.heap.size + 1, 2, none⟩ = some (.int .i64 d) := blk_cell HX8.out 2
      have z3 : (w8).cell? ⟨w.heap.size + 1, 3, none⟩ = some (.int .i64 h) := blk_cell HX8.out 3
      have z4 : (w8).cell? ⟨w.heap.size + 1, 4, none⟩ = some (.int .i64 i) := blk_cell HX8.out 4
      have z5 : (w8).cell? ⟨w.heap.size + 1, 5, none⟩ = some (.int .i64 s) := blk_cell HX8.out 5
      have z6 : (w8).cell? ⟨w.heap.size + 1, 6, none⟩ = some (.int .i64 u) := blk_cell HX8.out 6
      clear H0
      cases b with
      | false =>
        have HE := Aside0.mk (parV_no (l := L) (by rw [HGO.out, HTI.out]; simp))
        go_wp2_with fail
        refine bodyPost_ret (v := .tuple #[.agg #[.int .i64 0, .int .i64 0, .int .i64 0, .int .i64 0, .int .i64 0, .int .i64 0, .int .i64 0], .bool false]) (by simp [results, Try.results78, go_sem, r0, r1, r2, r3, r4, r5, r6]) rfl ⟨by rw [HE.out], below_set7 HB8.out (Nat.le_refl _) _ _ _ _ _ _ _⟩
      | true =>
        obtain ⟨lk, hlk⟩ : ∃ b, likeB P formL = b := ⟨_, rfl⟩
        have HLK := Aside0.mk hlk
        obtain ⟨S1, hS1⟩ : ∃ S1, textS y m d h i s u = S1 := ⟨_, rfl⟩
        have heq : (S1.toList == q.toList) = lk := by
          rw [str_eq_iff, ← hlk, Bool.eq_iff_iff, decide_eq_true_eq, ← HLT.out]
          constructor
          · intro h
            have h2 := congrArg bytesOf h
            rw [HQB.out, ← hS1, textS, bytesOf_strOf (textL_isB HRB.out)] at h2
            exact h2
          · intro h
            rw [← hS1, textS, h, ← HQB.out, strOf_bytesOf]
        have hne : (S1.toList != q.toList) = !lk := by rw [← heq]; rfl
        have HS1 := Aside0.mk hS1
        clear hlk hS1
        go_wp2_with fail
        refine (ref_Text_calls y m d h i s u _ HRB.out).mono ?_
        rintro e w9 ⟨rfl, hb9⟩
        rw [HS1.out]
        have HB9 := Aside0.mk (below_step HB8.out hb9)
        have HX9 := Aside0.mk (blk_below HX8.out hb9)
        have H0 := blk_below HS8.out hb9
        clear hb9 r0 f0 r1 f1 r2 f2 r3 f3 r4 f4 r5 f5 r6 f6 z0 z1 z2 z3 z4 z5 z6
        have r0 := blk_cell H0 0
        have r1 := blk_cell H0 1
        have r2 := blk_cell H0 2
        have r3 := blk_cell H0 3
        have r4 := blk_cell H0 4
        have r5 := blk_cell H0 5
        have r6 := blk_cell H0 6
        have f0 := blk_frozen H0 0
        have f1 := blk_frozen H0 1
        have f2 := blk_frozen H0 2
        have f3 := blk_frozen H0 3
        have f4 := blk_frozen H0 4
        have f5 := blk_frozen H0 5
        have f6 := blk_frozen H0 6
        have z0 : (w9).cell? ⟨w.heap.size + 1, 0, none⟩ = some (.int .i64 y) := blk_cell HX9.out 0
        have z1 : (w9).cell? ⟨w.heap.size + 1, 1, none⟩ = some (.int .i64 m) := blk_cell HX9.out 1
        have z2 : (w9).cell? ⟨w.heap.size + 1, 2, none⟩ = some (.int .i64 d) := blk_cell HX9.out 2
        have z3 : (w9).cell? ⟨w.heap.size + 1, 3, none⟩ = some (.int .i64 h) := blk_cell HX9.out 3
        have z4 : (w9).cell? ⟨w.heap.size + 1, 4, none⟩ = some (.int .i64 i) := blk_cell HX9.out 4
        have z5 : (w9).cell? ⟨w.heap.size + 1, 5, none⟩ = some (.int .i64 s) := blk_cell HX9.out 5
        have z6 : (w9).cell? ⟨w.heap.size + 1, 6, none⟩ = some (.int .i64 u) := blk_cell HX9.out 6
        clear H0
        cases lk with
        | false =>
          have HE := Aside0.mk (HNO.out HLK.out)
          go_wp2_with fail
          refine bodyPost_ret (v := .tuple #[.agg #[.int .i64 0, .int .i64 0, .int .i64 0, .int .i64 0, .int .i64 0, .int .i64 0, .int .i64 0], .bool false]) (by simp [results, Try.results78, go_sem, r0, r1, r2, r3, r4, r5, r6]) rfl ⟨by rw [HE.out], below_set7 HB9.out (Nat.le_refl _) _ _ _ _ _ _ _⟩
        | true =>
          have HE := Aside0.mk (parV_yes (by rw [HGO.out, HLK.out, HTI.out]; rfl) HP.out E0.out E1.out E2.out E3.out E4.out E5.out E6.out)
          go_wp2_with fail
          refine bodyPost_ret (v := .tuple #[.agg #[.int .i64 y, .int .i64 m, .int .i64 d, .int .i64 h, .int .i64 i, .int .i64 s, .int .i64 u], .bool true]) (by simp [results, Try.results78, go_sem, r0, r1, r2, r3, r4, r5, r6]) rfl ⟨by rw [HE.out], below_set7 HB9.out (Nat.le_refl _) _ _ _ _ _ _ _⟩
set_option maxHeartbeats 8000000 in
set_option maxRecDepth 100000 in
theorem ref_Parse_26 (s : ByteArray) (w : World) (hN : s.size = 26) :
    Calls Try.prog 78 #[.string s] w fun e w' => e = .returned (parV (bytesOf s)) ∧ Below w.heap.size w w' := by
  have hn26 : s.size ≤ 26 := by omega
  have hpad := pad_str hn26
  have hPL := padP_len (l := bytesOf s) (by rw [bytesOf_length]; exact hn26)
  have HGO := Aside0.mk (show goodP (bytesOf s) = (likeB (padP (bytesOf s)) formL && timB (padP (bytesOf s))) by rw [goodP, bytesOf_length, hN]; rfl)
  obtain ⟨L, hL⟩ : ∃ l, bytesOf s = l := ⟨_, rfl⟩
  rw [hL] at hpad hPL HGO ⊢
  obtain ⟨P, hP⟩ : ∃ P, padP L = P := ⟨_, rfl⟩
  have HP := Aside0.mk hP
  rw [hP] at hpad hPL HGO
  have HPL := Aside0.mk hPL
  obtain ⟨q, hq⟩ : ∃ q, s ++ (⟨#[48, 48, 48, 48, 45, 48, 48, 45, 48, 48, 32, 48, 48, 58, 48, 48, 58, 48, 48, 46, 48, 48, 48, 48, 48, 48]⟩ : ByteArray).extract s.size 26 = q := ⟨_, rfl⟩
  have hqb : bytesOf q = P := by rw [← hq]; exact hpad
  have hqs : q.size = 26 := by rw [← bytesOf_length, hqb, hPL]
  have HQB := Aside0.mk hqb
  have HBT := Aside0.mk (show ∀ k, ∀ h : k < q.size, ((q[k]'h).toNat : Int) = P.getD k 0 from fun k => by rw [← hqb]; exact bt_k q k)
  have HIB := Aside0.mk (show isB P by rw [← hqb]; exact bytesOf_isB q)
  rw [hN] at hq
  have HQ := Aside0.mk hq
  have hz26 : (⟨#[48, 48, 48, 48, 45, 48, 48, 45, 48, 48, 32, 48, 48, 58, 48, 48, 58, 48, 48, 46, 48, 48, 48, 48, 48, 48]⟩ : ByteArray).size = 26 := rfl
  have HNO := Aside0.mk (show likeB P formL = false → parV L = .tuple #[.agg #[.int .i64 0, .int .i64 0, .int .i64 0, .int .i64 0, .int .i64 0, .int .i64 0, .int .i64 0], .bool false] from fun h => parV_no (by rw [HGO.out, h]; rfl))
  have HS1 := Aside0.mk (blk_alloc (blk_alloc (blk_new w (.cells #[.int .i64 0, .int .i64 0, .int .i64 0, .int .i64 0, .int .i64 0, .int .i64 0, .int .i64 0] 138)) (.cells #[.int .i64 0, .int .i64 0, .int .i64 0, .int .i64 0, .int .i64 0, .int .i64 0, .int .i64 0] 138)) (.cells #[.int .i64 4, .int .i64 2, .int .i64 2, .int .i64 2, .int .i64 2, .int .i64 2, .int .i64 6] 3))
  have HT1 := Aside0.mk (blk_alloc (blk_new (w.alloc (.cells #[.int .i64 0, .int .i64 0, .int .i64 0, .int .i64 0, .int .i64 0, .int .i64 0, .int .i64 0] 138)) (.cells #[.int .i64 0, .int .i64 0, .int .i64 0, .int .i64 0, .int .i64 0, .int .i64 0, .int .i64 0] 138)) (.cells #[.int .i64 4, .int .i64 2, .int .i64 2, .int .i64 2, .int .i64 2, .int .i64 2, .int .i64 6] 3))
  have HW1 := Aside0.mk (blk_new ((w.alloc (.cells #[.int .i64 0, .int .i64 0, .int .i64 0, .int .i64 0, .int .i64 0, .int .i64 0, .int .i64 0] 138)).alloc (.cells #[.int .i64 0, .int .i64 0, .int .i64 0, .int .i64 0, .int .i64 0, .int .i64 0, .int .i64 0] 138)) (.cells #[.int .i64 4, .int .i64 2, .int .i64 2, .int .i64 2, .int .i64 2, .int .i64 2, .int .i64 6] 3))
  rw [show (w.alloc (.cells #[.int .i64 0, .int .i64 0, .int .i64 0, .int .i64 0, .int .i64 0, .int .i64 0, .int .i64 0] 138)).heap.size = w.heap.size + 1 from Array.size_push _] at HT1
  rw [show ((w.alloc (.cells #[.int .i64 0, .int .i64 0, .int .i64 0, .int .i64 0, .int .i64 0, .int .i64 0, .int .i64 0] 138)).alloc (.cells #[.int .i64 0, .int .i64 0, .int .i64 0, .int .i64 0, .int .i64 0, .int .i64 0, .int .i64 0] 138)).heap.size = w.heap.size + 1 + 1 by rw [show ((w.alloc (.cells #[.int .i64 0, .int .i64 0, .int .i64 0, .int .i64 0, .int .i64 0, .int .i64 0, .int .i64 0] 138)).alloc (.cells #[.int .i64 0, .int .i64 0, .int .i64 0, .int .i64 0, .int .i64 0, .int .i64 0, .int .i64 0] 138)).heap.size = (w.alloc (.cells #[.int .i64 0, .int .i64 0, .int .i64 0, .int .i64 0, .int .i64 0, .int .i64 0, .int .i64 0] 138)).heap.size + 1 from Array.size_push _, show (w.alloc (.cells #[.int .i64 0, .int .i64 0, .int .i64 0, .int .i64 0, .int .i64 0, .int .i64 0, .int .i64 0] 138)).heap.size = w.heap.size + 1 from Array.size_push _]] at HW1
  have HB1 := Aside0.mk (below_alloc (below_alloc (below_alloc (Below.refl w.heap.size w) (.cells #[.int .i64 0, .int .i64 0, .int .i64 0, .int .i64 0, .int .i64 0, .int .i64 0, .int .i64 0] 138)) (.cells #[.int .i64 0, .int .i64 0, .int .i64 0, .int .i64 0, .int .i64 0, .int .i64 0, .int .i64 0] 138)) (.cells #[.int .i64 4, .int .i64 2, .int .i64 2, .int .i64 2, .int .i64 2, .int .i64 2, .int .i64 6] 3))
  obtain rfl : q = s := by rw [← hq]; simp
  clear hpad hPL hP hq hqb hL hn26
  go_enter Try.func78, Try.ntmps78
  go_upto_region 8 with (fail)
  go_wp2_with fail
  go_loopw [6, 8, 9] (fun v6 v8 v9 w' => ∃ (i a : Nat), i ≤ 7 ∧ a ≤ 27 ∧ v8 = .int .i64 i ∧ v6 = .int .i64 (a : Int) ∧ Aside0 (a = offN i) ∧ Aside0 (w'.heap[w.heap.size]? = some (.cells #[.int .i64 0, .int .i64 0, .int .i64 0, .int .i64 0, .int .i64 0, .int .i64 0, .int .i64 0] 138 (0, 0))) ∧ Aside0 (w'.heap[w.heap.size + 1]? = some (.cells (arrV (gF P i 0)) 138 (0, 0))) ∧ Aside0 (w'.heap[w.heap.size + 1 + 1]? = some (.cells #[.int .i64 4, .int .i64 2, .int .i64 2, .int .i64 2, .int .i64 2, .int .i64 2, .int .i64 6] 3 (0, 0))) ∧ Aside0 (Below w.heap.size w w') ∧ Aside0 (digK P i 0)) (fun _ v8 _ _ => 7 - (intOf v8).toNat)
  case atStart => exact ⟨0, 0, by omega, by omega, rfl, by simp, ⟨rfl⟩, HS1, ⟨by rw [gF_start]; exact HT1.out⟩, HW1, HB1, ⟨⟨fun j hj => by omega, fun x hx => by omega⟩⟩⟩
  case round =>
    clear HS1 HT1 HW1 HB1
    obtain ⟨i, a, hi, ha, rfl, rfl, HA, HS, HT, HW, HB, HD⟩ := hrel
    by_cases c1 : i < 7
    · obtain ⟨o1, o2, o3, o4⟩ := off_facts i c1
      have z7 := wd_get i c1
      have HWD := Aside0.mk (show ∃ W, wdN i = W from ⟨_, rfl⟩)
      obtain ⟨W, hW⟩ := HWD.out
      rw [hW] at o1 o2 o3 z7
      have HWW := Aside0.mk hW
      have HO3 := Aside0.mk o3
      have HO1 := Aside0.mk o1
      have hZ := (blk_cell HW.out i).trans z7
      have HZW := Aside0.mk z7
      clear o1 o3 o4 hW HWD z7
      have t33 : decide ((i : Int) < 7) = true := by simp; omega
      go_wp2_with fail
      go_loopw [6, 9] (fun v6 v9 w' => ∃ (k p : Nat), k ≤ W ∧ p ≤ 26 ∧ v9 = .int .i64 k ∧ v6 = .int .i64 (p : Int) ∧ Aside0 (p = offN i + k) ∧ Aside0 (w'.heap[w.heap.size]? = some (.cells #[.int .i64 0, .int .i64 0, .int .i64 0, .int .i64 0, .int .i64 0, .int .i64 0, .int .i64 0] 138 (0, 0))) ∧ Aside0 (w'.heap[w.heap.size + 1]? = some (.cells (arrV (gF P i k)) 138 (0, 0))) ∧ Aside0 (w'.heap[w.heap.size + 1 + 1]? = some (.cells #[.int .i64 4, .int .i64 2, .int .i64 2, .int .i64 2, .int .i64 2, .int .i64 2, .int .i64 6] 3 (0, 0))) ∧ Aside0 (Below w.heap.size w w') ∧ Aside0 (digK P i k)) (fun _ v9 _ => W - (intOf v9).toNat)
      case atStart => exact ⟨0, a, by omega, by have := HA.out; have := HO1.out; omega, rfl, rfl, ⟨HA.out⟩, HS, HT, HW, HB, HD⟩
      case round =>
        clear HS HT HW HB HD hZ
        obtain ⟨k, p, hk, hp, rfl, rfl, HPP, HS, HT, HW, HB, HD⟩ := hrel
        have hZ := (blk_cell HW.out i).trans HZW.out
        by_cases c2 : k < W
        · have hp25 : p < 26 := by have := HPP.out; have := HO1.out; omega
          obtain ⟨b, hb⟩ : ∃ b, P.getD p 0 = b := ⟨_, rfl⟩
          have hbt : ∀ h : p < q.size, ((q[p]'h).toNat : Int) = b := by rw [← hb]; exact HBT.out p
          have hb0 := HIB.out.getD p
          rw [hb] at hb0
          obtain ⟨hb0, hb1⟩ := hb0
          have HBV := Aside0.mk (show P.getD (offN i + k) 0 = b by rw [← HPP.out]; exact hb)
          clear hb
          by_cases d : 48 ≤ b ∧ b ≤ 57
          · obtain ⟨d1, d2⟩ := d
            have HDG := Aside0.mk (digK_more HD.out (show dgB (P.getD (offN i + k) 0) = true by rw [HBV.out, dgB]; simp; omega))
            have hxb := digK_bound HPL.out HD.out (by have := HO1.out; omega)
            have h6 := pow6 k (by omega)
            have hg := gF_step HPL.out (i := i) (k := k) (by have := HPP.out; omega)
            rw [HBV.out] at hg
            have z1 := (blk_cell HT.out i).trans (arrV_get (gF P i k) i c1)
            rw [gF_at P i k] at hg z1
            obtain ⟨x, hx⟩ : ∃ x, numD ((P.drop (offN i)).take k) = x := ⟨_, rfl⟩
            rw [hx] at hxb hg z1
            obtain ⟨x0, x1⟩ := hxb
            have x2 : x ≤ 1000000 := by omega
            have f1 := blk_frozen HT.out i
            have HT2 := Aside0.mk (show (wr.setCell ⟨w.heap.size + 1, i, none⟩ (.int .i64 (x * 10 + (b - 48)))).heap[w.heap.size + 1]? = some (.cells (arrV (gF P i (k + 1))) 138 (0, 0)) by
              rw [blk_set HT.out i (.int .i64 (x * 10 + (b - 48))), arrV_set (gF P i k) (gF P i (k + 1)) i c1 _ hg (fun j hj => gF_other P hj)])
            have HS2 := Aside0.mk (blk_far HS.out (p := ⟨w.heap.size + 1, i, none⟩) (by show w.heap.size ≠ w.heap.size + 1; omega) (.int .i64 (x * 10 + (b - 48))))
            have HW2 := Aside0.mk (blk_far HW.out (p := ⟨w.heap.size + 1, i, none⟩) (by show w.heap.size + 1 + 1 ≠ w.heap.size + 1; omega) (.int .i64 (x * 10 + (b - 48))))
            have HB2 := Aside0.mk (cbelow_set HB.out ⟨w.heap.size + 1, i, none⟩ (by show w.heap.size ≤ w.heap.size + 1; omega) (.int .i64 (x * 10 + (b - 48))))
            have w1 : IntKind.i64.wrap (x * 10) = x * 10 := by rw [IntKind.wrap_i64]; omega
            have w2 : IntKind.u8.wrap (b - 48) = b - 48 := by rw [IntKind.wrap_u8]; omega
            have w3 : IntKind.i64.wrap (b - 48) = b - 48 := by rw [IntKind.wrap_i64]; omega
            have w4 : IntKind.i64.wrap (x * 10 + (b - 48)) = x * 10 + (b - 48) := by rw [IntKind.wrap_i64]; omega
            have i0 : (0 : Int) ≤ (i : Int) := by omega
            have i7 : (i : Int) < 7 := by omega
            clear hg hx h6 x1
            go_wp2_with fail
            refine start_ (n := 13) (S := fun w' => w'.cell? ⟨w.heap.size + 1, i, none⟩ = some (.int .i64 x)) (ds := [12]) #[false, false, false, false, false, false, false, false, false, false, false, false, false] (by kernel_rfl) rfl rfl (z1) (fun hHeld => ?_)
            refine pure_ (i := 0) (N := some 55) (v := ?_) (a' := ?_) #[true, false, false, false, false, false, false, false, false, false, false, false, false] rfl rfl (by kernel_rfl) (fun _ _ _ h => h) (Or.inl ⟨by rfl, ?_⟩) ?_ ?_
            rotate_left
            · intro w'
              go_simp
              with_reducible rfl
            rotate_left
            · simp only [Act.put, List.setIfInBounds_toArray, List.set_cons_zero, List.set_cons_succ, i64_w, i32_w]
              rfl
            refine pure_ (i := 1) (N := some 56) (v := ?_) (a' := ?_) #[true, true, false, false, false, false, false, false, false, false, false, false, false] rfl rfl (by kernel_rfl) (fun _ _ _ h => h) (Or.inl ⟨by rfl, ?_⟩) ?_ ?_
            rotate_left
            · intro w'
              go_simp
              with_reducible rfl
            rotate_left
            · simp only [Act.put, List.setIfInBounds_toArray, List.set_cons_zero, List.set_cons_succ, i64_w, i32_w]
              rfl
            refine pure_ (i := 2) (N := some 57) (v := ?_) (a' := ?_) #[true, true, true, false, false, false, false, false, false, false, false, false, false] rfl rfl (by kernel_rfl) (fun _ _ _ h => h) (Or.inl ⟨by rfl, ?_⟩) ?_ ?_
            rotate_left
            · intro w'
              go_simp
              with_reducible rfl
            rotate_left
            · simp only [Act.put, List.setIfInBounds_toArray, List.set_cons_zero, List.set_cons_succ, i64_w, i32_w]
              rfl
            refine pure_ (i := 5) (N := some 60) (v := ?_) (a' := ?_) #[true, true, true, false, false, true, false, false, false, false, false, false, false] rfl rfl (by kernel_rfl) (fun _ _ _ h => h) (Or.inl ⟨by rfl, ?_⟩) ?_ ?_
            rotate_left
            · intro w'
              go_simp
              with_reducible rfl
            rotate_left
            · simp only [Act.put, List.setIfInBounds_toArray, List.set_cons_zero, List.set_cons_succ, i64_w, i32_w]
              rfl
            refine pure_ (i := 6) (N := some 61) (v := ?_) (a' := ?_) #[true, true, true, false, false, true, true, false, false, false, false, false, false] rfl rfl (by kernel_rfl) (fun _ _ _ h => h) (Or.inl ⟨by rfl, ?_⟩) ?_ ?_
            rotate_left
            · intro w'
              go_simp
              with_reducible rfl
            rotate_left
            · simp only [Act.put, List.setIfInBounds_toArray, List.set_cons_zero, List.set_cons_succ, i64_w, i32_w]
              rfl
            refine take_ (i := 3) (N := some 58) (v := ?_) (a' := ?_) #[true, true, true, true, false, true, true, false, false, false, false, false, false] rfl rfl (by kernel_rfl) (fun _ _ _ h => h) (Or.inl ⟨by rfl, ?_⟩) hHeld ?_ ?_
            rotate_left
            · intro w' s0
              go_simp
              with_reducible rfl
            rotate_left
            · simp only [Act.put, List.setIfInBounds_toArray, List.set_cons_zero, List.set_cons_succ, i64_w, i32_w]
              rfl
            refine pure_ (i := 4) (N := some 59) (v := ?_) (a' := ?_) #[true, true, true, true, true, true, true, false, false, false, false, false, false] rfl rfl (by kernel_rfl) (fun _ _ _ h => h) (Or.inl ⟨by rfl, ?_⟩) ?_ ?_
            rotate_left
            · intro w'
              go_simp
              with_reducible rfl
            rotate_left
            · simp only [Act.put, List.setIfInBounds_toArray, List.set_cons_zero, List.set_cons_succ, i64_w, i32_w]
              rfl
            refine take_ (i := 7) (N := some 62) (v := ?_) (a' := ?_) #[true, true, true, true, true, true, true, true, false, false, false, false, false] rfl rfl (by kernel_rfl) (fun _ _ _ h => h) (Or.inl ⟨by rfl, ?_⟩) hHeld ?_ ?_
            rotate_left
            · intro w' s0
              go_simp
              with_reducible rfl
            rotate_left
            · simp only [Act.put, List.setIfInBounds_toArray, List.set_cons_zero, List.set_cons_succ, i64_w, i32_w]
              rfl
            refine pure_ (i := 8) (N := some 63) (v := ?_) (a' := ?_) #[true, true, true, true, true, true, true, true, true, false, false, false, false] rfl rfl (by kernel_rfl) (fun _ _ _ h => h) (Or.inl ⟨by rfl, ?_⟩) ?_ ?_
            rotate_left
            · intro w'
              go_simp
              with_reducible rfl
            rotate_left
            · simp only [Act.put, List.setIfInBounds_toArray, List.set_cons_zero, List.set_cons_succ, i64_w, i32_w]
              rfl
            refine pure_ (i := 9) (N := some 64) (v := ?_) (a' := ?_) #[true, true, true, true, true, true, true, true, true, true, false, false, false] rfl rfl (by kernel_rfl) (fun _ _ _ h => h) (Or.inl ⟨by rfl, ?_⟩) ?_ ?_
            rotate_left
            · intro w'
              go_simp
              with_reducible rfl
            rotate_left
            · simp only [Act.put, List.setIfInBounds_toArray, List.set_cons_zero, List.set_cons_succ, i64_w, i32_w]
              rfl
            refine pure_ (i := 10) (N := some 65) (v := ?_) (a' := ?_) #[true, true, true, true, true, true, true, true, true, true, true, false, false] rfl rfl (by kernel_rfl) (fun _ _ _ h => h) (Or.inl ⟨by rfl, ?_⟩) ?_ ?_
            rotate_left
            · intro w'
              go_simp
              with_reducible rfl
            rotate_left
            · simp only [Act.put, List.setIfInBounds_toArray, List.set_cons_zero, List.set_cons_succ, i64_w, i32_w]
              rfl
            refine pure_ (i := 11) (N := some 66) (v := ?_) (a' := ?_) #[true, true, true, true, true, true, true, true, true, true, true, true, false] rfl rfl (by kernel_rfl) (fun _ _ _ h => h) (Or.inl ⟨by rfl, ?_⟩) ?_ ?_
            rotate_left
            · intro w'
              go_simp
              with_reducible rfl
            rotate_left
            · simp only [Act.put, List.setIfInBounds_toArray, List.set_cons_zero, List.set_cons_succ, i64_w, i32_w]
              rfl
            refine last_ (i := 12) (N := none) #[true, true, true, true, true, true, true, true, true, true, true, true, true] rfl rfl (by kernel_rfl) (by decide) (fun K hK => ?_)
            refine skip_ (w1 := ?_) (by rfl) rfl ?_ ?_
            rotate_left
            · go_simp
              rfl
            refine hK.out _ _ ?_
            clear hK K
            refine done_ (by kernel_rfl) ?_
            clear w1 w2 w3 w4
            go_wp2_with fail
            go_roundw
            case rel => exact ⟨k + 1, p + 1, by omega, by omega, by go_num, by go_num, ⟨by have := HPP.out; omega⟩, ⟨blk_drew HS2.out⟩, ⟨blk_drew HT2.out⟩, ⟨blk_drew HW2.out⟩, ⟨below_drew HB2.out⟩, HDG⟩
            case measure => simp [intOf] <;> omega
          · have HE := Aside0.mk (HNO.out (like_bad HPL.out c1 (show k < wdN i by rw [HWW.out]; exact c2) (by rw [HBV.out, dgB]; simp; omega)))
            have H0 := HS.out
            have r0 := blk_cell H0 0
            have r1 := blk_cell H0 1
            have r2 := blk_cell H0 2
            have r3 := blk_cell H0 3
            have r4 := blk_cell H0 4
            have r5 := blk_cell H0 5
            have r6 := blk_cell H0 6
            have f0 := blk_frozen H0 0
            have f1 := blk_frozen H0 1
            have f2 := blk_frozen H0 2
            have f3 := blk_frozen H0 3
            have f4 := blk_frozen H0 4
            have f5 := blk_frozen H0 5
            have f6 := blk_frozen H0 6
            clear H0
            by_cases e : b < 48
            · clear d
              go_wp2_with fail
              refine bodyPost_ret (v := .tuple #[.agg #[.int .i64 0, .int .i64 0, .int .i64 0, .int .i64 0, .int .i64 0, .int .i64 0, .int .i64 0], .bool false]) (by simp [results, Try.results78, go_sem, r0, r1, r2, r3, r4, r5, r6]) rfl ⟨by rw [HE.out], below_set7 HB.out (Nat.le_refl _) _ _ _ _ _ _ _⟩
            · have e2 : 57 < b := by omega
              clear d
              go_wp2_with fail
              refine bodyPost_ret (v := .tuple #[.agg #[.int .i64 0, .int .i64 0, .int .i64 0, .int .i64 0, .int .i64 0, .int .i64 0, .int .i64 0], .bool false]) (by simp [results, Try.results78, go_sem, r0, r1, r2, r3, r4, r5, r6]) rfl ⟨by rw [HE.out], below_set7 HB.out (Nat.le_refl _) _ _ _ _ _ _ _⟩
        · have hkW : k = W := by omega
          have HT2 := Aside0.mk (show wr.heap[w.heap.size + 1]? = some (.cells (arrV (gF P (i + 1) 0)) 138 (0, 0)) by rw [← gF_next, HWW.out, ← hkW]; exact HT.out)
          have HD2 := Aside0.mk (digK_next (by rw [HWW.out, ← hkW]; exact HD.out))
          have HA2 := Aside0.mk (show p + 1 = offN (i + 1) by have := HPP.out; have := HO3.out; omega)
          go_wp2_with fail
          go_roundw
          case rel => first | exact ⟨i + 1, p + 1, by omega, by omega, by go_num, by go_num, HA2, HS, HT2, HW, HB, HD2⟩ | ((repeat apply Exists.intro); exact ⟨⟨i + 1, p + 1, by omega, by omega, by go_num, by go_num, HA2, HS, HT2, HW, HB, HD2⟩, rfl⟩)
          case measure => simp [intOf] <;> omega
    · obtain rfl : i = 7 := by omega
      have hdg := digK_all HPL.out HD.out
      have hlt := like_text HPL.out hdg
      obtain ⟨F0, F1, F2, F3, F4, F5, F6⟩ := fldj_fld P
      have hT := HT.out
      rw [arrV, gF_end P 0 (by omega), gF_end P 1 (by omega), gF_end P 2 (by omega), gF_end P 3 (by omega), gF_end P 4 (by omega), gF_end P 5 (by omega), gF_end P 6 (by omega), F0, F1, F2, F3, F4, F5, F6] at hT
      have hti : timB P = rightB (fld P 0 4) (fld P 5 7) (fld P 8 10) (fld P 11 13) (fld P 14 16) (fld P 17 19) (fld P 20 26) := rfl
      obtain ⟨y, e0⟩ : ∃ x, fld P 0 4 = x := ⟨_, rfl⟩
      obtain ⟨m, e1⟩ : ∃ x, fld P 5 7 = x := ⟨_, rfl⟩
      obtain ⟨d, e2⟩ : ∃ x, fld P 8 10 = x := ⟨_, rfl⟩
      obtain ⟨h, e3⟩ : ∃ x, fld P 11 13 = x := ⟨_, rfl⟩
      obtain ⟨i, e4⟩ : ∃ x, fld P 14 16 = x := ⟨_, rfl⟩
      obtain ⟨s, e5⟩ : ∃ x, fld P 17 19 = x := ⟨_, rfl⟩
      obtain ⟨u, e6⟩ : ∃ x, fld P 20 26 = x := ⟨_, rfl⟩
      rw [e0, e1, e2, e3, e4, e5, e6] at hT hti hlt
      have E0 := Aside0.mk e0
      have E1 := Aside0.mk e1
      have E2 := Aside0.mk e2
      have E3 := Aside0.mk e3
      have E4 := Aside0.mk e4
      have E5 := Aside0.mk e5
      have E6 := Aside0.mk e6
      clear e0 e1 e2 e3 e4 e5 e6
      have HTI := Aside0.mk hti
      have HT7 := Aside0.mk hT
      have HLT := Aside0.mk hlt
      have H0 := HS.out
      have r0 := blk_cell H0 0
      have r1 := blk_cell H0 1
      have r2 := blk_cell H0 2
      have r3 := blk_cell H0 3
      have r4 := blk_cell H0 4
      have r5 := blk_cell H0 5
      have r6 := blk_cell H0 6
      have f0 := blk_frozen H0 0
      have f1 := blk_frozen H0 1
      have f2 := blk_frozen H0 2
      have f3 := blk_frozen H0 3
      have f4 := blk_frozen H0 4
      have f5 := blk_frozen H0 5
      have f6 := blk_frozen H0 6
      clear H0 hdg hlt hT hti F0 F1 F2 F3 F4 F5 F6 c1
      have z0 : (wr).cell? ⟨w.heap.size + 1, 0, none⟩ = some (.int .i64 y) := blk_cell HT7.out 0
      have z1 : (wr).cell? ⟨w.heap.size + 1, 1, none⟩ = some (.int .i64 m) := blk_cell HT7.out 1
      have z2 : (wr).cell? ⟨w.heap.size + 1, 2, none⟩ = some (.int .i64 d) := blk_cell HT7.out 2
      have z3 : (wr).cell? ⟨w.heap.size + 1, 3, none⟩ = some (.int .i64 h) := blk_cell HT7.out 3
      have z4 : (wr).cell? ⟨w.heap.size + 1, 4, none⟩ = some (.int .i64 i) := blk_cell HT7.out 4
      have z5 : (wr).cell? ⟨w.heap.size + 1, 5, none⟩ = some (.int .i64 s) := blk_cell HT7.out 5
      have z6 : (wr).cell? ⟨w.heap.size + 1, 6, none⟩ = some (.int .i64 u) := blk_cell HT7.out 6
      go_wp2_with fail
      refine (ref_Right_calls y m d h i s u _).mono ?_
      rintro e w8 ⟨rfl, hb8⟩
      have HB8 := Aside0.mk (below_step HB.out hb8)
      have HX8 := Aside0.mk (blk_below HT7.out hb8)
      have HS8 := Aside0.mk (blk_below HS.out hb8)
      clear hb8 z0 z1 z2 z3 z4 z5 z6
      obtain ⟨b, hb⟩ : ∃ b, rightB y m d h i s u = b := ⟨_, rfl⟩
      rw [hb] at HTI ⊢
      have HRB := Aside0.mk hb
      clear hb
      have H0 := HS8.out
      have r0 := blk_cell H0 0
      have r1 := blk_cell H0 1
      have r2 := blk_cell H0 2
      have r3 := blk_cell H0 3
      have r4 := blk_cell H0 4
      have r5 := blk_cell H0 5
      have r6 := blk_cell H0 6
      have f0 := blk_frozen H0 0
      have f1 := blk_frozen H0 1
      have f2 := blk_frozen H0 2
      have f3 := blk_frozen H0 3
      have f4 := blk_frozen H0 4
      have f5 := blk_frozen H0 5
      have f6 := blk_frozen H0 6
      have z0 : (w8).cell? ⟨w.heap.size + 1, 0, none⟩ = some (.int .i64 y) := blk_cell HX8.out 0
      have z1 : (w8).cell? ⟨w.heap.size + 1, 1, none⟩ = some (.int .i64 m) := blk_cell HX8.out 1
      have z2 : (w8).cell? ⟨w.heap.size + 1, 2, none⟩ = some (.int .i64 d) := blk_cell HX8.out 2
      have z3 : (w8).cell? ⟨w.heap.size + 1, 3, none⟩ = some (.int .i64 h) := blk_cell HX8.out 3
      have z4 : (w8).cell? ⟨w.heap.size + 1, 4, none⟩ = some (.int .i64 i) := blk_cell HX8.out 4
      have z5 : (w8).cell? ⟨w.heap.size + 1, 5, none⟩ = some (.int .i64 s) := blk_cell HX8.out 5
      have z6 : (w8).cell? ⟨w.heap.size + 1, 6, none⟩ = some (.int .i64 u) := blk_cell HX8.out 6
      clear H0
      cases b with
      | false =>
        have HE := Aside0.mk (parV_no (l := L) (by rw [HGO.out, HTI.out]; simp))
        go_wp2_with fail
        refine bodyPost_ret (v := .tuple #[.agg #[.int .i64 0, .int .i64 0, .int .i64 0, .int .i64 0, .int .i64 0, .int .i64 0, .int .i64 0], .bool false]) (by simp [results, Try.results78, go_sem, r0, r1, r2, r3, r4, r5, r6]) rfl ⟨by rw [HE.out], below_set7 HB8.out (Nat.le_refl _) _ _ _ _ _ _ _⟩
      | true =>
        obtain ⟨lk, hlk⟩ : ∃ b, likeB P formL = b := ⟨_, rfl⟩
        have HLK := Aside0.mk hlk
        obtain ⟨S1, hS1⟩ : ∃ S1, textS y m d h i s u = S1 := ⟨_, rfl⟩
        have heq : (S1.toList == q.toList) = lk := by
          rw [str_eq_iff, ← hlk, Bool.eq_iff_iff, decide_eq_true_eq, ← HLT.out]
          constructor
          · intro h
            have h2 := congrArg bytesOf h
            rw [HQB.out, ← hS1, textS, bytesOf_strOf (textL_isB HRB.out)] at h2
            exact h2
          · intro h
            rw [← hS1, textS, h, ← HQB.out, strOf_bytesOf]
        have hne : (S1.toList != q.toList) = !lk := by rw [← heq]; rfl
        have HS1 := Aside0.mk hS1
        clear hlk hS1
        go_wp2_with fail
        refine (ref_Text_calls y m d h i s u _ HRB.out).mono ?_
        rintro e w9 ⟨rfl, hb9⟩
        rw [HS1.out]
        have HB9 := Aside0.mk (below_step HB8.out hb9)
        have HX9 := Aside0.mk (blk_below HX8.out hb9)
        have H0 := blk_below HS8.out hb9
        clear hb9 r0 f0 r1 f1 r2 f2 r3 f3 r4 f4 r5 f5 r6 f6 z0 z1 z2 z3 z4 z5 z6
        have r0 := blk_cell H0 0
        have r1 := blk_cell H0 1
        have r2 := blk_cell H0 2
        have r3 := blk_cell H0 3
        have r4 := blk_cell H0 4
        have r5 := blk_cell H0 5
        have r6 := blk_cell H0 6
        have f0 := blk_frozen H0 0
        have f1 := blk_frozen H0 1
        have f2 := blk_frozen H0 2
        have f3 := blk_frozen H0 3
        have f4 := blk_frozen H0 4
        have f5 := blk_frozen H0 5
        have f6 := blk_frozen H0 6
        have z0 : (w9).cell? ⟨w.heap.size + 1, 0, none⟩ = some (.int .i64 y) := blk_cell HX9.out 0
        have z1 : (w9).cell? ⟨w.heap.size + 1, 1, none⟩ = some (.int .i64 m) := blk_cell HX9.out 1
        have z2 : (w9).cell? ⟨w.heap.size + 1, 2, none⟩ = some (.int .i64 d) := blk_cell HX9.out 2
        have z3 : (w9).cell? ⟨w.heap.size + 1, 3, none⟩ = some (.int .i64 h) := blk_cell HX9.out 3
        have z4 : (w9).cell? ⟨w.heap.size + 1, 4, none⟩ = some (.int .i64 i) := blk_cell HX9.out 4
        have z5 : (w9).cell? ⟨w.heap.size + 1, 5, none⟩ = some (.int .i64 s) := blk_cell HX9.out 5
        have z6 : (w9).cell? ⟨w.heap.size + 1, 6, none⟩ = some (.int .i64 u) := blk_cell HX9.out 6
        clear H0
        cases lk with
        | false =>
          have HE := Aside0.mk (HNO.out HLK.out)
          go_wp2_with fail
          refine bodyPost_ret (v := .tuple #[.agg #[.int .i64 0, .int .i64 0, .int .i64 0, .int .i64 0, .int .i64 0, .int .i64 0, .int .i64 0], .bool false]) (by simp [results, Try.results78, go_sem, r0, r1, r2, r3, r4, r5, r6]) rfl ⟨by rw [HE.out], below_set7 HB9.out (Nat.le_refl _) _ _ _ _ _ _ _⟩
        | true =>
          have HE := Aside0.mk (parV_yes (by rw [HGO.out, HLK.out, HTI.out]; rfl) HP.out E0.out E1.out E2.out E3.out E4.out E5.out E6.out)
          go_wp2_with fail
          refine bodyPost_ret (v := .tuple #[.agg #[.int .i64 y, .int .i64 m, .int .i64 d, .int .i64 h, .int .i64 i, .int .i64 s, .int .i64 u], .bool true]) (by simp [results, Try.results78, go_sem, r0, r1, r2, r3, r4, r5, r6]) rfl ⟨by rw [HE.out], below_set7 HB9.out (Nat.le_refl _) _ _ _ _ _ _ _⟩

theorem ref_Parse_calls (s : ByteArray) (w : World) (hs : s.size ≤ 1000) : Calls Try.prog 78 #[.string s] w fun e w' => e = .returned (parV (bytesOf s)) ∧ Below w.heap.size w w' := by
  cases h : lenOk s.size
  · exact ref_Parse_far s w hs h
  · rcases of_decide_eq_true h with h | h | h | h
    · exact ref_Parse_10 s w h
    · exact ref_Parse_16 s w h
    · exact ref_Parse_19 s w h
    · exact ref_Parse_26 s w h
end Go.Proofs.Ytplmdgimodgekaa
