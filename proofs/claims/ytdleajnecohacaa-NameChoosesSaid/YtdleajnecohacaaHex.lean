/- Contracts of package name's numbers over this translation. -/
import Derived.Test.YtdleajnecohacaaBase
import Derived.Test.YtdleajnecohacaaHexPure
import Derived.Laws.BitsAllLaws
namespace Go.Proofs.Ytdleajnecohacaa
open Go.RowKit Go.Proofs.YtdleajnecohacaaW.PrintWords Go.Proofs.YtdleajnecohacaaW.PrintLast Go.Proofs.YtdleajnecohacaaW.PrintMore
attribute [local go_sem] max2_int min2_int max_two min_two max_three min_three max_four min_four   -- for this text's walks alone
set_option linter.unusedVariables false
set_option linter.unusedSimpArgs false

def hexA (n : Int) (k : Nat) : Array Value := ((List.range 16).map fun j => if j < k then Value.int .u8 (hexC (hexD n j)) else .int .u8 0).toArray
theorem hexA_get (n : Int) (k j : Nat) (h : j < 16) : (hexA n k)[j]? = some (if j < k then Value.int .u8 (hexC (hexD n j)) else .int .u8 0) := by
  simp [hexA, h]
theorem hexA_size (n : Int) (k : Nat) : (hexA n k).size = 16 := by simp [hexA]
theorem hexA_step (n : Int) (k : Nat) (h : k < 16) : (hexA n k).setIfInBounds k (.int .u8 (hexC (hexD n k))) = hexA n (k + 1) := by
  apply Array.ext_getElem?
  intro j
  rw [Array.getElem?_setIfInBounds]
  by_cases hj : j < 16
  · rw [hexA_get n k j hj, hexA_get n (k + 1) j hj, hexA_size]
    by_cases e : k = j
    · subst e; simp [h]
    · rw [if_neg e]
      congr 1
      by_cases hjk : j < k
      · rw [if_pos hjk, if_pos (by omega)]
      · rw [if_neg hjk, if_neg (by omega)]
  · rw [Array.getElem?_eq_none (by rw [hexA_size]; omega), Array.getElem?_eq_none (by rw [hexA_size]; omega)]
    have : k ≠ j := by omega
    simp [this]
theorem hexA_zero (n : Int) : hexA n 0 = #[.int .u8 0, .int .u8 0, .int .u8 0, .int .u8 0, .int .u8 0, .int .u8 0, .int .u8 0, .int .u8 0, .int .u8 0, .int .u8 0, .int .u8 0, .int .u8 0, .int .u8 0, .int .u8 0, .int .u8 0, .int .u8 0] := by
  simp [hexA, List.range_succ_eq_map]
theorem and15 (x : Int) (h0 : 0 ≤ x) (h1 : x ≤ 18446744073709551615) : Go.bits .and .u64 x 15 = x % 16 := by
  rw [u64_and x 15 h0 (by omega) (by omega) (by omega), show (15 : Int).toNat = 15 from rfl, nat_mask4]
  omega
set_option maxHeartbeats 8000000 in
set_option maxRecDepth 100000 in
theorem name_Hex_calls (n : Int) (w : World) (h0 : 0 ≤ n) (h1 : n ≤ 18446744073709551615) :
    Calls Try.prog 92 #[.int .u64 n] w fun e w' => e = .returned (.string (hexS n)) ∧ Below w.heap.size w w' := by
  have HN := Aside0.mk h0
  go_enter Try.func92, Try.ntmps92
  go_wp2
  go_loopw [4, 5, 6] (fun v4 v5 v6 w' => ∃ k : Nat, k ≤ 16 ∧ v6 = .int .i64 k ∧ Aside0 (w'.heap[w.heap.size]? = some (.cells (hexA n k) 129 (0, 0))) ∧ Aside0 (Below w.heap.size w w')) (fun _ _ v6 _ => 16 - (intOf v6).toNat)
  case atStart => exact ⟨0, by omega, rfl, ⟨by rw [hexA_zero]; exact blk_new _ _⟩, ⟨by apply below_alloc; exact Below.refl _ _⟩⟩
  case round =>
    obtain ⟨k, hk, rfl, HC, HB⟩ := hrel
    by_cases c : k < 16
    · have hf := blk_frozen HC.out k
      have hc : wr.cell? ⟨w.heap.size, k, none⟩ = some (.int .u8 0) := by rw [blk_cell HC.out k, hexA_get n k k c, if_neg (by omega)]
      obtain ⟨d, hd⟩ : ∃ d, hexD n k = d := ⟨_, rfl⟩
      have hx0 : 0 ≤ n / 2 ^ (60 - 4 * k) := Int.ediv_nonneg HN.out (Int.pow_nonneg (by omega))
      have hx1 : n / 2 ^ (60 - 4 * k) ≤ 18446744073709551615 := Int.le_trans (Int.ediv_le_self _ HN.out) h1
      have hb : Go.bits .and .u64 (n / 2 ^ (60 - 4 * k)) 15 = d := by rw [and15 _ hx0 hx1]; exact hd
      clear hx0 hx1
      have hd0 : 0 ≤ d := by rw [← hd]; unfold hexD; omega
      have hd1 : d ≤ 15 := by rw [← hd]; unfold hexD; omega
      have hm : d % 256 = d := by omega
      have HD := Aside0.mk hd
      clear hd
      by_cases c9 : 9 < d
      · have hm1 : (48 + d) % 256 = 48 + d := by omega
        have hm2 : (97 + d) % 256 = 97 + d := by omega
        have hm3 : (97 + d - 10) % 256 = 97 + d - 10 := by omega
        have hfin : Aside0 ((((wr.setCell ⟨w.heap.size, k, none⟩ (.int .u8 (48 + d))).setCell ⟨w.heap.size, k, none⟩ (.int .u8 (97 + d - 10)))).heap[w.heap.size]? = some (.cells (hexA n (k + 1)) 129 (0, 0))) :=
          ⟨by rw [blk_set (blk_set HC.out k _) k _, set_twice, ← hexA_step n k c, HD.out, hexC, if_pos c9, show (97 + d - 10) = 87 + d by omega]⟩
        go_wp2
        go_roundw
        case rel => exact ⟨k + 1, by omega, by go_num, hfin, ⟨by exact ((HB.out).setCell (Nat.le_refl _) _).setCell (Nat.le_refl _) _⟩⟩
        case measure => simp [intOf]; omega
      · have hm1 : (48 + d) % 256 = 48 + d := by omega
        have hfin : Aside0 (((wr.setCell ⟨w.heap.size, k, none⟩ (.int .u8 (48 + d)))).heap[w.heap.size]? = some (.cells (hexA n (k + 1)) 129 (0, 0))) :=
          ⟨by rw [blk_set HC.out k _, ← hexA_step n k c, HD.out, hexC, if_neg c9]⟩
        go_wp2
        go_roundw
        case rel => exact ⟨k + 1, by omega, by go_num, hfin, ⟨by exact (HB.out).setCell (Nat.le_refl _) _⟩⟩
        case measure => simp [intOf]; omega
    · have hk16 : k = 16 := by omega
      have hR : ReadsInt wr .u8 (some ⟨w.heap.size, 0, none⟩) 16 (hexL n) := ⟨by simp [hexL], by omega, fun _ => ⟨_, rfl, fun j hj => by
        rw [add_plain, blk_cell HC.out j, hexA_get n k j hj, if_pos (by omega)]
        simp [hexL, List.getD_eq_getElem?_getD, hj]⟩⟩
      have hcv := string_of_reads (P := Try.prog) (c := 16) Try.underlying30 Try.underlying5 Try.underlying9 hR
      clear hR hk16
      go_wp2
      go_ret
      exact ⟨rfl, HB.out⟩

set_option maxHeartbeats 8000000 in
set_option maxRecDepth 100000 in
theorem name_Archived_calls (id n : Int) (w : World) (h0 : 0 ≤ id) (h1 : id ≤ 18446744073709551615) (h2 : 0 ≤ n) (h3 : n ≤ 18446744073709551615) :
    Calls Try.prog 64 #[.int .u64 id, .int .u64 n] w fun e w' => e = .returned (.string (archS id n)) ∧ Below w.heap.size w w' := by
  have hs1 := hexS_size id
  have hs2 := hexS_size n
  go_enter Try.func64, Try.ntmps64
  go_wp2_with fail
  refine (name_Hex_calls _ _ h0 h1).mono ?_
  rintro e w1 ⟨rfl, HB1⟩
  have HB1 := Aside0.mk HB1
  go_wp2_with fail
  refine (name_Hex_calls _ _ h2 h3).mono ?_
  rintro e w2 ⟨rfl, HB2⟩
  have HB2 := Aside0.mk HB2
  go_wp2_with fail
  go_ret
  exact ⟨rfl, below_step HB1.out HB2.out⟩
set_option maxHeartbeats 8000000 in
set_option maxRecDepth 100000 in
theorem name_awake_calls (w : World) :
    Calls Try.prog 61 #[] w fun e w' => e = .returned (.bool true) ∧ Below w.heap.size w w' := by
  have ha := archS_1_255
  go_enter Try.func61, Try.ntmps61
  go_wp2_with fail
  refine (name_Archived_calls 1 255 _ (by omega) (by omega) (by omega) (by omega)).mono ?_
  rintro e w1 ⟨rfl, HB1⟩
  have HB1 := Aside0.mk HB1
  go_wp2_with fail
  go_ret
  exact ⟨rfl, HB1.out⟩
end Go.Proofs.Ytdleajnecohacaa
