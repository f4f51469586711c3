/- Contracts of package crc, and of its reference: the table, and the sum of bytes. -/
import Derived.Test.YtigdchfjcfljjaaCrcPure
import Derived.Test.YtigdchfjcfljjaaFill
import Derived.Test.YtigdchfjcfljjaaLePure
namespace Go.Proofs.Ytigdchfjcfljjaa
open Go.RowKit Go.Proofs.YtigdchfjcfljjaaW.PrintWords Go.Proofs.YtigdchfjcfljjaaW.PrintLast Go.Proofs.YtigdchfjcfljjaaW.PrintMore
attribute [local go_sem] max2_int min2_int max_two min_two max_three min_three max_four min_four   -- for this text's walks alone
set_option linter.unusedVariables false
set_option linter.unusedSimpArgs false

/-- Block g is the table. -/
def CrcT (W : World) (g : Nat) : Prop := W.heap[g]? = some (.cells (nums .u32 (fillL tabN 256 256)).toArray 156 (0, 0))
theorem CrcT.below {W W1 : World} {g : Nat} (h : CrcT W g) (hb : Below W.heap.size W W1) : CrcT W1 g := blk_below h hb
theorem and1 (c : Int) (h0 : 0 ≤ c) (h1 : c ≤ 4294967295) : bits .and .u32 c 1 = c % 2 := by
  rw [u32_and c 1 h0 (by omega) (by omega) (by omega), show (1 : Int).toNat = 1 from rfl, show c.toNat &&& 1 = c.toNat % 2 from Nat.and_one_is_mod _]
  omega
theorem bit_odd (c : Nat) (h : c < 4294967296) (h1 : (c : Int) % 2 = 1) : bits .xor .u32 ((c : Int) / 2) 3988292384 = (bitN c : Nat) := by
  have e : ((c : Int) / 2) = ((c / 2 : Nat) : Int) := by omega
  rw [e, show (3988292384 : Int) = ((3988292384 : Nat) : Int) from rfl, u32_xor_nat _ _ (by omega) (by omega), bitN, if_pos (by omega)]
theorem bit_even (c : Nat) (h1 : (c : Int) % 2 = 0) : ((c : Int) / 2) = (bitN c : Nat) := by
  rw [bitN, if_neg (by omega)]; omega
theorem zeros256 : (nums .u32 (fillL tabN 256 0)).toArray = #[.int .u32 0, .int .u32 0, .int .u32 0, .int .u32 0, .int .u32 0, .int .u32 0, .int .u32 0, .int .u32 0, .int .u32 0, .int .u32 0, .int .u32 0, .int .u32 0, .int .u32 0, .int .u32 0, .int .u32 0, .int .u32 0, .int .u32 0, .int .u32 0, .int .u32 0, .int .u32 0, .int .u32 0, .int .u32 0, .int .u32 0, .int .u32 0, .int .u32 0, .int .u32 0, .int .u32 0, .int .u32 0, .int .u32 0, .int .u32 0, .int .u32 0, .int .u32 0, .int .u32 0, .int .u32 0, .int .u32 0, .int .u32 0, .int .u32 0, .int .u32 0, .int .u32 0, .int .u32 0, .int .u32 0, .int .u32 0, .int .u32 0, .int .u32 0, .int .u32 0, .int .u32 0, .int .u32 0, .int .u32 0, .int .u32 0, .int .u32 0, .int .u32 0, .int .u32 0, .int .u32 0, .int .u32 0, .int .u32 0, .int .u32 0, .int .u32 0, .int .u32 0, .int .u32 0, .int .u32 0, .int .u32 0, .int .u32 0, .int .u32 0, .int .u32 0, .int .u32 0, .int .u32 0, .int .u32 0, .int .u32 0, .int .u32 0, .int .u32 0, .int .u32 0, .int .u32 0, .int .u32 0, .int .u32 0, .int .u32 0, .int .u32 0, .int .u32 0, .int .u32 0, .int .u32 0, .int .u32 0, .int .u32 0, .int .u32 0, .int .u32 0, .int .u32 0, .int .u32 0, .int .u32 0, .int .u32 0, .int .u32 0, .int .u32 0, .int .u32 0, .int .u32 0, .int .u32 0, .int .u32 0, .int .u32 0, .int .u32 0, .int .u32 0, .int .u32 0, .int .u32 0, .int .u32 0, .int .u32 0, .int .u32 0, .int .u32 0, .int .u32 0, .int .u32 0, .int .u32 0, .int .u32 0, .int .u32 0, .int .u32 0, .int .u32 0, .int .u32 0, .int .u32 0, .int .u32 0, .int .u32 0, .int .u32 0, .int .u32 0, .int .u32 0, .int .u32 0, .int .u32 0, .int .u32 0, .int .u32 0, .int .u32 0, .int .u32 0, .int .u32 0, .int .u32 0, .int .u32 0, .int .u32 0, .int .u32 0, .int .u32 0, .int .u32 0, .int .u32 0, .int .u32 0, .int .u32 0, .int .u32 0, .int .u32 0, .int .u32 0, .int .u32 0, .int .u32 0, .int .u32 0, .int .u32 0, .int .u32 0, .int .u32 0, .int .u32 0, .int .u32 0, .int .u32 0, .int .u32 0, .int .u32 0, .int .u32 0, .int .u32 0, .int .u32 0, .int .u32 0, .int .u32 0, .int .u32 0, .int .u32 0, .int .u32 0, .int .u32 0, .int .u32 0, .int .u32 0, .int .u32 0, .int .u32 0, .int .u32 0, .int .u32 0, .int .u32 0, .int .u32 0, .int .u32 0, .int .u32 0, .int .u32 0, .int .u32 0, .int .u32 0, .int .u32 0, .int .u32 0, .int .u32 0, .int .u32 0, .int .u32 0, .int .u32 0, .int .u32 0, .int .u32 0, .int .u32 0, .int .u32 0, .int .u32 0, .int .u32 0, .int .u32 0, .int .u32 0, .int .u32 0, .int .u32 0, .int .u32 0, .int .u32 0, .int .u32 0, .int .u32 0, .int .u32 0, .int .u32 0, .int .u32 0, .int .u32 0, .int .u32 0, .int .u32 0, .int .u32 0, .int .u32 0, .int .u32 0, .int .u32 0, .int .u32 0, .int .u32 0, .int .u32 0, .int .u32 0, .int .u32 0, .int .u32 0, .int .u32 0, .int .u32 0, .int .u32 0, .int .u32 0, .int .u32 0, .int .u32 0, .int .u32 0, .int .u32 0, .int .u32 0, .int .u32 0, .int .u32 0, .int .u32 0, .int .u32 0, .int .u32 0, .int .u32 0, .int .u32 0, .int .u32 0, .int .u32 0, .int .u32 0, .int .u32 0, .int .u32 0, .int .u32 0, .int .u32 0, .int .u32 0, .int .u32 0, .int .u32 0, .int .u32 0, .int .u32 0, .int .u32 0, .int .u32 0, .int .u32 0, .int .u32 0, .int .u32 0, .int .u32 0, .int .u32 0, .int .u32 0, .int .u32 0, .int .u32 0, .int .u32 0, .int .u32 0, .int .u32 0, .int .u32 0, .int .u32 0, .int .u32 0, .int .u32 0, .int .u32 0, .int .u32 0, .int .u32 0, .int .u32 0, .int .u32 0, .int .u32 0, .int .u32 0] := by
  kernel_rfl
set_option maxHeartbeats 8000000 in
set_option maxRecDepth 100000 in
theorem crc_Make_calls (w : World) :
    Calls Try.prog 22 #[] w fun e w' => e = .returned (.pointer (some ⟨w.heap.size, 0, none⟩)) ∧ CrcT w' w.heap.size ∧ Below w.heap.size w w' := by
  go_enter Try.func22, Try.ntmps22
  go_wp2_with fail
  go_loopw [2, 3, 6] (fun v2 v3 v6 w' => ∃ i : Nat, i ≤ 256 ∧ v6 = .int .i64 i ∧ Aside0 (w'.heap[w.heap.size]? = some (.cells (nums .u32 (fillL tabN 256 i)).toArray 156 (0, 0))) ∧ Aside0 (Below w.heap.size w w')) (fun _ _ v6 _ => 256 - (intOf v6).toNat)
  case atStart => exact ⟨0, by omega, rfl, ⟨by rw [zeros256]; exact blk_new _ _⟩, ⟨below_alloc (Below.refl _ _) _⟩⟩
  case round =>
    obtain ⟨i, hi, rfl, HX, HB⟩ := hrel
    by_cases c : i < 256
    · obtain ⟨wo, rfl⟩ : ∃ wo : World, wo = wr := ⟨_, rfl⟩
      go_wp2_with fail
      go_loop [3, 11] (fun v3 v11 => ∃ k x : Nat, k ≤ 8 ∧ x < 4294967296 ∧ v11 = .int .i64 k ∧ v3 = .int .u32 x ∧ Aside0 (x = itN k i)) (fun _ v11 => 8 - (intOf v11).toNat)
      case atStart => exact ⟨0, i, by omega, by omega, rfl, rfl, ⟨rfl⟩⟩
      case round =>
        obtain ⟨k, x, hk, hx, rfl, rfl, HE⟩ := hrel
        have ha := and1 x (by omega) (by omega)
        by_cases c2 : k < 8
        · have HN := Aside0.mk (show itN (k + 1) i = bitN x by rw [itN_snoc, ← HE.out])
          have hxl := bitN_lt hx
          by_cases c3 : (x : Int) % 2 = 1
          · have hb := bit_odd x hx c3
            have c3b : ((x : Int) % 2 == 1) = true := by rw [beq_iff_eq]; exact c3
            clear c3
            go_wp2_with fail
            go_round
            case rel => exact ⟨k + 1, bitN x, by omega, hxl, by go_num, by first | rfl | (rw [hb]), ⟨HN.out.symm⟩⟩
            case measure => simp [intOf]; omega
          · have hb := bit_even x (by omega)
            have c3b : ((x : Int) % 2 == 1) = false := by rw [beq_eq_false_iff_ne]; exact c3
            clear c3
            go_wp2_with fail
            go_round
            case rel => exact ⟨k + 1, bitN x, by omega, hxl, by go_num, by first | rfl | (rw [hb]), ⟨HN.out.symm⟩⟩
            case measure => simp [intOf]; omega
        · have hk8 : k = 8 := by omega
          have hf := blk_frozen HX.out i
          have hc : wo.cell? ⟨w.heap.size, i, none⟩ = some (.int .u32 ((fillL tabN 256 i).getD i 0)) := by
            rw [blk_cell HX.out i]
            have : i < (nums .u32 (fillL tabN 256 i)).length := by simp [nums, fillL_len tabN 256 i hi, c]
            simp [nums, List.getD_eq_getElem?_getD, fillL_len tabN 256 i hi, c]
          have hfin := Aside0.mk (show (wo.setCell ⟨w.heap.size, i, none⟩ (.int .u32 x)).heap[w.heap.size]? = some (.cells (nums .u32 (fillL tabN 256 (i + 1))).toArray 156 (0, 0)) by
            rw [blk_set HX.out i, nums_set, fillL_set tabN 256 i c (by rw [tabN, ← hk8, HE.out])])
          have HBB := Aside0.mk (show Below w.heap.size w (wo.setCell ⟨w.heap.size, i, none⟩ (.int .u32 x)) from HB.out.setCell (Nat.le_refl _) _)
          clear hk8
          go_wp2_with fail
          go_roundw
          case rel => exact ⟨i + 1, by omega, by go_num, hfin, HBB⟩
          case measure => simp [intOf]; omega
    · have hi2 : i = 256 := by omega
      subst hi2
      go_wp2_with fail
      go_ret
      exact ⟨rfl, HX.out, HB.out⟩
theorem xor_max (x : Nat) (h : x < 4294967296) : bits .xor .u32 (x : Int) 4294967295 = ((x ^^^ 4294967295 : Nat) : Int) := by
  rw [show (4294967295 : Int) = ((4294967295 : Nat) : Int) from rfl, u32_xor_nat _ _ h (by omega)]
theorem crc_round {w : World} {g : Nat} (hT : CrcT w g) (x : Nat) (X b : Int) (hX : X = (x : Nat)) (h0 : 0 ≤ X) (h1 : X ≤ 4294967295) (hb0 : 0 ≤ b) (hb1 : b ≤ 255) :
    ∃ (y : Nat) (M Q T R : Int), y < 256 ∧ X % 256 = M ∧ 0 ≤ M ∧ M ≤ 255 ∧ X / 256 = Q ∧ 0 ≤ Q ∧ Q ≤ 16777215 ∧ bits .xor .u8 M b = (y : Int) ∧ w.cell? ⟨g, y, none⟩ = some (.int .u32 T) ∧ bits .xor .u32 T Q = R ∧ 0 ≤ R ∧ R ≤ 4294967295 ∧ R = (stepN x b : Nat) := by
  subst hX
  obtain ⟨B, rfl⟩ := Int.eq_ofNat_of_zero_le hb0
  have hidx : x % 256 ^^^ B < 256 := Nat.xor_lt_two_pow (n := 8) (by omega) (by omega)
  refine ⟨x % 256 ^^^ B, ((x % 256 : Nat) : Int), ((x / 256 : Nat) : Int), (itN 8 (x % 256 ^^^ B) : Nat), (itN 8 (x % 256 ^^^ B) ^^^ x / 256 : Nat), hidx, by omega, by omega, by omega, by omega, by omega, by omega, u8_xor_nat _ _ (by omega) (by omega), ?_, u32_xor_nat _ _ (itN_lt 8 (by omega)) (by omega), by omega, ?_, ?_⟩
  · rw [blk_cell hT]
    simp [nums, fillL, hidx, tabN]
  · have := xor_lt32 (itN_lt 8 (show x % 256 ^^^ B < 4294967296 by omega)) (show x / 256 < 4294967296 by omega)
    omega
  · rw [stepN, Int.toNat_natCast, crc_step x B]
theorem crc_last (x : Nat) (X : Int) (hX : X = (x : Nat)) (h0 : 0 ≤ X) (h1 : X ≤ 4294967295) : ∃ C : Int, bits .xor .u32 IntKind.u32.max X = C ∧ C = (x ^^^ 4294967295 : Nat) := by
  subst hX
  refine ⟨_, rfl, ?_⟩
  rw [show IntKind.u32.max = ((4294967295 : Nat) : Int) from rfl, u32_xor_nat _ _ (by omega) (by omega), Nat.xor_comm]
set_option maxHeartbeats 8000000 in
set_option maxRecDepth 100000 in
theorem crc_Add_calls (v : Value) (l : List Int) (w : World) (g : Nat) (hT : CrcT w g) (hr : Rd w .u8 v l) (hb : isB l) :
    Calls Try.prog 143 #[.pointer (some ⟨g, 0, none⟩), .int .u32 0, v] w fun e w' => e = .returned (.int .u32 (crcN l : Nat)) ∧ Below w.heap.size w w' := by
  obtain ⟨A, c, rfl, hc, hr⟩ := hr
  have hm : l.length ≤ 9223372036854775807 := hr.2.1
  have HR := Aside0.mk hr
  have HIB := Aside0.mk hb
  have HT := Aside0.mk hT
  clear hr hb hT
  go_enter Try.func143, Try.ntmps143
  go_wp2_with fail
  go_loop [1, 8, 15] (fun v1 v8 v15 => ∃ (k : Nat) (X : Int), k ≤ l.length ∧ 0 ≤ X ∧ X ≤ 4294967295 ∧ v15 = .int .i64 k ∧ v1 = .int .u32 X ∧ Aside0 (X = (foldN 4294967295 (l.take k) : Nat))) (fun _ _ v15 => l.length - (intOf v15).toNat)
  case atStart => exact ⟨0, 4294967295, by omega, by omega, by omega, rfl, rfl, ⟨rfl⟩⟩
  case round =>
    obtain ⟨k, X, hk, hX0, hX1, rfl, rfl, HE⟩ := hrel
    by_cases c1 : k < l.length
    · obtain ⟨ad, e, hcell⟩ := rd_at HR.out k c1
      obtain ⟨b, hbb⟩ : ∃ b, l.getD k 0 = b := ⟨_, rfl⟩
      have hb0 := HIB.out.getD k
      rw [hbb] at hcell hb0
      obtain ⟨hb0, hb1⟩ := hb0
      obtain ⟨y, M, Q, T, R, hy, hM, hM0, hM1, hQ, hQ0, hQ1, hx8, htc, hxx, hR0, hR1, hN⟩ := crc_round HT.out (foldN 4294967295 (l.take k)) X b HE.out hX0 hX1 hb0 hb1
      have HN := Aside0.mk (show R = (foldN 4294967295 (l.take (k + 1)) : Nat) by rw [take_snoc c1, foldN_snoc, hbb]; exact hN)
      clear hbb hN
      cases e
      go_wp2_with fail
      go_round
      case rel => exact ⟨k + 1, R, by omega, hR0, hR1, by go_num, rfl, HN⟩
      case measure => simp [intOf]; omega
    · have HJ := Aside0.mk (show l.take k = l from List.take_of_length_le (by omega))
      obtain ⟨C, hxm, hC⟩ := crc_last (foldN 4294967295 (l.take k)) X HE.out hX0 hX1
      have HC := Aside0.mk (show C = (crcN l : Nat) by rw [hC, crcN, HJ.out])
      clear hC
      go_wp2_with fail
      go_ret
      exact ⟨by rw [← HC.out]; rfl, Below.refl _ _⟩
set_option maxHeartbeats 8000000 in
set_option maxRecDepth 100000 in
theorem crc_Sum_calls (v : Value) (l : List Int) (w : World) (g : Nat) (hT : CrcT w g) (hr : Rd w .u8 v l) (hb : isB l) :
    Calls Try.prog 95 #[.pointer (some ⟨g, 0, none⟩), v] w fun e w' => e = .returned (.int .u32 (crcN l : Nat)) ∧ Below w.heap.size w w' := by
  have HR := Aside0.mk hr
  have HIB := Aside0.mk hb
  have HT := Aside0.mk hT
  clear hr hb hT
  go_enter Try.func95, Try.ntmps95
  go_wp2_with fail
  refine (crc_Add_calls v l _ g HT.out HR.out HIB.out).mono ?_
  rintro e w1 ⟨rfl, hb⟩
  have HB := Aside0.mk hb
  clear hb
  go_wp2_with fail
  go_ret
  exact ⟨rfl, HB.out⟩
set_option maxHeartbeats 8000000 in
set_option maxRecDepth 100000 in
theorem ref_bit_calls (x : Nat) (w : World) (hx : x < 4294967296) :
    Calls Try.prog 146 #[.int .u32 x] w fun e w' => e = .returned (.int .u32 (bitN x : Nat)) ∧ w = w' := by
  by_cases c3 : (x : Int) % 2 = 1
  · have hb := bit_odd x hx c3
    have HB := Aside0.mk hb
    have c3b : ((x : Int) % 2 == 1) = true := by rw [beq_iff_eq]; exact c3
    clear c3
    go_enter Try.func146, Try.ntmps146
    go_wp2_with fail
    go_ret
    exact ⟨by first | rfl | (rw [HB.out]; rfl) | rw [HB.out], rfl⟩
  · have hb := bit_even x (by omega)
    have HB := Aside0.mk hb
    have c3b : ((x : Int) % 2 == 1) = false := by rw [beq_eq_false_iff_ne]; exact c3
    clear c3 hb
    go_enter Try.func146, Try.ntmps146
    go_wp2_with fail
    go_ret
    exact ⟨by first | rfl | (rw [← HB.out]; rfl) | rw [← HB.out], rfl⟩
set_option maxHeartbeats 8000000 in
set_option maxRecDepth 100000 in
theorem ref_crc_calls (v : Value) (l : List Int) (w : World) (hr : Rd w .u8 v l) (hb : isB l) :
    Calls Try.prog 114 #[.int .u32 0, v] w fun e w' => e = .returned (.int .u32 (crcN l : Nat)) ∧ Below w.heap.size w w' := by
  obtain ⟨A, c, rfl, hc, hr⟩ := hr
  have hm : l.length ≤ 9223372036854775807 := hr.2.1
  have HR := Aside0.mk hr
  have HIB := Aside0.mk hb
  clear hr hb
  go_enter Try.func114, Try.ntmps114
  go_wp2_with fail
  go_loop [5, 6, 7] (fun v5 v6 v7 => ∃ k x : Nat, k ≤ l.length ∧ x < 4294967296 ∧ v6 = .int .i64 k ∧ v5 = .int .u32 x ∧ Aside0 (x = foldN 4294967295 (l.take k))) (fun _ v6 _ => l.length - (intOf v6).toNat)
  case atStart => exact ⟨0, 4294967295, by omega, by omega, rfl, rfl, ⟨rfl⟩⟩
  case round =>
    obtain ⟨k, x, hk, hx, rfl, rfl, HE⟩ := hrel
    by_cases c1 : k < l.length
    · obtain ⟨ad, e, hcell⟩ := rd_at HR.out k c1
      obtain ⟨b, hbb⟩ : ∃ b, l.getD k 0 = b := ⟨_, rfl⟩
      have hb0 := HIB.out.getD k
      rw [hbb] at hcell hb0
      obtain ⟨hb0, hb1⟩ := hb0
      obtain ⟨B, rfl⟩ := Int.eq_ofNat_of_zero_le hb0
      have hB : B < 256 := by omega
      have hxx := u32_xor_nat x B hx (by omega)
      have hlt : x ^^^ B < 4294967296 := xor_lt32 hx (by omega)
      have HN := Aside0.mk (show foldN 4294967295 (l.take (k + 1)) = itN 8 (x ^^^ B) by rw [take_snoc c1, foldN_snoc, stepN, ← HE.out, hbb, Int.toNat_natCast])
      obtain ⟨q, hq⟩ : ∃ q, x ^^^ B = q := ⟨_, rfl⟩
      rw [hq] at hxx HN hlt
      clear hbb hq
      cases e
      go_wp2_with fail
      go_loop [5, 7] (fun v5 v7 => ∃ i y : Nat, i ≤ 8 ∧ y < 4294967296 ∧ v7 = .int .i64 i ∧ v5 = .int .u32 y ∧ Aside0 (y = itN i q)) (fun _ v7 => 8 - (intOf v7).toNat)
      case atStart => exact ⟨0, q, by omega, hlt, rfl, by first | rfl | rw [hxx], ⟨rfl⟩⟩
      case round =>
        obtain ⟨i, y, hi, hy, rfl, rfl, HY⟩ := hrel
        by_cases c2 : i < 8
        · have HNB := Aside0.mk (show itN (i + 1) q = bitN y by rw [itN_snoc, ← HY.out])
          have hyl := bitN_lt hy
          go_wp2_with fail
          refine (ref_bit_calls y _ hy).mono ?_
          rintro e w1 ⟨rfl, rfl⟩
          go_wp2_with fail
          go_round
          case rel => exact ⟨i + 1, bitN y, by omega, hyl, by go_num, rfl, ⟨HNB.out.symm⟩⟩
          case measure => simp [intOf]; omega
        · have HI := Aside0.mk (show i = 8 by omega)
          go_wp2_with fail
          go_round
          case rel => exact ⟨k + 1, y, by omega, hy, by go_num, rfl, ⟨by rw [HN.out, HY.out, HI.out]⟩⟩
          case measure => simp [intOf]; omega
    · have HJ := Aside0.mk (show l.take k = l from List.take_of_length_le (by omega))
      have hxm := xor_max x hx
      have HC := Aside0.mk (show x ^^^ 4294967295 = crcN l by rw [crcN, HE.out, HJ.out])
      go_wp2_with fail
      go_ret
      exact ⟨by rw [← HC.out]; first | rfl | simp [hxm], Below.refl _ _⟩
end Go.Proofs.Ytigdchfjcfljjaa
