import Derived.Test.YtigdchfjcfljjaaMgImagePlays1
import Derived.Laws.BitsAllLaws
import Derived.WideShapes
import Derived.ChangeShapes
import Derived.ChangeSlices
import Derived.Deep.Fields
set_option linter.unusedVariables false
set_option linter.unusedSimpArgs false
section
/- The sum of bytes by a table is the sum bit by bit: plain numbers. -/
namespace Go.Proofs.Ytigdchfjcfljjaa
open Go.RowKit
def bitN (c : Nat) : Nat := if c % 2 = 1 then c / 2 ^^^ 3988292384 else c / 2
def itN : Nat → Nat → Nat
  | 0, c => c
  | n + 1, c => itN n (bitN c)
theorem itN_snoc : ∀ n c, itN (n + 1) c = bitN (itN n c)
  | 0, c => rfl
  | n + 1, c => by rw [itN, itN_snoc n]; rfl
theorem xor_lt32 {a b : Nat} (ha : a < 4294967296) (hb : b < 4294967296) : a ^^^ b < 4294967296 := Nat.xor_lt_two_pow (n := 32) ha hb
theorem bitN_lt {c : Nat} (h : c < 4294967296) : bitN c < 4294967296 := by
  unfold bitN
  split
  · exact xor_lt32 (by omega) (by omega)
  · omega
theorem itN_lt : ∀ (n : Nat) {c : Nat}, c < 4294967296 → itN n c < 4294967296
  | 0, c, h => h
  | n + 1, c, h => itN_lt n (bitN_lt h)
theorem bitN_xor (a b : Nat) : bitN (a ^^^ b) = bitN a ^^^ bitN b := by
  unfold bitN
  have h2 : (a ^^^ b) / 2 = a / 2 ^^^ b / 2 := by
    have := Nat.shiftRight_xor_distrib (a := a) (b := b) (i := 1)
    simpa [Nat.shiftRight_succ] using this
  have h1 : ((a ^^^ b) % 2 = 1) ↔ ¬ (a % 2 = 1 ↔ b % 2 = 1) := Nat.xor_mod_two_eq_one
  rw [h2]
  by_cases ha : a % 2 = 1 <;> by_cases hb : b % 2 = 1
  · rw [if_neg (by rw [h1]; simp [ha, hb]), if_pos ha, if_pos hb]
    rw [show a / 2 ^^^ 3988292384 ^^^ (b / 2 ^^^ 3988292384) = a / 2 ^^^ b / 2 ^^^ (3988292384 ^^^ 3988292384) by ac_rfl, Nat.xor_self, Nat.xor_zero]
  · rw [if_pos (by rw [h1]; simp [ha, hb]), if_pos ha, if_neg hb]; ac_rfl
  · rw [if_pos (by rw [h1]; simp [ha, hb]), if_neg ha, if_pos hb]; ac_rfl
  · rw [if_neg (by rw [h1]; simp [ha, hb]), if_neg ha, if_neg hb]
theorem itN_xor : ∀ (n a b : Nat), itN n (a ^^^ b) = itN n a ^^^ itN n b
  | 0, a, b => rfl
  | n + 1, a, b => by rw [itN, bitN_xor, itN_xor n]; rfl
theorem itN_shift : ∀ (n x : Nat), itN n (x * 2 ^ n) = x
  | 0, x => by simp [itN]
  | n + 1, x => by
    rw [itN, bitN, if_neg (by rw [Nat.pow_succ, ← Nat.mul_assoc]; omega), show x * 2 ^ (n + 1) / 2 = x * 2 ^ n by rw [Nat.pow_succ, ← Nat.mul_assoc]; omega, itN_shift n]
theorem low_high (c : Nat) : c = c % 256 ^^^ c / 256 * 256 := by
  apply Nat.eq_of_testBit_eq
  intro i
  rw [Nat.testBit_xor, show (256 : Nat) = 2 ^ 8 from rfl, Nat.testBit_mod_two_pow, Nat.testBit_mul_two_pow, Nat.testBit_div_two_pow]
  by_cases h : i < 8
  · simp [h, Nat.not_le.2 h]
  · simp [h, Nat.le_of_not_lt h]
/-- One byte. -/
theorem crc_step (c b : Nat) : itN 8 (c ^^^ b) = itN 8 (c % 256 ^^^ b) ^^^ c / 256 := by
  have e := low_high c
  have h : c ^^^ b = (c % 256 ^^^ b) ^^^ c / 256 * 2 ^ 8 := by
    rw [show (2 : Nat) ^ 8 = 256 from rfl]
    generalize c / 256 * 256 = y at *
    generalize c % 256 = x at *
    rw [e]
    ac_rfl
  rw [h, itN_xor, itN_shift]
/-- The sum in the making. -/
def stepN (c : Nat) (b : Int) : Nat := itN 8 (c ^^^ b.toNat)
def foldN (c : Nat) (l : List Int) : Nat := l.foldl stepN c
theorem foldN_nil (c : Nat) : foldN c [] = c := rfl
theorem foldN_snoc (l : List Int) (c : Nat) (b : Int) : foldN c (l ++ [b]) = stepN (foldN c l) b := by
  unfold foldN; rw [List.foldl_append]; rfl
theorem foldN_lt : ∀ (l : List Int) {c : Nat}, isB l → c < 4294967296 → foldN c l < 4294967296
  | [], c, _, h => h
  | b :: l, c, hb, h => by
    have h2 := foldN_lt l (c := stepN c b) (fun x hx => hb x (by simp [hx])) (itN_lt 8 (xor_lt32 h (by have := hb b (by simp); omega)))
    unfold foldN at h2 ⊢
    rw [List.foldl_cons]
    exact h2
/-- The sum of bytes. -/
def crcN (l : List Int) : Nat := foldN 4294967295 l ^^^ 4294967295
theorem crcN_lt {l : List Int} (h : isB l) : crcN l < 4294967296 := xor_lt32 (foldN_lt l h (by omega)) (by omega)
/-- The table's own values. -/
def tabN (i : Nat) : Int := (itN 8 i : Nat)
theorem tabN_bd (i : Nat) (h : i < 256) : 0 ≤ tabN i ∧ tabN i ≤ 4294967295 := by
  have := itN_lt 8 (show i < 4294967296 by omega)
  unfold tabN; omega
end Go.Proofs.Ytigdchfjcfljjaa
end
section
/- Contracts of package crc, and of its reference: the table, and the sum of bytes. -/
namespace Go.Proofs.Ytigdchfjcfljjaa
open Go.RowKit Go.Proofs.YtigdchfjcfljjaaW.PrintWords Go.Proofs.YtigdchfjcfljjaaW.PrintLast Go.Proofs.YtigdchfjcfljjaaW.PrintMore
attribute [local go_sem] max2_int min2_int max_two min_two max_three min_three max_four min_four
/-- Block g is the table. -/
def CrcT (W : World) (g : Nat) : Prop := W.heap[g]? = some (.cells (nums .u32 (fillL tabN 256 256)).toArray 156 (0, 0))
theorem CrcT.below {W W1 : World} {g : Nat} (h : CrcT W g) (hb : Below W.heap.size W W1) : CrcT W1 g := blk_below h hb
theorem and1 (c : Int) (h0 : 0 ≤ c) (h1 : c ≤ 4294967295) : bits .and .u32 c 1 = c % 2 := by
  rw [u32_and c 1 h0 (by omega) (by omega) (by omega), show (1 : Int).toNat = 1 from rfl, show c.toNat &&& 1 = c.toNat % 2 from Nat.and_one_is_mod _]
  omega
theorem bit_odd (c : Nat) (h : c < 4294967296) (h1 : (c : Int) % 2 = 1) : bits .xor .u32 ((c : Int) / 2) 3988292384 = (bitN c : Nat) := by
  have e : ((c : Int) / 2) = ((c / 2 : Nat) : Int) := by omega
  rw [e, show (3988292384 : Int) = ((3988292384 : Nat) : Int) from rfl, u32_xor_nat _ _ (by omega) (by omega), bitN, if_pos (by omega)]
theorem bit_even (c : Nat) (h1 : (c : Int) % 2 = 0) : ((c : Int) / 2) = (bitN c : Nat) := by
  rw [bitN, if_neg (by omega)]; omega
theorem zeros256 : (nums .u32 (fillL tabN 256 0)).toArray = #[.int .u32 0, .int .u32 0, .int .u32 0, .int .u32 0, .int .u32 0, .int .u32 0, .int .u32 0, .int .u32 0, .int .u32 0, .int .u32 0, .int .u32 0, .int .u32 0, .int .u32 0, .int .u32 0, .int .u32 0, .int .u32 0, .int .u32 0, .int .u32 0, .int .u32 0, .int .u32 0, .int .u32 0, .int .u32 0, .int .u32 0, .int .u32 0, .int .u32 0, .int .u32 0, .int .u32 0, .int .u32 0, .int .u32 0, .int .u32 0, .int .u32 0, .int .u32 0, .int .u32 0, .int .u32 0, .int .u32 0, .int .u32 0, .int .u32 0, .int .u32 0, .int .u32 0, .int .u32 0, .int .u32 0, .int .u32 0, .int .u32 0, .int .u32 0, .int .u32 0, .int .u32 0, .int .u32 0, .int .u32 0, .int .u32 0, .int .u32 0, .int .u32 0, .int .u32 0, .int .u32 0, .int .u32 0, .int .u32 0, .int .u32 0, .int .u32 0, .int .u32 0, .int .u32 0, .int .u32 0, .int .u32 0, .int .u32 0, .int .u32 0, .int .u32 0, .int .u32 0, .int .u32 0, .int .u32 0, .int .u32 0, .int .u32 0, .int .u32 0, .int .u32 0, .int .u32 0, .int .u32 0, .int .u32 0, .int .u32 0, .int .u32 0, .int .u32 0, .int .u32 0, .int .u32 0, .int .u32 0, .int .u32 0, .int .u32 0, .int .u32 0, .int .u32 0, .int .u32 0, .int .u32 0, .int .u32 0, .int .u32 0, .int .u32 0, .int .u32 0, .int .u32 0, .int .u32 0, .int .u32 0, .int .u32 0, .int .u32 0, .int .u32 0, .int .u32 0, .int .u32 0, .int .u32 0, .int .u32 0, .int .u32 0, .int .u32 0, .int .u32 0, .int .u32 0, .int .u32 0, .int .u32 0, .int .u32 0, .int .u32 0, .int .u32 0, .int .u32 0, .int .u32 0, .int .u32 0, .int .u32 0, .int .u32 0, .int .u32 0, .int .u32 0, .int .u32 0, .int .u32 0, .int .u32 0, .int .u32 0, .int .u32 0, .int .u32 0, .int .u32 0, .int .u32 0, .int .u32 0, .int .u32 0, .int .u32 0, .int .u32 0, .int .u32 0, .int .u32 0, .int .u32 0, .int .u32 0, .int .u32 0, .int .u32 0, .int .u32 0, .int .u32 0, .int .u32 0, .int .u32 0, .int .u32 0, .int .u32 0, .int .u32 0, .int .u32 0, .int .u32 0, .int .u32 0, .int .u32 0, .int .u32 0, .int .u32 0, .int .u32 0, .int .u32 0, .int .u32 0, .int .u32 0, .int .u32 0, .int .u32 0, .int .u32 0, .int .u32 0, .int .u32 0, .int .u32 0, .int .u32 0, .int .u32 0, .int .u32 0, .int .u32 0, .int .u32 0, .int .u32 0, .int .u32 0, .int .u32 0, .int .u32 0, .int .u32 0, .int .u32 0, .int .u32 0, .int .u32 0, .int .u32 0, .int .u32 0, .int .u32 0, .int .u32 0, .int .u32 0, .int .u32 0, .int .u32 0, .int .u32 0, .int .u32 0, .int .u32 0, .int .u32 0, .int .u32 0, .int .u32 0, .int .u32 0, .int .u32 0, .int .u32 0, .int .u32 0, .int .u32 0, .int .u32 0, .int .u32 0, .int .u32 0, .int .u32 0, .int .u32 0, .int .u32 0, .int .u32 0, .int .u32 0, .int .u32 0, .int .u32 0, .int .u32 0, .int .u32 0, .int .u32 0, .int .u32 0, .int .u32 0, .int .u32 0, .int .u32 0, .int .u32 0, .int .u32 0, .int .u32 0, .int .u32 0, .int .u32 0, .int .u32 0, .int .u32 0, .int .u32 0, .int .u32 0, .int .u32 0, .int .u32 0, .int .u32 0, .int .u32 0, .int .u32 0, .int .u32 0, .int .u32 0, .int .u32 0, .int .u32 0, .int .u32 0, .int .u32 0, .int .u32 0, .int .u32 0, .int .u32 0, .int .u32 0, .int .u32 0, .int .u32 0, .int .u32 0, .int .u32 0, .int .u32 0, .int .u32 0, .int .u32 0, .int .u32 0, .int .u32 0, .int .u32 0, .int .u32 0, .int .u32 0, .int .u32 0, .int .u32 0, .int .u32 0, .int .u32 0, .int .u32 0, .int .u32 0, .int .u32 0, .int .u32 0, .int .u32 0, .int .u32 0, .int .u32 0, .int .u32 0, .int .u32 0, .int .u32 0, .int .u32 0] := by
  kernel_rfl
set_option maxHeartbeats 8000000 in
set_option maxRecDepth 100000 in
theorem crc_Make_calls (w : World) :
    Calls Try.prog 22 #[] w fun e w' => e = .returned (.pointer (some ⟨w.heap.size, 0, none⟩)) ∧ CrcT w' w.heap.size ∧ Below w.heap.size w w' := by
  go_enter Try.func22, Try.ntmps22
  go_wp2_with fail
  go_loopw [2, 3, 6] (fun v2 v3 v6 w' => ∃ i : Nat, i ≤ 256 ∧ v6 = .int .i64 i ∧ Aside0 (w'.heap[w.heap.size]? = some (.cells (nums .u32 (fillL tabN 256 i)).toArray 156 (0, 0))) ∧ Aside0 (Below w.heap.size w w')) (fun _ _ v6 _ => 256 - (intOf v6).toNat)
  case atStart => exact ⟨0, by omega, rfl, ⟨by rw [zeros256]; exact blk_new _ _⟩, ⟨below_alloc (Below.refl _ _) _⟩⟩
  case round =>
    obtain ⟨i, hi, rfl, HX, HB⟩ := hrel
    by_cases c : i < 256
    · obtain ⟨wo, rfl⟩ : ∃ wo : World, wo = wr := ⟨_, rfl⟩
      go_wp2_with fail
      go_loop [3, 11] (fun v3 v11 => ∃ k x : Nat, k ≤ 8 ∧ x < 4294967296 ∧ v11 = .int .i64 k ∧ v3 = .int .u32 x ∧ Aside0 (x = itN k i)) (fun _ v11 => 8 - (intOf v11).toNat)
      case atStart => exact ⟨0, i, by omega, by omega, rfl, rfl, ⟨rfl⟩⟩
      case round =>
        obtain ⟨k, x, hk, hx, rfl, rfl, HE⟩ := hrel
        have ha := and1 x (by omega) (by omega)
        by_cases c2 : k < 8
        · have HN := Aside0.mk (show itN (k + 1) i = bitN x by rw [itN_snoc, ← HE.out])
          have hxl := bitN_lt hx
          by_cases c3 : (x : Int) % 2 = 1
          · have hb := bit_odd x hx c3
            have c3b : ((x : Int) % 2 == 1) = true := by rw [beq_iff_eq]; exact c3
            clear c3
            go_wp2_with fail
            go_round
            case rel => exact ⟨k + 1, bitN x, by omega, hxl, by go_num, by first | rfl | (rw [hb]), ⟨HN.out.symm⟩⟩
            case measure => simp [intOf]; omega
          · have hb := bit_even x (by omega)
            have c3b : ((x : Int) % 2 == 1) = false := by rw [beq_eq_false_iff_ne]; exact c3
            clear c3
            go_wp2_with fail
            go_round
            case rel => exact ⟨k + 1, bitN x, by omega, hxl, by go_num, by first | rfl | (rw [hb]), ⟨HN.out.symm⟩⟩
            case measure => simp [intOf]; omega
        · have hk8 : k = 8 := by omega
          have hf := blk_frozen HX.out i
          have hc : wo.cell? ⟨w.heap.size, i, none⟩ = some (.int .u32 ((fillL tabN 256 i).getD i 0)) := by
            rw [blk_cell HX.out i]
            have : i < (nums .u32 (fillL tabN 256 i)).length := by simp [nums, fillL_len tabN 256 i hi, c]
            simp [nums, List.getD_eq_getElem?_getD, fillL_len tabN 256 i hi, c]
          have hfin := Aside0.mk (show (wo.setCell ⟨w.heap.size, i, none⟩ (.int .u32 x)).heap[w.heap.size]? = some (.cells (nums .u32 (fillL tabN 256 (i + 1))).toArray 156 (0, 0)) by
            rw [blk_set HX.out i, nums_set, fillL_set tabN 256 i c (by rw [tabN, ← hk8, HE.out])])
          have HBB := Aside0.mk (show Below w.heap.size w (wo.setCell ⟨w.heap.size, i, none⟩ (.int .u32 x)) from HB.out.setCell (Nat.le_refl _) _)
          clear hk8
          go_wp2_with fail
          go_roundw
          case rel => exact ⟨i + 1, by omega, by go_num, hfin, HBB⟩
          case measure => simp [intOf]; omega
    · have hi2 : i = 256 := by omega
      subst hi2
      go_wp2_with fail
      go_ret
      exact ⟨rfl, HX.out, HB.out⟩
theorem xor_max (x : Nat) (h : x < 4294967296) : bits .xor .u32 (x : Int) 4294967295 = ((x ^^^ 4294967295 : Nat) : Int) := by
  rw [show (4294967295 : Int) = ((4294967295 : Nat) : Int) from rfl, u32_xor_nat _ _ h (by omega)]
theorem crc_round {w : World} {g : Nat} (hT : CrcT w g) (x : Nat) (X b : Int) (hX : X = (x : Nat)) (h0 : 0 ≤ X) (h1 : X ≤ 4294967295) (hb0 : 0 ≤ b) (hb1 : b ≤ 255) :
    ∃ (y : Nat) (M Q T R : Int), y < 256 ∧ X % 256 = M ∧ 0 ≤ M ∧ M ≤ 255 ∧ X / 256 = Q ∧ 0 ≤ Q ∧ Q ≤ 16777215 ∧ bits .xor .u8 M b = (y : Int) ∧ w.cell? ⟨g, y, none⟩ = some (.int .u32 T) ∧ bits .xor .u32 T Q = R ∧ 0 ≤ R ∧ R ≤ 4294967295 ∧ R = (stepN x b : Nat) := by
  subst hX
  obtain ⟨B, rfl⟩ := Int.eq_ofNat_of_zero_le hb0
  have hidx : x % 256 ^^^ B < 256 := Nat.xor_lt_two_pow (n := 8) (by omega) (by omega)
  refine ⟨x % 256 ^^^ B, ((x % 256 : Nat) : Int), ((x / 256 : Nat) : Int), (itN 8 (x % 256 ^^^ B) : Nat), (itN 8 (x % 256 ^^^ B) ^^^ x / 256 : Nat), hidx, by omega, by omega, by omega, by omega, by omega, by omega, u8_xor_nat _ _ (by omega) (by omega), ?_, u32_xor_nat _ _ (itN_lt 8 (by omega)) (by omega), by omega, ?_, ?_⟩
  · rw [blk_cell hT]
    simp [nums, fillL, hidx, tabN]
  · have := xor_lt32 (itN_lt 8 (show x % 256 ^^^ B < 4294967296 by omega)) (show x / 256 < 4294967296 by omega)
    omega
  · rw [stepN, Int.toNat_natCast, crc_step x B]
theorem crc_last (x : Nat) (X : Int) (hX : X = (x : Nat)) (h0 : 0 ≤ X) (h1 : X ≤ 4294967295) : ∃ C : Int, bits .xor .u32 IntKind.u32.max X = C ∧ C = (x ^^^ 4294967295 : Nat) := by
  subst hX
  refine ⟨_, rfl, ?_⟩
  rw [show IntKind.u32.max = ((4294967295 : Nat) : Int) from rfl, u32_xor_nat _ _ (by omega) (by omega), Nat.xor_comm]
set_option maxHeartbeats 8000000 in
set_option maxRecDepth 100000 in
theorem crc_Add_calls (v : Value) (l : List Int) (w : World) (g : Nat) (hT : CrcT w g) (hr : Rd w .u8 v l) (hb : isB l) :
    Calls Try.prog 143 #[.pointer (some ⟨g, 0, none⟩), .int .u32 0, v] w fun e w' => e = .returned (.int .u32 (crcN l : Nat)) ∧ Below w.heap.size w w' := by
  obtain ⟨A, c, rfl, hc, hr⟩ := hr
  have hm : l.length ≤ 9223372036854775807 := hr.2.1
  have HR := Aside0.mk hr
  have HIB := Aside0.mk hb
  have HT := Aside0.mk hT
  clear hr hb hT
  go_enter Try.func143, Try.ntmps143
  go_wp2_with fail
  go_loop [1, 8, 15] (fun v1 v8 v15 => ∃ (k : Nat) (X : Int), k ≤ l.length ∧ 0 ≤ X ∧ X ≤ 4294967295 ∧ v15 = .int .i64 k ∧ v1 = .int .u32 X ∧ Aside0 (X = (foldN 4294967295 (l.take k) : Nat))) (fun _ _ v15 => l.length - (intOf v15).toNat)
  case atStart => exact ⟨0, 4294967295, by omega, by omega, by omega, rfl, rfl, ⟨rfl⟩⟩
  case round =>
    obtain ⟨k, X, hk, hX0, hX1, rfl, rfl, HE⟩ := hrel
    by_cases c1 : k < l.length
    · obtain ⟨ad, e, hcell⟩ := rd_at HR.out k c1
      obtain ⟨b, hbb⟩ : ∃ b, l.getD k 0 = b := ⟨_, rfl⟩
      have hb0 := HIB.out.getD k
      rw [hbb] at hcell hb0
      obtain ⟨hb0, hb1⟩ := hb0
      obtain ⟨y, M, Q, T, R, hy, hM, hM0, hM1, hQ, hQ0, hQ1, hx8, htc, hxx, hR0, hR1, hN⟩ := crc_round HT.out (foldN 4294967295 (l.take k)) X b HE.out hX0 hX1 hb0 hb1
      have HN := Aside0.mk (show R = (foldN 4294967295 (l.take (k + 1)) : Nat) by rw [take_snoc c1, foldN_snoc, hbb]; exact hN)
      clear hbb hN
      cases e
      go_wp2_with fail
      go_round
      case rel => exact ⟨k + 1, R, by omega, hR0, hR1, by go_num, rfl, HN⟩
      case measure => simp [intOf]; omega
    · have HJ := Aside0.mk (show l.take k = l from List.take_of_length_le (by omega))
      obtain ⟨C, hxm, hC⟩ := crc_last (foldN 4294967295 (l.take k)) X HE.out hX0 hX1
      have HC := Aside0.mk (show C = (crcN l : Nat) by rw [hC, crcN, HJ.out])
      clear hC
      go_wp2_with fail
      go_ret
      exact ⟨by rw [← HC.out]; rfl, Below.refl _ _⟩
set_option maxHeartbeats 8000000 in
set_option maxRecDepth 100000 in
theorem crc_Sum_calls (v : Value) (l : List Int) (w : World) (g : Nat) (hT : CrcT w g) (hr : Rd w .u8 v l) (hb : isB l) :
    Calls Try.prog 95 #[.pointer (some ⟨g, 0, none⟩), v] w fun e w' => e = .returned (.int .u32 (crcN l : Nat)) ∧ Below w.heap.size w w' := by
  have HR := Aside0.mk hr
  have HIB := Aside0.mk hb
  have HT := Aside0.mk hT
  clear hr hb hT
  go_enter Try.func95, Try.ntmps95
  go_wp2_with fail
  refine (crc_Add_calls v l _ g HT.out HR.out HIB.out).mono ?_
  rintro e w1 ⟨rfl, hb⟩
  have HB := Aside0.mk hb
  clear hb
  go_wp2_with fail
  go_ret
  exact ⟨rfl, HB.out⟩
set_option maxHeartbeats 8000000 in
set_option maxRecDepth 100000 in
theorem ref_bit_calls (x : Nat) (w : World) (hx : x < 4294967296) :
    Calls Try.prog 146 #[.int .u32 x] w fun e w' => e = .returned (.int .u32 (bitN x : Nat)) ∧ w = w' := by
  by_cases c3 : (x : Int) % 2 = 1
  · have hb := bit_odd x hx c3
    have HB := Aside0.mk hb
    have c3b : ((x : Int) % 2 == 1) = true := by rw [beq_iff_eq]; exact c3
    clear c3
    go_enter Try.func146, Try.ntmps146
    go_wp2_with fail
    go_ret
    exact ⟨by first | rfl | (rw [HB.out]; rfl) | rw [HB.out], rfl⟩
  · have hb := bit_even x (by omega)
    have HB := Aside0.mk hb
    have c3b : ((x : Int) % 2 == 1) = false := by rw [beq_eq_false_iff_ne]; exact c3
    clear c3 hb
    go_enter Try.func146, Try.ntmps146
    go_wp2_with fail
    go_ret
    exact ⟨by first | rfl | (rw [← HB.out]; rfl) | rw [← HB.out], rfl⟩
set_option maxHeartbeats 8000000 in
set_option maxRecDepth 100000 in
theorem ref_crc_calls (v : Value) (l : List Int) (w : World) (hr : Rd w .u8 v l) (hb : isB l) :
    Calls Try.prog 114 #[.int .u32 0, v] w fun e w' => e = .returned (.int .u32 (crcN l : Nat)) ∧ Below w.heap.size w w' := by
  obtain ⟨A, c, rfl, hc, hr⟩ := hr
  have hm : l.length ≤ 9223372036854775807 := hr.2.1
  have HR := Aside0.mk hr
  have HIB := Aside0.mk hb
  clear hr hb
  go_enter Try.func114, Try.ntmps114
  go_wp2_with fail
  go_loop [5, 6, 7] (fun v5 v6 v7 => ∃ k x : Nat, k ≤ l.length ∧ x < 4294967296 ∧ v6 = .int .i64 k ∧ v5 = .int .u32 x ∧ Aside0 (x = foldN 4294967295 (l.take k))) (fun _ v6 _ => l.length - (intOf v6).toNat)
  case atStart => exact ⟨0, 4294967295, by omega, by omega, rfl, rfl, ⟨rfl⟩⟩
  case round =>
    obtain ⟨k, x, hk, hx, rfl, rfl, HE⟩ := hrel
    by_cases c1 : k < l.length
    · obtain ⟨ad, e, hcell⟩ := rd_at HR.out k c1
      obtain ⟨b, hbb⟩ : ∃ b, l.getD k 0 = b := ⟨_, rfl⟩
      have hb0 := HIB.out.getD k
      rw [hbb] at hcell hb0
      obtain ⟨hb0, hb1⟩ := hb0
      obtain ⟨B, rfl⟩ := Int.eq_ofNat_of_zero_le hb0
      have hB : B < 256 := by omega
      have hxx := u32_xor_nat x B hx (by omega)
      have hlt : x ^^^ B < 4294967296 := xor_lt32 hx (by omega)
      have HN := Aside0.mk (show foldN 4294967295 (l.take (k + 1)) = itN 8 (x ^^^ B) by rw [take_snoc c1, foldN_snoc, stepN, ← HE.out, hbb, Int.toNat_natCast])
      obtain ⟨q, hq⟩ : ∃ q, x ^^^ B = q := ⟨_, rfl⟩
      rw [hq] at hxx HN hlt
      clear hbb hq
      cases e
      go_wp2_with fail
      go_loop [5, 7] (fun v5 v7 => ∃ i y : Nat, i ≤ 8 ∧ y < 4294967296 ∧ v7 = .int .i64 i ∧ v5 = .int .u32 y ∧ Aside0 (y = itN i q)) (fun _ v7 => 8 - (intOf v7).toNat)
      case atStart => exact ⟨0, q, by omega, hlt, rfl, by first | rfl | rw [hxx], ⟨rfl⟩⟩
      case round =>
        obtain ⟨i, y, hi, hy, rfl, rfl, HY⟩ := hrel
        by_cases c2 : i < 8
        · have HNB := Aside0.mk (show itN (i + 1) q = bitN y by rw [itN_snoc, ← HY.out])
          have hyl := bitN_lt hy
          go_wp2_with fail
          refine (ref_bit_calls y _ hy).mono ?_
          rintro e w1 ⟨rfl, rfl⟩
          go_wp2_with fail
          go_round
          case rel => exact ⟨i + 1, bitN y, by omega, hyl, by go_num, rfl, ⟨HNB.out.symm⟩⟩
          case measure => simp [intOf]; omega
        · have HI := Aside0.mk (show i = 8 by omega)
          go_wp2_with fail
          go_round
          case rel => exact ⟨k + 1, y, by omega, hy, by go_num, rfl, ⟨by rw [HN.out, HY.out, HI.out]⟩⟩
          case measure => simp [intOf]; omega
    · have HJ := Aside0.mk (show l.take k = l from List.take_of_length_le (by omega))
      have hxm := xor_max x hx
      have HC := Aside0.mk (show x ^^^ 4294967295 = crcN l by rw [crcN, HE.out, HJ.out])
      go_wp2_with fail
      go_ret
      exact ⟨by rw [← HC.out]; first | rfl | simp [hxm], Below.refl _ _⟩
end Go.Proofs.Ytigdchfjcfljjaa
end
section
/- Headers and slots as bytes: contracts of the two Encodes, and of their references. -/
namespace Go.Proofs.Ytigdchfjcfljjaa
open Go.RowKit Go.Proofs.YtigdchfjcfljjaaW.PrintWords Go.Proofs.YtigdchfjcfljjaaW.PrintLast Go.Proofs.YtigdchfjcfljjaaW.PrintMore
attribute [local go_sem] max2_int min2_int max_two min_two max_three min_three max_four min_four
def magicL : List Int := [76, 79, 71, 66, 79, 79, 75, 49]
theorem magic_isB : isB magicL := fun x hx => by simp [magicL] at hx; omega
theorem isB_nil : isB [] := fun x hx => by simp at hx
/-- The bytes ahead of the sum, with it, and filled up. -/
def encB (pre ws : List Int) : List Int := pre ++ words8 ws
def encC (pre ws : List Int) : List Int := encB pre ws ++ leB (crcN (encB pre ws) : Nat) 4
def encZ (pre ws : List Int) : List Int := encC pre ws ++ List.replicate 12 0
theorem encB_isB {pre : List Int} (h : isB pre) (ws : List Int) : isB (encB pre ws) := h.app (words8_isB' _)
theorem encC_isB {pre : List Int} (h : isB pre) (ws : List Int) : isB (encC pre ws) := (encB_isB h ws).app (leB_isB _ _)
theorem zeros_isB (n : Nat) : isB (List.replicate n 0) := fun x hx => by have := List.eq_of_mem_replicate hx; omega
theorem encZ_isB {pre : List Int} (h : isB pre) (ws : List Int) : isB (encZ pre ws) := (encC_isB h ws).app (zeros_isB _)
theorem encB_len (pre ws : List Int) : (encB pre ws).length = pre.length + 8 * ws.length := by simp [encB, words8_len]
theorem encC_len (pre ws : List Int) : (encC pre ws).length = pre.length + 8 * ws.length + 4 := by simp [encC, encB_len, leB_len]
theorem leW8 : leW 8 = 8 := by decide
theorem leW4 : leW 4 = 4 := by decide
theorem pad52 : padN 52 64 = 12 := by decide
def hR (d f : Int) : Bool := decide (1 ≤ d) && decide (d ≤ 256) && decide (1 ≤ f) && decide (f ≤ 256)
set_option maxHeartbeats 8000000 in
set_option maxRecDepth 100000 in
theorem head_Right_calls (id key data fields made : Int) (w : World) :
    Calls Try.prog 115 #[.agg #[.int .u64 id, .int .u64 key, .int .i64 data, .int .i64 fields, .int .u64 made]] w fun e w' => e = .returned (.bool (hR data fields)) ∧ Below w.heap.size w w' := by
  cases a : decide (1 ≤ data) <;> cases b : decide (data ≤ 256) <;> cases c : decide (1 ≤ fields) <;> cases d : decide (fields ≤ 256)
  all_goals
    go_enter Try.func115, Try.ntmps115
    go_wp2
    go_ret
    exact ⟨by simp only [hR, a, b, c, d]; rfl, below_alloc (Below.refl _ _) _⟩
set_option maxHeartbeats 8000000 in
set_option maxRecDepth 100000 in
theorem ref_hRight_calls (id key data fields made : Int) (w : World) :
    Calls Try.prog 112 #[.agg #[.int .u64 id, .int .u64 key, .int .i64 data, .int .i64 fields, .int .u64 made]] w fun e w' => e = .returned (.bool (hR data fields)) ∧ Below w.heap.size w w' := by
  cases a : decide (1 ≤ data) <;> cases b : decide (data ≤ 256) <;> cases c : decide (1 ≤ fields) <;> cases d : decide (fields ≤ 256)
  all_goals
    go_enter Try.func112, Try.ntmps112
    go_wp2
    go_ret
    exact ⟨by simp only [hR, a, b, c, d]; rfl, below_alloc (Below.refl _ _) _⟩
def sR (turn state tail : Int) : Bool := decide (0 < turn) && ((state == 1) || (state == 2)) && (tail % 8 == 0)
set_option maxHeartbeats 8000000 in
set_option maxRecDepth 100000 in
theorem head_Encode_yes (id key data fields made : Int) (w : World) (T : Nat) (hT : CrcT w T) (hr : hR data fields = true) (id0 : 0 ≤ id) (id1 : id ≤ 18446744073709551615) (key0 : 0 ≤ key) (key1 : key ≤ 18446744073709551615) (data0 : 0 ≤ data) (data1 : data ≤ 256) (fields0 : 0 ≤ fields) (fields1 : fields ≤ 256) (made0 : 0 ≤ made) (made1 : made ≤ 18446744073709551615) :
    Calls Try.prog 119 #[.agg #[.int .u64 id, .int .u64 key, .int .i64 data, .int .i64 fields, .int .u64 made], .pointer (some ⟨T, 0, none⟩)] w fun e w' => ∃ v, e = .returned v ∧ Own (Value.int .u8) w' w.heap.size 5 v (encZ magicL [id, key, data, fields, made]) ∧ Below w.heap.size w w' := by
  have HT := Aside0.mk hT
  have HR := Aside0.mk hr
  have HBX := Aside0.mk (blk_new w (.cells #[.int .u64 id, .int .u64 key, .int .i64 data, .int .i64 fields, .int .u64 made] 59))
  have HW := Aside0.mk (show isW [id, key, data, fields, made] by intro x hx; simp only [List.mem_cons, List.not_mem_nil, or_false] at hx; rcases hx with rfl | rfl | rfl | rfl | rfl <;> omega)
  have hcb := crcN_lt (encB_isB (show isB magicL by exact magic_isB) [id, key, data, fields, made])
  obtain ⟨K, hK⟩ : ∃ K : Int, ((crcN (encB magicL [id, key, data, fields, made]) : Nat) : Int) = K := ⟨_, rfl⟩
  have hK0 : 0 ≤ K := by omega
  have hK1 : K ≤ 4294967295 := by omega
  have HKK := Aside0.mk hK
  clear hr hT hK hcb
  go_enter Try.func119, Try.ntmps119
  go_wp2_with fail
  refine (head_Right_calls id key data fields made _).mono ?_
  rintro e w1 ⟨rfl, hb⟩
  have HB1 := Aside0.mk (below_step (below_alloc (Below.refl _ _) (.cells #[.int .u64 id, .int .u64 key, .int .i64 data, .int .i64 fields, .int .u64 made] 59)) hb)
  have HX1 := Aside0.mk (blk_below HBX.out hb)
  clear hb
  rw [HR.out]
  have HV0 := Aside0.mk (show WrV ((w1.alloc (.cells #[.slice none 0 0] 159)).alloc (.cells #[.int .u8 76, .int .u8 79, .int .u8 71, .int .u8 66, .int .u8 79, .int .u8 79, .int .u8 75, .int .u8 49] 5 (8, 9))) w1.heap.size w.heap.size (.slice none 0 0) [] from ⟨blk_alloc (blk_new _ _) _, Own.nil _ _ _ _⟩)
  have HM0 := Aside0.mk (show Rd ((w1.alloc (.cells #[.slice none 0 0] 159)).alloc (.cells #[.int .u8 76, .int .u8 79, .int .u8 71, .int .u8 66, .int .u8 79, .int .u8 79, .int .u8 75, .int .u8 49] 5 (8, 9))) .u8 (.slice (some ⟨w1.heap.size + 1, 0, none⟩) 8 8) magicL by have := Rd.const (w1.alloc (.cells #[.slice none 0 0] 159)) .u8 5 (8, 9) magicL (by simp [magicL]); simpa [magicL, nums] using this)
  have HB0 := Aside0.mk (below_alloc (below_alloc HB1.out (.cells #[.slice none 0 0] 159)) (.cells #[.int .u8 76, .int .u8 79, .int .u8 71, .int .u8 66, .int .u8 79, .int .u8 79, .int .u8 75, .int .u8 49] 5 (8, 9)))
  have HX0 := Aside0.mk (blk_alloc (blk_alloc HX1.out (.cells #[.slice none 0 0] 159)) (.cells #[.int .u8 76, .int .u8 79, .int .u8 71, .int .u8 66, .int .u8 79, .int .u8 79, .int .u8 75, .int .u8 49] 5 (8, 9)))
  have hcv : (convert 22 22 (.slice (some ⟨w1.heap.size + 1, 0, none⟩) 8 8)).run Try.prog ((w1.alloc (.cells #[.slice none 0 0] 159)).alloc (.cells #[.int .u8 76, .int .u8 79, .int .u8 71, .int .u8 66, .int .u8 79, .int .u8 79, .int .u8 75, .int .u8 49] 5)) = .ok (.slice (some ⟨w1.heap.size + 1, 0, none⟩) 8 8) ((w1.alloc (.cells #[.slice none 0 0] 159)).alloc (.cells #[.int .u8 76, .int .u8 79, .int .u8 71, .int .u8 66, .int .u8 79, .int .u8 79, .int .u8 75, .int .u8 49] 5 (8, 9))) := Go.Joins.run_convert_bytes_const_at (w1.alloc (.cells #[.slice none 0 0] 159)) 22 5 #[.int .u8 76, .int .u8 79, .int .u8 71, .int .u8 66, .int .u8 79, .int .u8 79, .int .u8 75, .int .u8 49] 8 8 (w1.heap.size + 1) (by simp) Try.underlying22 Try.underlying5
  go_wp2_with fail
  refine (Writer_Raw_calls _ magicL _ w1.heap.size w.heap.size (.slice none 0 0) [] HV0.out HM0.out (by have := HB0.out.size; simpa using this) (by simp [magicL])).mono ?_
  rintro e w2 ⟨rfl, hs⟩
  obtain ⟨v2, hv2, hb2⟩ := WrS.next HV0.out HB0.out HB1.out.size hs
  have HX2 := Aside0.mk (hs.keep HV0.out HX0.out (by decide) (by have := blk_lt HX1.out; omega))
  rw [List.nil_append] at hv2
  clear hcv
  have HV2 := Aside0.mk hv2
  have HB2 := Aside0.mk hb2
  clear hs hv2 hb2
  have c0 := blk_cell HX2.out 0
  have c1 := blk_cell HX2.out 1
  have c2 := blk_cell HX2.out 2
  have c3 := blk_cell HX2.out 3
  have c4 := blk_cell HX2.out 4
  have HV3 := Aside0.mk (HV2.out.below (below_alloc (Below.refl _ _) (.cells #[.int .u64 id, .int .u64 key, .int .u64 data, .int .u64 fields, .int .u64 made] 32)))
  have HB3 := Aside0.mk (below_alloc HB2.out (.cells #[.int .u64 id, .int .u64 key, .int .u64 data, .int .u64 fields, .int .u64 made] 32))
  have HM3 := Aside0.mk (show Rd ((w2).alloc (.cells #[.int .u64 id, .int .u64 key, .int .u64 data, .int .u64 fields, .int .u64 made] 32)) .u64 (.slice (some ⟨w2.heap.size, 0, none⟩) 5 5) [id, key, data, fields, made] by have := Rd.lit (w2) .u64 32 [id, key, data, fields, made] (by simp); simpa [nums] using this)
  have HLT := Aside0.mk (fun k (hk : Value.ownBlock (v2) = some k) => HV2.out.2.lt hk)
  have HGL := Aside0.mk (show w1.heap.size < (w2).heap.size from blk_lt HV2.out.1)
  go_wp2_with fail
  refine (Writer_Words_calls (.slice (some ⟨w2.heap.size, 0, none⟩) 5 5) [id, key, data, fields, made] HW.out _ w1.heap.size w.heap.size (v2) magicL HV3.out HM3.out ?_ ?_ (by simp [magicL])).mono ?_
  · intro A' n' c' e1 _
    simp only [Value.slice.injEq, Option.some.injEq] at e1
    obtain ⟨rfl, _, _⟩ := e1
    refine ⟨?_, fun hh => ?_⟩
    · have := HGL.out
      (try simp at this ⊢) <;> omega
    · have := HLT.out _ hh
      (try simp at this) <;> omega
  · have := HB3.out.size; simpa using this
  rintro e w4 ⟨rfl, hs⟩
  obtain ⟨v4, hv4, hb4⟩ := WrS.next HV3.out HB3.out HB1.out.size hs
  have HV4 := Aside0.mk (show WrV w4 w1.heap.size w.heap.size v4 (encB magicL [id, key, data, fields, made]) from hv4)
  have HB4 := Aside0.mk hb4
  clear hs hv4 hb4 c0 c1 c2 c3 c4
  have HL := Aside0.mk (show (encB magicL [id, key, data, fields, made]).length = 48 by simp [encB_len, magicL])
  go_wp2_with fail
  refine (Writer_Done_calls _ w1.heap.size w.heap.size v4 (encB magicL [id, key, data, fields, made]) HV4.out (by rw [HL.out]; omega)).mono ?_
  rintro e w5 ⟨v5, rfl, ho, hb⟩
  have HO5 := Aside0.mk (Own.rd ho)
  have HV5 := Aside0.mk (HV4.out.below hb)
  have HB5 := Aside0.mk (below_step HB4.out hb)
  clear ho hb
  go_wp2_with fail
  refine (crc_Sum_calls v5 (encB magicL [id, key, data, fields, made]) _ T (HT.out.below HB5.out) HO5.out (encB_isB (show isB magicL by exact magic_isB) _)).mono ?_
  rintro e w6 ⟨rfl, hb⟩
  have HV6 := Aside0.mk (HV5.out.below hb)
  have HB6 := Aside0.mk (below_step HB5.out hb)
  clear hb
  rw [HKK.out]
  go_wp2_with fail
  refine (Writer_Num_calls K 4 _ w1.heap.size w.heap.size v4 (encB magicL [id, key, data, fields, made]) HV6.out HB6.out.size (by rw [HL.out]; omega) hK0 (by omega)).mono ?_
  rintro e w7 ⟨rfl, hs⟩
  obtain ⟨v7, hv7, hb7⟩ := WrS.next HV6.out HB6.out HB1.out.size hs
  have HC := Aside0.mk (show (encB magicL [id, key, data, fields, made]) ++ leB K (leW 4) = encC magicL [id, key, data, fields, made] by rw [encC, ← HKK.out, leW4])
  have HLC := Aside0.mk (show (encC magicL [id, key, data, fields, made]).length = 52 by simp [encC_len, magicL])
  rw [HC.out] at hv7
  have HV7 := Aside0.mk hv7
  have HB7 := Aside0.mk hb7
  clear hs hv7 hb7
  go_wp2_with fail
  refine (Writer_Pad_calls 64 _ w1.heap.size w.heap.size v7 _ HV7.out HB7.out.size (by rw [HLC.out]; decide)).mono ?_
  rintro e w8 ⟨rfl, hs⟩
  obtain ⟨v8, hv8, hb8⟩ := WrS.next HV7.out HB7.out HB1.out.size hs
  rw [HLC.out, show padN ((52 : Nat) : Int) 64 = 12 from pad52] at hv8
  have HV8 := Aside0.mk (show WrV w8 w1.heap.size w.heap.size v8 (encZ magicL [id, key, data, fields, made]) from hv8)
  have HB8 := Aside0.mk hb8
  clear hs hv8 hb8
  go_wp2_with fail
  refine (Writer_Done_calls _ w1.heap.size w.heap.size v8 _ HV8.out (by simp [encZ, HLC.out])).mono ?_
  rintro e w9 ⟨v9, rfl, ho, hb⟩
  have HO9 := Aside0.mk (ho.weaken HB8.out.size)
  have HB9 := Aside0.mk (below_step HB8.out hb)
  clear ho hb
  go_wp2_with fail
  go_ret
  exact ⟨_, rfl, HO9.out, HB9.out⟩
end Go.Proofs.Ytigdchfjcfljjaa
end
section
/- Headers and slots as bytes: the references' Encodes. -/
namespace Go.Proofs.Ytigdchfjcfljjaa
open Go.RowKit Go.Proofs.YtigdchfjcfljjaaW.PrintWords Go.Proofs.YtigdchfjcfljjaaW.PrintLast Go.Proofs.YtigdchfjcfljjaaW.PrintMore
attribute [local go_sem] max2_int min2_int max_two min_two max_three min_three max_four min_four
theorem encB_snoc (pre ws : List Int) (k : Nat) (h : k < ws.length) : encB pre (ws.take (k + 1)) = encB pre (ws.take k) ++ leB (ws.getD k 0) 8 := by
  rw [take_snoc h, encB, encB, words8_snoc, List.append_assoc]
theorem nums_cell {W : World} {g t : Nat} {k : IntKind} {xs : List Int} (h : W.heap[g]? = some (.cells (nums k xs).toArray t (0, 0))) (i : Nat) (hi : i < xs.length) : W.cell? ⟨g, i, none⟩ = some (.int k (xs.getD i 0)) := by
  rw [blk_cell h]
  simp [nums, List.getD_eq_getElem?_getD, hi]
theorem nums_grown {W W1 : World} {g t : Nat} {o : Option Nat} {k : IntKind} {xs ys : List Int} {base : Nat} {v : Value} (hO : Own (Value.int .u8) W base 5 v ys) (hg : W.grownBy W1 v.ownBlock) {cs : Array Value} (ht : 5 ≠ t) (h : W.heap[g]? = some (.cells cs t (0, 0))) : W1.heap[g]? = some (.cells cs t (0, 0)) :=
  blk_grown h hg (fun e => hO.ne h ht e.symm)
set_option maxHeartbeats 8000000 in
set_option maxRecDepth 100000 in
theorem ref_hEncode_yes (id key data fields made : Int) (w : World) (hr : hR data fields = true) (id0 : 0 ≤ id) (id1 : id ≤ 18446744073709551615) (key0 : 0 ≤ key) (key1 : key ≤ 18446744073709551615) (data0 : 0 ≤ data) (data1 : data ≤ 256) (fields0 : 0 ≤ fields) (fields1 : fields ≤ 256) (made0 : 0 ≤ made) (made1 : made ≤ 18446744073709551615) :
    Calls Try.prog 37 #[.agg #[.int .u64 id, .int .u64 key, .int .i64 data, .int .i64 fields, .int .u64 made]] w fun e w' => ∃ v, e = .returned v ∧ Own (Value.int .u8) w' w.heap.size 5 v (encZ magicL [id, key, data, fields, made]) ∧ Below w.heap.size w w' := by
  have HR := Aside0.mk hr
  have HW := Aside0.mk (show isW [id, key, data, fields, made] by intro x hx; simp only [List.mem_cons, List.not_mem_nil, or_false] at hx; rcases hx with rfl | rfl | rfl | rfl | rfl <;> omega)
  have hcb := crcN_lt (encB_isB (show isB magicL by exact magic_isB) [id, key, data, fields, made])
  obtain ⟨K, hK⟩ : ∃ K : Int, ((crcN (encB magicL [id, key, data, fields, made]) : Nat) : Int) = K := ⟨_, rfl⟩
  have hK0 : 0 ≤ K := by omega
  have hK1 : K ≤ 4294967295 := by omega
  have HKK := Aside0.mk hK
  clear hr hK hcb
  go_enter Try.func37, Try.ntmps37
  go_wp2_with fail
  refine (ref_hRight_calls id key data fields made _).mono ?_
  rintro e w1 ⟨rfl, hb⟩
  have HB1 := Aside0.mk (below_step (below_alloc (Below.refl _ _) (.cells #[.int .u64 id, .int .u64 key, .int .i64 data, .int .i64 fields, .int .u64 made] 60)) hb)
  have HX1 := Aside0.mk (blk_below (blk_new w (.cells #[.int .u64 id, .int .u64 key, .int .i64 data, .int .i64 fields, .int .u64 made] 60)) hb)
  clear hb
  rw [HR.out]
  have c0 := blk_cell (blk_alloc HX1.out (.cells #[.int .u8 76, .int .u8 79, .int .u8 71, .int .u8 66, .int .u8 79, .int .u8 79, .int .u8 75, .int .u8 49] 5)) 0
  have c1 := blk_cell (blk_alloc HX1.out (.cells #[.int .u8 76, .int .u8 79, .int .u8 71, .int .u8 66, .int .u8 79, .int .u8 79, .int .u8 75, .int .u8 49] 5)) 1
  have c2 := blk_cell (blk_alloc HX1.out (.cells #[.int .u8 76, .int .u8 79, .int .u8 71, .int .u8 66, .int .u8 79, .int .u8 79, .int .u8 75, .int .u8 49] 5)) 2
  have c3 := blk_cell (blk_alloc HX1.out (.cells #[.int .u8 76, .int .u8 79, .int .u8 71, .int .u8 66, .int .u8 79, .int .u8 79, .int .u8 75, .int .u8 49] 5)) 3
  have c4 := blk_cell (blk_alloc HX1.out (.cells #[.int .u8 76, .int .u8 79, .int .u8 71, .int .u8 66, .int .u8 79, .int .u8 79, .int .u8 75, .int .u8 49] 5)) 4
  go_wp2_with fail
  go_loopw [3, 5] (fun vo v5 w' => ∃ k : Nat, k ≤ 5 ∧ v5 = .int .i64 k ∧ Aside0 (Own (Value.int .u8) w' w.heap.size 5 vo (encB magicL (([id, key, data, fields, made] : List Int).take k))) ∧ Aside0 (Below w.heap.size w w') ∧ Aside0 (w'.heap[w1.heap.size + 1]? = some (.cells (nums .u64 [id, key, data, fields, made]).toArray 32 (0, 0)))) (fun _ v5 _ => 5 - (intOf v5).toNat)
  case atStart =>
    refine ⟨0, by omega, rfl, ⟨?_⟩, ⟨below_alloc (below_alloc HB1.out (.cells #[.int .u8 76, .int .u8 79, .int .u8 71, .int .u8 66, .int .u8 79, .int .u8 79, .int .u8 75, .int .u8 49] 5)) (.cells #[.int .u64 id, .int .u64 key, .int .u64 data, .int .u64 fields, .int .u64 made] 32)⟩, ⟨by have := blk_new (w1.alloc (.cells #[.int .u8 76, .int .u8 79, .int .u8 71, .int .u8 66, .int .u8 79, .int .u8 79, .int .u8 75, .int .u8 49] 5)) (.cells #[.int .u64 id, .int .u64 key, .int .u64 data, .int .u64 fields, .int .u64 made] 32); simpa [nums] using this⟩⟩
    have := own_lit w1 w.heap.size 5 .u8 magicL HB1.out.size (by simp [magicL]); have h2 := Own.below this (below_alloc (Below.refl _ _) (.cells #[.int .u64 id, .int .u64 key, .int .u64 data, .int .u64 fields, .int .u64 made] 32)); simpa [magicL, nums, encB, words8] using h2
  case round =>
    obtain ⟨k, hk, rfl, HO, HB, HX⟩ := hrel
    clear c0 c1 c2 c3 c4
    by_cases c1 : k < 5
    · have hc := nums_cell HX.out k (by simp; omega)
      have hxb := HW.out.getD k
      have HN := Aside0.mk (encB_snoc magicL [id, key, data, fields, made] k (by simp; omega))
      obtain ⟨x, hx⟩ : ∃ x, ([id, key, data, fields, made] : List Int).getD k 0 = x := ⟨_, rfl⟩
      rw [hx] at hc hxb HN
      obtain ⟨x0, x1⟩ := hxb
      have HLEN := Aside0.mk (show (encB magicL (([id, key, data, fields, made] : List Int).take k)).length ≤ 100 by rw [encB_len, List.length_take]; simp [magicL]; omega)
      clear hx
      go_wp2_with fail
      with_reducible refine (ref_Bytes_calls x 8 _ x0 x1).mono ?_
      rintro e w2 ⟨v2, rfl, hR2, hb2⟩
      obtain ⟨A4, c4, w4, hrun4, hO4, hg4, hat4⟩ := app8 (HO.out.below hb2) (Own.rd (Own.of_R hR2)) (Nat.le_trans HB.out.size hb2.size) (by have := HLEN.out; simp only [leB_len]; unfold leW; omega)
      have HX4 := Aside0.mk (nums_grown (o := none) (k := .u8) (xs := []) (HO.out.below hb2) hg4 (by decide) (blk_below HX.out hb2))
      have HB4 := Aside0.mk (Kp.from (below_step HB.out hb2) (Kp.of_grown hg4) (fun k hk => HO.out.ge hk))
      rw [leW8, ← HN.out] at hrun4 hO4
      obtain ⟨m, hm⟩ : ∃ m, (encB magicL (([id, key, data, fields, made] : List Int).take (k + 1))).length = m := ⟨_, rfl⟩
      rw [hm] at hrun4 hO4
      have HO4 := Aside0.mk hO4
      have HR4 := Aside0.mk hrun4
      clear hR2 hb2 hrun4 hO4 hg4 hat4 hm
      go_wp2_with (first | ((with_reducible refine gate_builtin (b := .append) (xs := #[.tmp 29, .tmp 34]) rfl ?_); at_builtin; refine app_list rfl (.tmp 29) (.tmp 34) rfl rfl rfl HR4.out ?_))
      go_roundw
      case rel => exact ⟨k + 1, by omega, by go_num, HO4, HB4, HX4⟩
      case measure => simp [intOf]; omega
    · have HJ := Aside0.mk (show encB magicL (([id, key, data, fields, made] : List Int).take k) = encB magicL [id, key, data, fields, made] from congrArg (encB magicL) (List.take_of_length_le (by simp; omega)))
      have HO1 := Aside0.mk (show Own (Value.int .u8) wr w.heap.size 5 _ (encB magicL [id, key, data, fields, made]) by rw [← HJ.out]; exact HO.out)
      clear HO
      go_wp2_with fail
      with_reducible refine (ref_crc_calls _ (encB magicL [id, key, data, fields, made]) _ (Own.rd HO1.out) (encB_isB (show isB magicL by exact magic_isB) _)).mono ?_
      rintro e w2 ⟨rfl, hb⟩
      have HO2 := Aside0.mk (HO1.out.below hb)
      have HB2 := Aside0.mk (below_step HB.out hb)
      clear hb
      rw [HKK.out]
      go_wp2_with fail
      with_reducible refine (ref_Bytes_calls K 4 _ hK0 (by omega)).mono ?_
      rintro e w3 ⟨v3, rfl, hR3, hb3⟩
      obtain ⟨A4, c4, w4, hrun4, hO4, hg4, hat4⟩ := app8 (HO2.out.below hb3) (Own.rd (Own.of_R hR3)) (Nat.le_trans HB2.out.size hb3.size) (by rw [leB_len, encB_len]; simp [magicL]; unfold leW; omega)
      have HB4 := Aside0.mk (Kp.from (below_step HB2.out hb3) (Kp.of_grown hg4) (fun k hk => HO2.out.ge hk))
      have hC : encB magicL [id, key, data, fields, made] ++ leB K (leW 4) = encC magicL [id, key, data, fields, made] := by rw [encC, ← HKK.out, leW4]
      rw [hC] at hrun4 hO4
      have hLC : (encC magicL [id, key, data, fields, made]).length = 52 := by simp [encC_len, magicL]
      rw [hLC] at hrun4 hO4
      have HO4 := Aside0.mk hO4
      have HR4 := Aside0.mk hrun4
      have HLC := Aside0.mk hLC
      clear hR3 hb3 hrun4 hO4 hg4 hat4 hC hLC
      go_wp2_with (first | ((with_reducible refine gate_builtin (b := .append) (xs := #[.tmp 36, .tmp 40]) rfl ?_); at_builtin; refine app_list rfl (.tmp 36) (.tmp 40) rfl rfl rfl HR4.out ?_))
      go_loopg [3] 12 (fun kq vo w' => ∃ j : Nat, j + kq = 12 ∧ Aside0 (Own (Value.int .u8) w' w.heap.size 5 vo (encC magicL [id, key, data, fields, made] ++ List.replicate j 0)) ∧ Aside0 (Below w.heap.size w w'))
      case atStart => exact ⟨0, by omega, ⟨by simpa using HO4.out⟩, HB4⟩
      case round =>
        obtain ⟨j, hj, HO, HB⟩ := hrel
        have HJJ := Aside0.mk hj
        have hj12 : j ≤ 12 := by omega
        clear hj
        obtain ⟨A1, c1, e1⟩ := own_slice HO.out
        have hlen : (encC magicL [id, key, data, fields, made] ++ List.replicate j 0).length = 52 + j := by rw [List.length_append, HLC.out, List.length_replicate]
        rw [hlen] at e1
        have HLEN := Aside0.mk hlen
        clear hlen
        subst e1
        by_cases c2 : j < 12
        · have hL := Rd.lit wr .u8 5 [0] (by simp)
          obtain ⟨A5, c5, w5, hrun5, hO5, hg5, hat5⟩ := app8 (HO.out.below (below_alloc (Below.refl _ _) (.cells (nums .u8 [0]).toArray 5))) hL (by have := HB.out.size; simp; omega) (by rw [HLEN.out]; simp; omega)
          have HB5 := Aside0.mk (Kp.from (below_alloc HB.out (.cells (nums .u8 [0]).toArray 5)) (Kp.of_grown hg5) (fun k hk => HO.out.ge hk))
          have hS : encC magicL [id, key, data, fields, made] ++ List.replicate j 0 ++ [0] = encC magicL [id, key, data, fields, made] ++ List.replicate (j + 1) 0 := by rw [List.replicate_succ', List.append_assoc]
          rw [hS] at hrun5 hO5
          have HO5 := Aside0.mk hO5
          obtain ⟨m, hm⟩ : ∃ m, (encC magicL [id, key, data, fields, made] ++ List.replicate (j + 1) (0 : Int)).length = m := ⟨_, rfl⟩
          rw [hm] at hrun5 HO5
          have HR5 := Aside0.mk hrun5
          simp only [nums, List.map_cons, List.map_nil] at HR5
          clear hL hrun5 hO5 hg5 hat5 hm hS
          go_wp2_with (first | ((with_reducible refine gate_builtin (b := .append) (xs := #[.tmp 45, .tmp 46]) rfl ?_); at_builtin; refine app_list rfl (.tmp 45) (.tmp 46) rfl rfl rfl HR5.out ?_))
          go_roundg (12 - (j + 1))
          case measure => have := HJJ.out; omega
          case rel => exact ⟨j + 1, by omega, HO5, HB5⟩
        · have HE := Aside0.mk (show encC magicL [id, key, data, fields, made] ++ List.replicate j 0 = encZ magicL [id, key, data, fields, made] by rw [encZ, show j = 12 by omega])
          rw [HE.out] at HO
          go_wp2_with fail
          go_ret
          exact ⟨_, rfl, HO.out, HB.out⟩
end Go.Proofs.Ytigdchfjcfljjaa
end
section
/- A law's parameter that is an array of whole numbers, opened. -/
namespace Go.Proofs.Ytigdchfjcfljjaa
open Go.RowKit Go.ChangeShapes Go.WideShapes
theorem list7 {zs : List Int} (h : zs.length = 7) : ∃ a b c d e f g, zs = [a, b, c, d, e, f, g] := by
  match zs, h with
  | [a, b, c, d, e, f, g], _ => exact ⟨a, b, c, d, e, f, g, rfl⟩
/-- A struct of whole numbers by value: do its fields lie one behind the other, of these kinds? -/
def aggOk (P : Program) (fs : Array Field) (ks : List IntKind) : Bool :=
  decide (fs.size = ks.length) && (List.range ks.length).all fun i => match fs[i]?, ks[i]? with
    | some f, some k => decide (f.offset = i) && decide (P.cellsOf f.type = 1) && (match P.underlying f.type with | some (.int k') => decide (k' = k) | _ => false)
    | _, _ => false
theorem list5 {zs : List Int} (h : zs.length = 5) : ∃ a b c d e, zs = [a, b, c, d, e] := by
  match zs, h with
  | [a, b, c, d, e], _ => exact ⟨a, b, c, d, e, rfl⟩
theorem list6 {zs : List Int} (h : zs.length = 6) : ∃ a b c d e f, zs = [a, b, c, d, e, f] := by
  match zs, h with
  | [a, b, c, d, e, f], _ => exact ⟨a, b, c, d, e, f, rfl⟩
end Go.Proofs.Ytigdchfjcfljjaa
end
section
/- HeadWrites: the walk. -/
namespace Go.Proofs.Ytigdchfjcfljjaa
open Go.RowKit Go.Proofs.YtigdchfjcfljjaaW.PrintWords Go.Proofs.YtigdchfjcfljjaaW.PrintLast Go.Proofs.YtigdchfjcfljjaaW.PrintMore
attribute [local go_sem] max2_int min2_int max_two min_two max_three min_three max_four min_four
theorem ret_int {k : IntKind} {a b : Int} (h : a = b) : Ending.returned (.int k a) = .returned (.int k b) := by rw [h]
set_option maxHeartbeats 8000000 in
set_option maxRecDepth 100000 in
theorem DataTable_calls (id key data fields made : Int) (w : World) : Calls Try.prog 151 #[.agg #[.int .u64 id, .int .u64 key, .int .i64 data, .int .i64 fields, .int .u64 made]] w fun e w' => e = .returned (.int .i64 256) ∧ Below w.heap.size w w' := by
  go_enter Try.func151, Try.ntmps151
  go_wp2
  go_ret
  exact ⟨rfl, by first | exact below_alloc (Below.refl _ _) _ | exact Below.refl _ _⟩
set_option maxHeartbeats 8000000 in
set_option maxRecDepth 100000 in
theorem FieldTable_calls (id key data fields made : Int) (w : World) (d0 : 1 ≤ data) (d1 : data ≤ 256) : Calls Try.prog 147 #[.agg #[.int .u64 id, .int .u64 key, .int .i64 data, .int .i64 fields, .int .u64 made]] w fun e w' => e = .returned (.int .i64 (256 + 8 * data)) ∧ Below w.heap.size w w' := by
  have H0 := blk_new w (.cells #[.int .u64 id, .int .u64 key, .int .i64 data, .int .i64 fields, .int .u64 made] 59)
  have c0 : (w.alloc (.cells #[.int .u64 id, .int .u64 key, .int .i64 data, .int .i64 fields, .int .u64 made] 59)).cell? ⟨w.heap.size, 0, none⟩ = some (.int .u64 id) := blk_cell H0 0
  have c1 : (w.alloc (.cells #[.int .u64 id, .int .u64 key, .int .i64 data, .int .i64 fields, .int .u64 made] 59)).cell? ⟨w.heap.size, 1, none⟩ = some (.int .u64 key) := blk_cell H0 1
  have c2 : (w.alloc (.cells #[.int .u64 id, .int .u64 key, .int .i64 data, .int .i64 fields, .int .u64 made] 59)).cell? ⟨w.heap.size, 2, none⟩ = some (.int .i64 data) := blk_cell H0 2
  have c3 : (w.alloc (.cells #[.int .u64 id, .int .u64 key, .int .i64 data, .int .i64 fields, .int .u64 made] 59)).cell? ⟨w.heap.size, 3, none⟩ = some (.int .i64 fields) := blk_cell H0 3
  have c4 : (w.alloc (.cells #[.int .u64 id, .int .u64 key, .int .i64 data, .int .i64 fields, .int .u64 made] 59)).cell? ⟨w.heap.size, 4, none⟩ = some (.int .u64 made) := blk_cell H0 4
  clear H0
  go_enter Try.func147, Try.ntmps147
  go_wp2_with fail
  refine start_ (n := 7) (S := fun w' => w'.cell? ⟨w.heap.size, 0, none⟩ = some (.int .u64 id) ∧ w'.cell? ⟨w.heap.size, 1, none⟩ = some (.int .u64 key) ∧ w'.cell? ⟨w.heap.size, 2, none⟩ = some (.int .i64 data) ∧ w'.cell? ⟨w.heap.size, 3, none⟩ = some (.int .i64 fields) ∧ w'.cell? ⟨w.heap.size, 4, none⟩ = some (.int .u64 made)) (ds := []) #[false,false,false,false,false,false,false] (by kernel_rfl) rfl rfl ⟨c0, c1, c2, c3, c4⟩ (fun hHeld => ?_)
  refine pure_ (i := 2) (N := some 5) (v := ?_) (a' := ?_) #[false,false,true,false,false,false,false] rfl rfl (by kernel_rfl) (fun _ _ _ h => h) (Or.inl ⟨by rfl, ?_⟩) ?_ ?_
  rotate_left
  · intro w'
    go_simp
    with_reducible rfl
  rotate_left
  · simp only [Act.put, List.setIfInBounds_toArray, List.set_cons_zero, List.set_cons_succ, i64_w, i32_w]
    rfl
  refine take_ (i := 0) (N := some 3) (v := ?_) (a' := ?_) #[true,false,true,false,false,false,false] rfl rfl (by kernel_rfl) (fun _ _ _ h => h) (Or.inl ⟨by rfl, ?_⟩) hHeld ?_ ?_
  rotate_left
  · rintro w' ⟨s0, s1, s2, s3, s4⟩
    go_simp
    with_reducible rfl
  rotate_left
  · simp only [Act.put, List.setIfInBounds_toArray, List.set_cons_zero, List.set_cons_succ, i64_w, i32_w]
    rfl
  refine take_ (i := 3) (N := some 6) (v := ?_) (a' := ?_) #[true,false,true,true,false,false,false] rfl rfl (by kernel_rfl) (fun _ _ _ h => h) (Or.inl ⟨by rfl, ?_⟩) hHeld ?_ ?_
  rotate_left
  · rintro w' ⟨s0, s1, s2, s3, s4⟩
    go_simp
    with_reducible rfl
  rotate_left
  · simp only [Act.put, List.setIfInBounds_toArray, List.set_cons_zero, List.set_cons_succ, i64_w, i32_w]
    rfl
  refine pure_ (i := 4) (N := some 7) (v := ?_) (a' := ?_) #[true,false,true,true,true,false,false] rfl rfl (by kernel_rfl) (fun _ _ _ h => h) (Or.inl ⟨by rfl, ?_⟩) ?_ ?_
  rotate_left
  · intro w'
    go_simp
    with_reducible rfl
  rotate_left
  · simp only [Act.put, List.setIfInBounds_toArray, List.set_cons_zero, List.set_cons_succ, i64_w, i32_w]
    rfl
  refine one_ (i := 1) (N := some 4) #[true,true,true,true,true,false,false] rfl rfl (by kernel_rfl) (by decide) (fun K hK => ?_)
  refine goes_ Try.func151 (by kernel_rfl) rfl #[.agg #[.int .u64 id, .int .u64 key, .int .i64 data, .int .i64 fields, .int .u64 made]] (by rfl) rfl rfl (by (try simp only [List.map_toArray, List.map_cons, List.map_nil]); first | done | rfl) ?_
  with_reducible refine (DataTable_calls id key data fields made _).mono ?_
  rintro e w1 ⟨rfl, hb1⟩
  refine ⟨_, rfl, ?_⟩
  refine hK.out _ _ ⟨(pw_cell_below hb1 hHeld.1), (pw_cell_below hb1 hHeld.2.1), (pw_cell_below hb1 hHeld.2.2.1), (pw_cell_below hb1 hHeld.2.2.2.1), (pw_cell_below hb1 hHeld.2.2.2.2)⟩ (fun hHeld => ?_)
  clear hK K
  refine norm_ (a' := ?_) ?_ ?_
  rotate_left
  · show Act.put _ (some 4) _ = _
    simp only [Act.put, List.setIfInBounds_toArray, List.set_cons_zero, List.set_cons_succ, i64_w, i32_w]
    rfl
  refine pure_ (i := 5) (N := some 8) (v := ?_) (a' := ?_) #[true,true,true,true,true,true,false] rfl rfl (by kernel_rfl) (fun _ _ _ h => h) (Or.inl ⟨by rfl, ?_⟩) ?_ ?_
  rotate_left
  · intro w'
    go_simp
    with_reducible rfl
  rotate_left
  · simp only [Act.put, List.setIfInBounds_toArray, List.set_cons_zero, List.set_cons_succ, i64_w, i32_w]
    rfl
  refine pure_ (i := 6) (N := some 2) (v := ?_) (a' := ?_) #[true,true,true,true,true,true,true] rfl rfl (by kernel_rfl) (fun _ _ _ h => h) (Or.inl ⟨by rfl, ?_⟩) ?_ ?_
  rotate_left
  · intro w'
    go_simp
    with_reducible rfl
  rotate_left
  · simp only [Act.put, List.setIfInBounds_toArray, List.set_cons_zero, List.set_cons_succ, i64_w, i32_w]
    rfl
  refine done_ (by kernel_rfl) ?_
  have HB1 := Aside0.mk (below_step (below_drew (below_alloc (Below.refl _ _) _)) hb1)
  clear hb1
  go_wp2
  go_ret
  exact ⟨ret_int (by simp only [wrap64]; omega), HB1.out⟩
set_option maxHeartbeats 8000000 in
set_option maxRecDepth 100000 in
theorem Objects_calls (id key data fields made : Int) (w : World) (d0 : 1 ≤ data) (d1 : data ≤ 256) (f0 : 1 ≤ fields) (f1 : fields ≤ 256) : Calls Try.prog 116 #[.agg #[.int .u64 id, .int .u64 key, .int .i64 data, .int .i64 fields, .int .u64 made]] w fun e w' => e = .returned (.int .i64 (256 + 8 * data + 8 * fields)) ∧ Below w.heap.size w w' := by
  have H0 := blk_new w (.cells #[.int .u64 id, .int .u64 key, .int .i64 data, .int .i64 fields, .int .u64 made] 59)
  have c0 : (w.alloc (.cells #[.int .u64 id, .int .u64 key, .int .i64 data, .int .i64 fields, .int .u64 made] 59)).cell? ⟨w.heap.size, 0, none⟩ = some (.int .u64 id) := blk_cell H0 0
  have c1 : (w.alloc (.cells #[.int .u64 id, .int .u64 key, .int .i64 data, .int .i64 fields, .int .u64 made] 59)).cell? ⟨w.heap.size, 1, none⟩ = some (.int .u64 key) := blk_cell H0 1
  have c2 : (w.alloc (.cells #[.int .u64 id, .int .u64 key, .int .i64 data, .int .i64 fields, .int .u64 made] 59)).cell? ⟨w.heap.size, 2, none⟩ = some (.int .i64 data) := blk_cell H0 2
  have c3 : (w.alloc (.cells #[.int .u64 id, .int .u64 key, .int .i64 data, .int .i64 fields, .int .u64 made] 59)).cell? ⟨w.heap.size, 3, none⟩ = some (.int .i64 fields) := blk_cell H0 3
  have c4 : (w.alloc (.cells #[.int .u64 id, .int .u64 key, .int .i64 data, .int .i64 fields, .int .u64 made] 59)).cell? ⟨w.heap.size, 4, none⟩ = some (.int .u64 made) := blk_cell H0 4
  clear H0
  go_enter Try.func116, Try.ntmps116
  go_wp2_with fail
  refine start_ (n := 7) (S := fun w' => w'.cell? ⟨w.heap.size, 0, none⟩ = some (.int .u64 id) ∧ w'.cell? ⟨w.heap.size, 1, none⟩ = some (.int .u64 key) ∧ w'.cell? ⟨w.heap.size, 2, none⟩ = some (.int .i64 data) ∧ w'.cell? ⟨w.heap.size, 3, none⟩ = some (.int .i64 fields) ∧ w'.cell? ⟨w.heap.size, 4, none⟩ = some (.int .u64 made)) (ds := []) #[false,false,false,false,false,false,false] (by kernel_rfl) rfl rfl ⟨c0, c1, c2, c3, c4⟩ (fun hHeld => ?_)
  refine pure_ (i := 2) (N := some 5) (v := ?_) (a' := ?_) #[false,false,true,false,false,false,false] rfl rfl (by kernel_rfl) (fun _ _ _ h => h) (Or.inl ⟨by rfl, ?_⟩) ?_ ?_
  rotate_left
  · intro w'
    go_simp
    with_reducible rfl
  rotate_left
  · simp only [Act.put, List.setIfInBounds_toArray, List.set_cons_zero, List.set_cons_succ, i64_w, i32_w]
    rfl
  refine take_ (i := 0) (N := some 3) (v := ?_) (a' := ?_) #[true,false,true,false,false,false,false] rfl rfl (by kernel_rfl) (fun _ _ _ h => h) (Or.inl ⟨by rfl, ?_⟩) hHeld ?_ ?_
  rotate_left
  · rintro w' ⟨s0, s1, s2, s3, s4⟩
    go_simp
    with_reducible rfl
  rotate_left
  · simp only [Act.put, List.setIfInBounds_toArray, List.set_cons_zero, List.set_cons_succ, i64_w, i32_w]
    rfl
  refine take_ (i := 3) (N := some 6) (v := ?_) (a' := ?_) #[true,false,true,true,false,false,false] rfl rfl (by kernel_rfl) (fun _ _ _ h => h) (Or.inl ⟨by rfl, ?_⟩) hHeld ?_ ?_
  rotate_left
  · rintro w' ⟨s0, s1, s2, s3, s4⟩
    go_simp
    with_reducible rfl
  rotate_left
  · simp only [Act.put, List.setIfInBounds_toArray, List.set_cons_zero, List.set_cons_succ, i64_w, i32_w]
    rfl
  refine pure_ (i := 4) (N := some 7) (v := ?_) (a' := ?_) #[true,false,true,true,true,false,false] rfl rfl (by kernel_rfl) (fun _ _ _ h => h) (Or.inl ⟨by rfl, ?_⟩) ?_ ?_
  rotate_left
  · intro w'
    go_simp
    with_reducible rfl
  rotate_left
  · simp only [Act.put, List.setIfInBounds_toArray, List.set_cons_zero, List.set_cons_succ, i64_w, i32_w]
    rfl
  refine one_ (i := 1) (N := some 4) #[true,true,true,true,true,false,false] rfl rfl (by kernel_rfl) (by decide) (fun K hK => ?_)
  refine goes_ Try.func147 (by kernel_rfl) rfl #[.agg #[.int .u64 id, .int .u64 key, .int .i64 data, .int .i64 fields, .int .u64 made]] (by rfl) rfl rfl (by (try simp only [List.map_toArray, List.map_cons, List.map_nil]); first | done | rfl) ?_
  with_reducible refine (FieldTable_calls id key data fields made _ d0 d1).mono ?_
  rintro e w1 ⟨rfl, hb1⟩
  refine ⟨_, rfl, ?_⟩
  refine hK.out _ _ ⟨(pw_cell_below hb1 hHeld.1), (pw_cell_below hb1 hHeld.2.1), (pw_cell_below hb1 hHeld.2.2.1), (pw_cell_below hb1 hHeld.2.2.2.1), (pw_cell_below hb1 hHeld.2.2.2.2)⟩ (fun hHeld => ?_)
  clear hK K
  refine norm_ (a' := ?_) ?_ ?_
  rotate_left
  · show Act.put _ (some 4) _ = _
    simp only [Act.put, List.setIfInBounds_toArray, List.set_cons_zero, List.set_cons_succ, i64_w, i32_w]
    rfl
  refine pure_ (i := 5) (N := some 8) (v := ?_) (a' := ?_) #[true,true,true,true,true,true,false] rfl rfl (by kernel_rfl) (fun _ _ _ h => h) (Or.inl ⟨by rfl, ?_⟩) ?_ ?_
  rotate_left
  · intro w'
    go_simp
    with_reducible rfl
  rotate_left
  · simp only [Act.put, List.setIfInBounds_toArray, List.set_cons_zero, List.set_cons_succ, i64_w, i32_w]
    rfl
  refine pure_ (i := 6) (N := some 2) (v := ?_) (a' := ?_) #[true,true,true,true,true,true,true] rfl rfl (by kernel_rfl) (fun _ _ _ h => h) (Or.inl ⟨by rfl, ?_⟩) ?_ ?_
  rotate_left
  · intro w'
    go_simp
    with_reducible rfl
  rotate_left
  · simp only [Act.put, List.setIfInBounds_toArray, List.set_cons_zero, List.set_cons_succ, i64_w, i32_w]
    rfl
  refine done_ (by kernel_rfl) ?_
  have HB1 := Aside0.mk (below_step (below_drew (below_alloc (Below.refl _ _) _)) hb1)
  clear hb1
  go_wp2
  go_ret
  exact ⟨ret_int (by simp only [wrap64]; omega), HB1.out⟩
set_option maxHeartbeats 8000000 in
set_option maxRecDepth 100000 in
theorem ref_Objects_calls (id key data fields made : Int) (w : World) (d0 : 1 ≤ data) (d1 : data ≤ 256) (f0 : 1 ≤ fields) (f1 : fields ≤ 256) : Calls Try.prog 38 #[.agg #[.int .u64 id, .int .u64 key, .int .i64 data, .int .i64 fields, .int .u64 made]] w fun e w' => e = .returned (.int .i64 (256 + 8 * data + 8 * fields)) ∧ Below w.heap.size w w' := by
  go_enter Try.func38, Try.ntmps38
  go_wp2
  go_ret
  exact ⟨congrArg (fun x => Ending.returned (.int .i64 x)) (by omega), below_alloc (Below.refl _ _) _⟩
end Go.Proofs.Ytigdchfjcfljjaa
end
section
/- Contracts of package obj, and of its reference: words, places, which objects may be. -/
namespace Go.Proofs.Ytigdchfjcfljjaa
open Go.RowKit Go.Proofs.YtigdchfjcfljjaaW.PrintWords Go.Proofs.YtigdchfjcfljjaaW.PrintLast Go.Proofs.YtigdchfjcfljjaaW.PrintMore
attribute [local go_sem] max2_int min2_int max_two min_two max_three min_three max_four min_four
/-- How many words a kind has. -/
def wN (k : Int) : Int := if k = 1 ∨ k = 3 then 5 else if k = 2 then 3 else if k = 4 then 1 else 0
theorem wN_bd (k : Int) : 0 ≤ wN k ∧ wN k ≤ 5 := by unfold wN; split <;> (try split) <;> (try split) <;> omega
theorem kind_ways (k : Int) : k = 1 ∨ k = 2 ∨ k = 3 ∨ k = 4 ∨ (k ≠ 1 ∧ k ≠ 2 ∧ k ≠ 3 ∧ k ≠ 4) := by omega
set_option maxHeartbeats 8000000 in
set_option maxRecDepth 100000 in
theorem obj_Words_calls (k : Int) (w : World) : Calls Try.prog 105 #[.int .i64 k] w fun e w' => e = .returned (.int .i64 (wN k)) ∧ w = w' := by
  rcases kind_ways k with rfl | rfl | rfl | rfl | ⟨h1, h2, h3, h4⟩
  · go_enter Try.func105, Try.ntmps105
    go_wp2
    go_ret
    exact ⟨rfl, rfl⟩
  · go_enter Try.func105, Try.ntmps105
    go_wp2
    go_ret
    exact ⟨rfl, rfl⟩
  · go_enter Try.func105, Try.ntmps105
    go_wp2
    go_ret
    exact ⟨rfl, rfl⟩
  · go_enter Try.func105, Try.ntmps105
    go_wp2
    go_ret
    exact ⟨rfl, rfl⟩
  · have HE := Aside0.mk (show wN k = 0 by simp [wN, h1, h2, h3, h4])
    have n1 : (k == 1) = false := by rw [beq_eq_false_iff_ne]; exact h1
    have n2 : (k == 2) = false := by rw [beq_eq_false_iff_ne]; exact h2
    have n3 : (k == 3) = false := by rw [beq_eq_false_iff_ne]; exact h3
    have n4 : (k == 4) = false := by rw [beq_eq_false_iff_ne]; exact h4
    clear h1 h2 h3 h4
    go_enter Try.func105, Try.ntmps105
    go_wp2
    go_ret
    exact ⟨by rw [HE.out]; rfl, rfl⟩
set_option maxHeartbeats 8000000 in
set_option maxRecDepth 100000 in
theorem ref_oWords_calls (k : Int) (w : World) : Calls Try.prog 98 #[.int .i64 k] w fun e w' => e = .returned (.int .i64 (wN k)) ∧ w = w' := by
  rcases kind_ways k with rfl | rfl | rfl | rfl | ⟨h1, h2, h3, h4⟩
  · go_enter Try.func98, Try.ntmps98
    go_wp2
    go_ret
    exact ⟨rfl, rfl⟩
  · go_enter Try.func98, Try.ntmps98
    go_wp2
    go_ret
    exact ⟨rfl, rfl⟩
  · go_enter Try.func98, Try.ntmps98
    go_wp2
    go_ret
    exact ⟨rfl, rfl⟩
  · go_enter Try.func98, Try.ntmps98
    go_wp2
    go_ret
    exact ⟨rfl, rfl⟩
  · have HE := Aside0.mk (show wN k = 0 by simp [wN, h1, h2, h3, h4])
    have n1 : (k == 1) = false := by rw [beq_eq_false_iff_ne]; exact h1
    have n2 : (k == 2) = false := by rw [beq_eq_false_iff_ne]; exact h2
    have n3 : (k == 3) = false := by rw [beq_eq_false_iff_ne]; exact h3
    have n4 : (k == 4) = false := by rw [beq_eq_false_iff_ne]; exact h4
    clear h1 h2 h3 h4
    go_enter Try.func98, Try.ntmps98
    go_wp2
    go_ret
    exact ⟨by rw [HE.out]; rfl, rfl⟩
theorem ref_oWords_quiet (k : Int) (w : World) (n : Nat) : Calls Try.prog 98 #[.int .i64 k] (w.drewN n) fun e w' => e = .returned (.int .i64 (wN k)) ∧ ∃ m, w' = w.drewN m := Calls.quiet_of_same ((ref_oWords_calls k _).mono fun _ _ ⟨a, b⟩ => ⟨a, b.symm⟩)
set_option maxHeartbeats 8000000 in
set_option maxRecDepth 100000 in
theorem obj_Front_calls (k : Int) (w : World) : Calls Try.prog 100 #[.int .i64 k] w fun e w' => e = .returned (.int .i64 (16 + 8 * wN k)) ∧ w = w' := by
  obtain ⟨h0, h1⟩ := wN_bd k
  go_enter Try.func100, Try.ntmps100
  go_wp2_with fail
  refine (obj_Words_calls k _).mono ?_
  rintro e w1 ⟨rfl, rfl⟩
  go_wp2
  go_ret
  exact ⟨rfl, rfl⟩
theorem ret_yes {p : Prop} [Decidable p] (h : p) : Ending.returned (.bool (decide p)) = .returned (.bool true) := by rw [decide_eq_true h]
theorem ret_no {p : Prop} [Decidable p] (h : ¬ p) : Ending.returned (.bool (decide p)) = .returned (.bool false) := by rw [decide_eq_false h]
/-- May an object be: its kind, and how many words, bytes, numbers it has. -/
def oR (k : Int) (nW nR nI : Nat) : Bool := decide ((k = 1 ∧ nW = 5 ∧ nI = 0 ∧ 1 ≤ nR ∧ nR ≤ 1024) ∨ (k = 2 ∧ nW = 3 ∧ nI = 0 ∧ 1 ≤ nR ∧ nR ≤ 64) ∨ (k = 3 ∧ nW = 5 ∧ nR = 0 ∧ 1 ≤ nI ∧ nI ≤ 64) ∨ (k = 4 ∧ nW = 1 ∧ nR = 0 ∧ 1 ≤ nI ∧ nI ≤ 1024))
theorem oR_yes {k : Int} {nW nR nI : Nat} (h : (k = 1 ∧ nW = 5 ∧ nI = 0 ∧ 1 ≤ nR ∧ nR ≤ 1024) ∨ (k = 2 ∧ nW = 3 ∧ nI = 0 ∧ 1 ≤ nR ∧ nR ≤ 64) ∨ (k = 3 ∧ nW = 5 ∧ nR = 0 ∧ 1 ≤ nI ∧ nI ≤ 64) ∨ (k = 4 ∧ nW = 1 ∧ nR = 0 ∧ 1 ≤ nI ∧ nI ≤ 1024)) : oR k nW nR nI = true := decide_eq_true h
theorem oR_no {k : Int} {nW nR nI : Nat} (h : ¬ ((k = 1 ∧ nW = 5 ∧ nI = 0 ∧ 1 ≤ nR ∧ nR ≤ 1024) ∨ (k = 2 ∧ nW = 3 ∧ nI = 0 ∧ 1 ≤ nR ∧ nR ≤ 64) ∨ (k = 3 ∧ nW = 5 ∧ nR = 0 ∧ 1 ≤ nI ∧ nI ≤ 64) ∨ (k = 4 ∧ nW = 1 ∧ nR = 0 ∧ 1 ≤ nI ∧ nI ≤ 1024))) : oR k nW nR nI = false := decide_eq_false h
set_option maxHeartbeats 8000000 in
set_option maxRecDepth 100000 in
theorem obj_Right_calls_1 (A1 A2 A3 : Option Addr) (nW nR nI c1 c2 c3 : Nat) (w : World) (bW : nW ≤ 140737488355328) (bR : nR ≤ 140737488355328) (bI : nI ≤ 140737488355328) : Calls Try.prog 99 #[.agg #[.int .i64 1, .slice A1 nW c1, .slice A2 nR c2, .slice A3 nI c3]] w fun e w' => e = .returned (.bool (oR 1 nW nR nI)) ∧ Below w.heap.size w w' := by
  have HW := Aside0.mk (show wN 1 = 5 from rfl)
  by_cases e1 : nW = 5
  · subst e1
    by_cases e2 : nI = 0
    · subst e2
      by_cases e3 : 1 ≤ nR
      · by_cases e4 : nR ≤ 1024
        · have HE := Aside0.mk (oR_yes (k := 1) (nW := 5) (nR := nR) (nI := 0) (by omega))
          go_enter Try.func99, Try.ntmps99
          go_wp2_with fail
          refine (obj_Words_calls _ _).mono ?_
          rintro e w1 ⟨rfl, rfl⟩
          try rw [HW.out]
          go_wp2_with fail
          go_ret
          exact ⟨by rw [HE.out]; first | rfl | exact ret_yes (by omega) | exact ret_no (by omega), below_alloc (Below.refl _ _) _⟩
        · have HE := Aside0.mk (oR_no (k := 1) (nW := 5) (nR := nR) (nI := 0) (by omega))
          go_enter Try.func99, Try.ntmps99
          go_wp2_with fail
          refine (obj_Words_calls _ _).mono ?_
          rintro e w1 ⟨rfl, rfl⟩
          try rw [HW.out]
          go_wp2_with fail
          go_ret
          exact ⟨by rw [HE.out]; first | rfl | exact ret_yes (by omega) | exact ret_no (by omega), below_alloc (Below.refl _ _) _⟩
      · have HE := Aside0.mk (oR_no (k := 1) (nW := 5) (nR := nR) (nI := 0) (by omega))
        go_enter Try.func99, Try.ntmps99
        go_wp2_with fail
        refine (obj_Words_calls _ _).mono ?_
        rintro e w1 ⟨rfl, rfl⟩
        try rw [HW.out]
        go_wp2_with fail
        go_ret
        exact ⟨by rw [HE.out]; first | rfl | exact ret_yes (by omega) | exact ret_no (by omega), below_alloc (Below.refl _ _) _⟩
    · have HE := Aside0.mk (oR_no (k := 1) (nW := 5) (nR := nR) (nI := nI) (by omega))
      have t2 : ((nI : Int) == 0) = false := by simp; omega
      go_enter Try.func99, Try.ntmps99
      go_wp2_with fail
      refine (obj_Words_calls _ _).mono ?_
      rintro e w1 ⟨rfl, rfl⟩
      try rw [HW.out]
      go_wp2_with fail
      go_ret
      exact ⟨by rw [HE.out]; first | rfl | exact ret_yes (by omega) | exact ret_no (by omega), below_alloc (Below.refl _ _) _⟩
  · have HE := Aside0.mk (oR_no (k := 1) (nW := nW) (nR := nR) (nI := nI) (by omega))
    have t1 : ((nW : Int) != 5) = true := by simp; omega
    go_enter Try.func99, Try.ntmps99
    go_wp2_with fail
    refine (obj_Words_calls _ _).mono ?_
    rintro e w1 ⟨rfl, rfl⟩
    try rw [HW.out]
    go_wp2_with fail
    go_ret
    exact ⟨by rw [HE.out]; first | rfl | exact ret_yes (by omega) | exact ret_no (by omega), below_alloc (Below.refl _ _) _⟩
set_option maxHeartbeats 8000000 in
set_option maxRecDepth 100000 in
theorem obj_Right_calls_2 (A1 A2 A3 : Option Addr) (nW nR nI c1 c2 c3 : Nat) (w : World) (bW : nW ≤ 140737488355328) (bR : nR ≤ 140737488355328) (bI : nI ≤ 140737488355328) : Calls Try.prog 99 #[.agg #[.int .i64 2, .slice A1 nW c1, .slice A2 nR c2, .slice A3 nI c3]] w fun e w' => e = .returned (.bool (oR 2 nW nR nI)) ∧ Below w.heap.size w w' := by
  have HW := Aside0.mk (show wN 2 = 3 from rfl)
  by_cases e1 : nW = 3
  · subst e1
    by_cases e2 : nI = 0
    · subst e2
      by_cases e3 : 1 ≤ nR
      · by_cases e4 : nR ≤ 64
        · have HE := Aside0.mk (oR_yes (k := 2) (nW := 3) (nR := nR) (nI := 0) (by omega))
          go_enter Try.func99, Try.ntmps99
          go_wp2_with fail
          refine (obj_Words_calls _ _).mono ?_
          rintro e w1 ⟨rfl, rfl⟩
          try rw [HW.out]
          go_wp2_with fail
          go_ret
          exact ⟨by rw [HE.out]; first | rfl | exact ret_yes (by omega) | exact ret_no (by omega), below_alloc (Below.refl _ _) _⟩
        · have HE := Aside0.mk (oR_no (k := 2) (nW := 3) (nR := nR) (nI := 0) (by omega))
          go_enter Try.func99, Try.ntmps99
          go_wp2_with fail
          refine (obj_Words_calls _ _).mono ?_
          rintro e w1 ⟨rfl, rfl⟩
          try rw [HW.out]
          go_wp2_with fail
          go_ret
          exact ⟨by rw [HE.out]; first | rfl | exact ret_yes (by omega) | exact ret_no (by omega), below_alloc (Below.refl _ _) _⟩
      · have HE := Aside0.mk (oR_no (k := 2) (nW := 3) (nR := nR) (nI := 0) (by omega))
        go_enter Try.func99, Try.ntmps99
        go_wp2_with fail
        refine (obj_Words_calls _ _).mono ?_
        rintro e w1 ⟨rfl, rfl⟩
        try rw [HW.out]
        go_wp2_with fail
        go_ret
        exact ⟨by rw [HE.out]; first | rfl | exact ret_yes (by omega) | exact ret_no (by omega), below_alloc (Below.refl _ _) _⟩
    · have HE := Aside0.mk (oR_no (k := 2) (nW := 3) (nR := nR) (nI := nI) (by omega))
      have t2 : ((nI : Int) == 0) = false := by simp; omega
      go_enter Try.func99, Try.ntmps99
      go_wp2_with fail
      refine (obj_Words_calls _ _).mono ?_
      rintro e w1 ⟨rfl, rfl⟩
      try rw [HW.out]
      go_wp2_with fail
      go_ret
      exact ⟨by rw [HE.out]; first | rfl | exact ret_yes (by omega) | exact ret_no (by omega), below_alloc (Below.refl _ _) _⟩
  · have HE := Aside0.mk (oR_no (k := 2) (nW := nW) (nR := nR) (nI := nI) (by omega))
    have t1 : ((nW : Int) != 3) = true := by simp; omega
    go_enter Try.func99, Try.ntmps99
    go_wp2_with fail
    refine (obj_Words_calls _ _).mono ?_
    rintro e w1 ⟨rfl, rfl⟩
    try rw [HW.out]
    go_wp2_with fail
    go_ret
    exact ⟨by rw [HE.out]; first | rfl | exact ret_yes (by omega) | exact ret_no (by omega), below_alloc (Below.refl _ _) _⟩
set_option maxHeartbeats 8000000 in
set_option maxRecDepth 100000 in
theorem obj_Right_calls_3 (A1 A2 A3 : Option Addr) (nW nR nI c1 c2 c3 : Nat) (w : World) (bW : nW ≤ 140737488355328) (bR : nR ≤ 140737488355328) (bI : nI ≤ 140737488355328) : Calls Try.prog 99 #[.agg #[.int .i64 3, .slice A1 nW c1, .slice A2 nR c2, .slice A3 nI c3]] w fun e w' => e = .returned (.bool (oR 3 nW nR nI)) ∧ Below w.heap.size w w' := by
  have HW := Aside0.mk (show wN 3 = 5 from rfl)
  by_cases e1 : nW = 5
  · subst e1
    by_cases e2 : nR = 0
    · subst e2
      by_cases e3 : 1 ≤ nI
      · by_cases e4 : nI ≤ 64
        · have HE := Aside0.mk (oR_yes (k := 3) (nW := 5) (nR := 0) (nI := nI) (by omega))
          go_enter Try.func99, Try.ntmps99
          go_wp2_with fail
          refine (obj_Words_calls _ _).mono ?_
          rintro e w1 ⟨rfl, rfl⟩
          try rw [HW.out]
          go_wp2_with fail
          go_ret
          exact ⟨by rw [HE.out]; first | rfl | exact ret_yes (by omega) | exact ret_no (by omega), below_alloc (Below.refl _ _) _⟩
        · have HE := Aside0.mk (oR_no (k := 3) (nW := 5) (nR := 0) (nI := nI) (by omega))
          go_enter Try.func99, Try.ntmps99
          go_wp2_with fail
          refine (obj_Words_calls _ _).mono ?_
          rintro e w1 ⟨rfl, rfl⟩
          try rw [HW.out]
          go_wp2_with fail
          go_ret
          exact ⟨by rw [HE.out]; first | rfl | exact ret_yes (by omega) | exact ret_no (by omega), below_alloc (Below.refl _ _) _⟩
      · have HE := Aside0.mk (oR_no (k := 3) (nW := 5) (nR := 0) (nI := nI) (by omega))
        go_enter Try.func99, Try.ntmps99
        go_wp2_with fail
        refine (obj_Words_calls _ _).mono ?_
        rintro e w1 ⟨rfl, rfl⟩
        try rw [HW.out]
        go_wp2_with fail
        go_ret
        exact ⟨by rw [HE.out]; first | rfl | exact ret_yes (by omega) | exact ret_no (by omega), below_alloc (Below.refl _ _) _⟩
    · have HE := Aside0.mk (oR_no (k := 3) (nW := 5) (nR := nR) (nI := nI) (by omega))
      have t2 : ((nR : Int) == 0) = false := by simp; omega
      go_enter Try.func99, Try.ntmps99
      go_wp2_with fail
      refine (obj_Words_calls _ _).mono ?_
      rintro e w1 ⟨rfl, rfl⟩
      try rw [HW.out]
      go_wp2_with fail
      go_ret
      exact ⟨by rw [HE.out]; first | rfl | exact ret_yes (by omega) | exact ret_no (by omega), below_alloc (Below.refl _ _) _⟩
  · have HE := Aside0.mk (oR_no (k := 3) (nW := nW) (nR := nR) (nI := nI) (by omega))
    have t1 : ((nW : Int) != 5) = true := by simp; omega
    go_enter Try.func99, Try.ntmps99
    go_wp2_with fail
    refine (obj_Words_calls _ _).mono ?_
    rintro e w1 ⟨rfl, rfl⟩
    try rw [HW.out]
    go_wp2_with fail
    go_ret
    exact ⟨by rw [HE.out]; first | rfl | exact ret_yes (by omega) | exact ret_no (by omega), below_alloc (Below.refl _ _) _⟩
set_option maxHeartbeats 8000000 in
set_option maxRecDepth 100000 in
theorem obj_Right_calls_4 (A1 A2 A3 : Option Addr) (nW nR nI c1 c2 c3 : Nat) (w : World) (bW : nW ≤ 140737488355328) (bR : nR ≤ 140737488355328) (bI : nI ≤ 140737488355328) : Calls Try.prog 99 #[.agg #[.int .i64 4, .slice A1 nW c1, .slice A2 nR c2, .slice A3 nI c3]] w fun e w' => e = .returned (.bool (oR 4 nW nR nI)) ∧ Below w.heap.size w w' := by
  have HW := Aside0.mk (show wN 4 = 1 from rfl)
  by_cases e1 : nW = 1
  · subst e1
    by_cases e2 : nR = 0
    · subst e2
      by_cases e3 : 1 ≤ nI
      · by_cases e4 : nI ≤ 1024
        · have HE := Aside0.mk (oR_yes (k := 4) (nW := 1) (nR := 0) (nI := nI) (by omega))
          go_enter Try.func99, Try.ntmps99
          go_wp2_with fail
          refine (obj_Words_calls _ _).mono ?_
          rintro e w1 ⟨rfl, rfl⟩
          try rw [HW.out]
          go_wp2_with fail
          go_ret
          exact ⟨by rw [HE.out]; first | rfl | exact ret_yes (by omega) | exact ret_no (by omega), below_alloc (Below.refl _ _) _⟩
        · have HE := Aside0.mk (oR_no (k := 4) (nW := 1) (nR := 0) (nI := nI) (by omega))
          go_enter Try.func99, Try.ntmps99
          go_wp2_with fail
          refine (obj_Words_calls _ _).mono ?_
          rintro e w1 ⟨rfl, rfl⟩
          try rw [HW.out]
          go_wp2_with fail
          go_ret
          exact ⟨by rw [HE.out]; first | rfl | exact ret_yes (by omega) | exact ret_no (by omega), below_alloc (Below.refl _ _) _⟩
      · have HE := Aside0.mk (oR_no (k := 4) (nW := 1) (nR := 0) (nI := nI) (by omega))
        go_enter Try.func99, Try.ntmps99
        go_wp2_with fail
        refine (obj_Words_calls _ _).mono ?_
        rintro e w1 ⟨rfl, rfl⟩
        try rw [HW.out]
        go_wp2_with fail
        go_ret
        exact ⟨by rw [HE.out]; first | rfl | exact ret_yes (by omega) | exact ret_no (by omega), below_alloc (Below.refl _ _) _⟩
    · have HE := Aside0.mk (oR_no (k := 4) (nW := 1) (nR := nR) (nI := nI) (by omega))
      have t2 : ((nR : Int) == 0) = false := by simp; omega
      go_enter Try.func99, Try.ntmps99
      go_wp2_with fail
      refine (obj_Words_calls _ _).mono ?_
      rintro e w1 ⟨rfl, rfl⟩
      try rw [HW.out]
      go_wp2_with fail
      go_ret
      exact ⟨by rw [HE.out]; first | rfl | exact ret_yes (by omega) | exact ret_no (by omega), below_alloc (Below.refl _ _) _⟩
  · have HE := Aside0.mk (oR_no (k := 4) (nW := nW) (nR := nR) (nI := nI) (by omega))
    have t1 : ((nW : Int) != 1) = true := by simp; omega
    go_enter Try.func99, Try.ntmps99
    go_wp2_with fail
    refine (obj_Words_calls _ _).mono ?_
    rintro e w1 ⟨rfl, rfl⟩
    try rw [HW.out]
    go_wp2_with fail
    go_ret
    exact ⟨by rw [HE.out]; first | rfl | exact ret_yes (by omega) | exact ret_no (by omega), below_alloc (Below.refl _ _) _⟩
set_option maxHeartbeats 8000000 in
set_option maxRecDepth 100000 in
theorem obj_Right_calls_0 (k : Int) (h1 : k ≠ 1) (h2 : k ≠ 2) (h3 : k ≠ 3) (h4 : k ≠ 4) (A1 A2 A3 : Option Addr) (nW nR nI c1 c2 c3 : Nat) (w : World) (bW : nW ≤ 140737488355328) (bR : nR ≤ 140737488355328) (bI : nI ≤ 140737488355328) : Calls Try.prog 99 #[.agg #[.int .i64 k, .slice A1 nW c1, .slice A2 nR c2, .slice A3 nI c3]] w fun e w' => e = .returned (.bool (oR k nW nR nI)) ∧ Below w.heap.size w w' := by
  have HE := Aside0.mk (oR_no (k := k) (nW := nW) (nR := nR) (nI := nI) (by omega))
  have hw : wN k = 0 := by simp [wN, h1, h2, h3, h4]
  have HW := Aside0.mk hw
  clear hw h1 h2 h3 h4
  go_enter Try.func99, Try.ntmps99
  go_wp2_with fail
  refine (obj_Words_calls _ _).mono ?_
  rintro e w1 ⟨rfl, rfl⟩
  try rw [HW.out]
  go_wp2_with fail
  go_ret
  exact ⟨by rw [HE.out]; first | rfl | exact ret_yes (by omega) | exact ret_no (by omega), below_alloc (Below.refl _ _) _⟩
theorem obj_Right_calls (k : Int) (A1 A2 A3 : Option Addr) (nW nR nI c1 c2 c3 : Nat) (w : World) (bW : nW ≤ 140737488355328) (bR : nR ≤ 140737488355328) (bI : nI ≤ 140737488355328) : Calls Try.prog 99 #[.agg #[.int .i64 k, .slice A1 nW c1, .slice A2 nR c2, .slice A3 nI c3]] w fun e w' => e = .returned (.bool (oR k nW nR nI)) ∧ Below w.heap.size w w' := by
  rcases kind_ways k with rfl | rfl | rfl | rfl | ⟨h1, h2, h3, h4⟩
  · exact obj_Right_calls_1 A1 A2 A3 nW nR nI c1 c2 c3 w bW bR bI
  · exact obj_Right_calls_2 A1 A2 A3 nW nR nI c1 c2 c3 w bW bR bI
  · exact obj_Right_calls_3 A1 A2 A3 nW nR nI c1 c2 c3 w bW bR bI
  · exact obj_Right_calls_4 A1 A2 A3 nW nR nI c1 c2 c3 w bW bR bI
  · exact obj_Right_calls_0 k h1 h2 h3 h4 A1 A2 A3 nW nR nI c1 c2 c3 w bW bR bI
set_option maxHeartbeats 8000000 in
set_option maxRecDepth 100000 in
theorem ref_oRight_calls_1 (A1 A2 A3 : Option Addr) (nW nR nI c1 c2 c3 : Nat) (w : World) (bW : nW ≤ 140737488355328) (bR : nR ≤ 140737488355328) (bI : nI ≤ 140737488355328) : Calls Try.prog 29 #[.agg #[.int .i64 1, .slice A1 nW c1, .slice A2 nR c2, .slice A3 nI c3]] w fun e w' => e = .returned (.bool (oR 1 nW nR nI)) ∧ Below w.heap.size w w' := by
  have HW := Aside0.mk (show wN 1 = 5 from rfl)
  have QQ : ∀ (w : World) (j : Nat), Calls Try.prog 98 #[.int .i64 1] (w.drewN j) fun e w' => e = .returned (.int .i64 5) ∧ ∃ m, w' = w.drewN m := fun w j => ref_oWords_quiet 1 w j
  by_cases e1 : nW = 5
  · subst e1
    by_cases e2 : nI = 0
    · subst e2
      by_cases e3 : 1 ≤ nR
      · by_cases e4 : nR ≤ 1024
        · have HE := Aside0.mk (oR_yes (k := 1) (nW := 5) (nR := nR) (nI := 0) (by omega))
          go_enter Try.func29, Try.ntmps29
          go_wp2_with fail
          go_quiet ((go_at_call 98; with_reducible exact QQ _ _))
          go_wp2_with fail
          try (go_quiet (fail); go_wp2_with fail)
          go_ret
          exact ⟨by rw [HE.out]; first | rfl | exact ret_yes (by omega) | exact ret_no (by omega), by (repeat (first | exact below_alloc (Below.refl _ _) _ | apply pw_below_drewN))⟩
        · have HE := Aside0.mk (oR_no (k := 1) (nW := 5) (nR := nR) (nI := 0) (by omega))
          go_enter Try.func29, Try.ntmps29
          go_wp2_with fail
          go_quiet ((go_at_call 98; with_reducible exact QQ _ _))
          go_wp2_with fail
          try (go_quiet (fail); go_wp2_with fail)
          go_ret
          exact ⟨by rw [HE.out]; first | rfl | exact ret_yes (by omega) | exact ret_no (by omega), by (repeat (first | exact below_alloc (Below.refl _ _) _ | apply pw_below_drewN))⟩
      · have HE := Aside0.mk (oR_no (k := 1) (nW := 5) (nR := nR) (nI := 0) (by omega))
        go_enter Try.func29, Try.ntmps29
        go_wp2_with fail
        go_quiet ((go_at_call 98; with_reducible exact QQ _ _))
        go_wp2_with fail
        try (go_quiet (fail); go_wp2_with fail)
        go_ret
        exact ⟨by rw [HE.out]; first | rfl | exact ret_yes (by omega) | exact ret_no (by omega), by (repeat (first | exact below_alloc (Below.refl _ _) _ | apply pw_below_drewN))⟩
    · have HE := Aside0.mk (oR_no (k := 1) (nW := 5) (nR := nR) (nI := nI) (by omega))
      have t2 : ((nI : Int) == 0) = false := by simp; omega
      go_enter Try.func29, Try.ntmps29
      go_wp2_with fail
      go_quiet ((go_at_call 98; with_reducible exact QQ _ _))
      go_wp2_with fail
      try (go_quiet (fail); go_wp2_with fail)
      go_ret
      exact ⟨by rw [HE.out]; first | rfl | exact ret_yes (by omega) | exact ret_no (by omega), by (repeat (first | exact below_alloc (Below.refl _ _) _ | apply pw_below_drewN))⟩
  · have HE := Aside0.mk (oR_no (k := 1) (nW := nW) (nR := nR) (nI := nI) (by omega))
    have t1 : ((nW : Int) != 5) = true := by simp; omega
    go_enter Try.func29, Try.ntmps29
    go_wp2_with fail
    go_quiet ((go_at_call 98; with_reducible exact QQ _ _))
    go_wp2_with fail
    try (go_quiet (fail); go_wp2_with fail)
    go_ret
    exact ⟨by rw [HE.out]; first | rfl | exact ret_yes (by omega) | exact ret_no (by omega), by (repeat (first | exact below_alloc (Below.refl _ _) _ | apply pw_below_drewN))⟩
set_option maxHeartbeats 8000000 in
set_option maxRecDepth 100000 in
theorem ref_oRight_calls_2 (A1 A2 A3 : Option Addr) (nW nR nI c1 c2 c3 : Nat) (w : World) (bW : nW ≤ 140737488355328) (bR : nR ≤ 140737488355328) (bI : nI ≤ 140737488355328) : Calls Try.prog 29 #[.agg #[.int .i64 2, .slice A1 nW c1, .slice A2 nR c2, .slice A3 nI c3]] w fun e w' => e = .returned (.bool (oR 2 nW nR nI)) ∧ Below w.heap.size w w' := by
  have HW := Aside0.mk (show wN 2 = 3 from rfl)
  have QQ : ∀ (w : World) (j : Nat), Calls Try.prog 98 #[.int .i64 2] (w.drewN j) fun e w' => e = .returned (.int .i64 3) ∧ ∃ m, w' = w.drewN m := fun w j => ref_oWords_quiet 2 w j
  by_cases e1 : nW = 3
  · subst e1
    by_cases e2 : nI = 0
    · subst e2
      by_cases e3 : 1 ≤ nR
      · by_cases e4 : nR ≤ 64
        · have HE := Aside0.mk (oR_yes (k := 2) (nW := 3) (nR := nR) (nI := 0) (by omega))
          go_enter Try.func29, Try.ntmps29
          go_wp2_with fail
          go_quiet ((go_at_call 98; with_reducible exact QQ _ _))
          go_wp2_with fail
          try (go_quiet (fail); go_wp2_with fail)
          go_ret
          exact ⟨by rw [HE.out]; first | rfl | exact ret_yes (by omega) | exact ret_no (by omega), by (repeat (first | exact below_alloc (Below.refl _ _) _ | apply pw_below_drewN))⟩
        · have HE := Aside0.mk (oR_no (k := 2) (nW := 3) (nR := nR) (nI := 0) (by omega))
          go_enter Try.func29, Try.ntmps29
          go_wp2_with fail
          go_quiet ((go_at_call 98; with_reducible exact QQ _ _))
          go_wp2_with fail
          try (go_quiet (fail); go_wp2_with fail)
          go_ret
          exact ⟨by rw [HE.out]; first | rfl | exact ret_yes (by omega) | exact ret_no (by omega), by (repeat (first | exact below_alloc (Below.refl _ _) _ | apply pw_below_drewN))⟩
      · have HE := Aside0.mk (oR_no (k := 2) (nW := 3) (nR := nR) (nI := 0) (by omega))
        go_enter Try.func29, Try.ntmps29
        go_wp2_with fail
        go_quiet ((go_at_call 98; with_reducible exact QQ _ _))
        go_wp2_with fail
        try (go_quiet (fail); go_wp2_with fail)
        go_ret
        exact ⟨by rw [HE.out]; first | rfl | exact ret_yes (by omega) | exact ret_no (by omega), by (repeat (first | exact below_alloc (Below.refl _ _) _ | apply pw_below_drewN))⟩
    · have HE := Aside0.mk (oR_no (k := 2) (nW := 3) (nR := nR) (nI := nI) (by omega))
      have t2 : ((nI : Int) == 0) = false := by simp; omega
      go_enter Try.func29, Try.ntmps29
      go_wp2_with fail
      go_quiet ((go_at_call 98; with_reducible exact QQ _ _))
      go_wp2_with fail
      try (go_quiet (fail); go_wp2_with fail)
      go_ret
      exact ⟨by rw [HE.out]; first | rfl | exact ret_yes (by omega) | exact ret_no (by omega), by (repeat (first | exact below_alloc (Below.refl _ _) _ | apply pw_below_drewN))⟩
  · have HE := Aside0.mk (oR_no (k := 2) (nW := nW) (nR := nR) (nI := nI) (by omega))
    have t1 : ((nW : Int) != 3) = true := by simp; omega
    go_enter Try.func29, Try.ntmps29
    go_wp2_with fail
    go_quiet ((go_at_call 98; with_reducible exact QQ _ _))
    go_wp2_with fail
    try (go_quiet (fail); go_wp2_with fail)
    go_ret
    exact ⟨by rw [HE.out]; first | rfl | exact ret_yes (by omega) | exact ret_no (by omega), by (repeat (first | exact below_alloc (Below.refl _ _) _ | apply pw_below_drewN))⟩
set_option maxHeartbeats 8000000 in
set_option maxRecDepth 100000 in
theorem ref_oRight_calls_3 (A1 A2 A3 : Option Addr) (nW nR nI c1 c2 c3 : Nat) (w : World) (bW : nW ≤ 140737488355328) (bR : nR ≤ 140737488355328) (bI : nI ≤ 140737488355328) : Calls Try.prog 29 #[.agg #[.int .i64 3, .slice A1 nW c1, .slice A2 nR c2, .slice A3 nI c3]] w fun e w' => e = .returned (.bool (oR 3 nW nR nI)) ∧ Below w.heap.size w w' := by
  have HW := Aside0.mk (show wN 3 = 5 from rfl)
  have QQ : ∀ (w : World) (j : Nat), Calls Try.prog 98 #[.int .i64 3] (w.drewN j) fun e w' => e = .returned (.int .i64 5) ∧ ∃ m, w' = w.drewN m := fun w j => ref_oWords_quiet 3 w j
  by_cases e1 : nW = 5
  · subst e1
    by_cases e2 : nR = 0
    · subst e2
      by_cases e3 : 1 ≤ nI
      · by_cases e4 : nI ≤ 64
        · have HE := Aside0.mk (oR_yes (k := 3) (nW := 5) (nR := 0) (nI := nI) (by omega))
          go_enter Try.func29, Try.ntmps29
          go_wp2_with fail
          go_quiet ((go_at_call 98; with_reducible exact QQ _ _))
          go_wp2_with fail
          try (go_quiet (fail); go_wp2_with fail)
          go_ret
          exact ⟨by rw [HE.out]; first | rfl | exact ret_yes (by omega) | exact ret_no (by omega), by (repeat (first | exact below_alloc (Below.refl _ _) _ | apply pw_below_drewN))⟩
        · have HE := Aside0.mk (oR_no (k := 3) (nW := 5) (nR := 0) (nI := nI) (by omega))
          go_enter Try.func29, Try.ntmps29
          go_wp2_with fail
          go_quiet ((go_at_call 98; with_reducible exact QQ _ _))
          go_wp2_with fail
          try (go_quiet (fail); go_wp2_with fail)
          go_ret
          exact ⟨by rw [HE.out]; first | rfl | exact ret_yes (by omega) | exact ret_no (by omega), by (repeat (first | exact below_alloc (Below.refl _ _) _ | apply pw_below_drewN))⟩
      · have HE := Aside0.mk (oR_no (k := 3) (nW := 5) (nR := 0) (nI := nI) (by omega))
        go_enter Try.func29, Try.ntmps29
        go_wp2_with fail
        go_quiet ((go_at_call 98; with_reducible exact QQ _ _))
        go_wp2_with fail
        try (go_quiet (fail); go_wp2_with fail)
        go_ret
        exact ⟨by rw [HE.out]; first | rfl | exact ret_yes (by omega) | exact ret_no (by omega), by (repeat (first | exact below_alloc (Below.refl _ _) _ | apply pw_below_drewN))⟩
    · have HE := Aside0.mk (oR_no (k := 3) (nW := 5) (nR := nR) (nI := nI) (by omega))
      have t2 : ((nR : Int) == 0) = false := by simp; omega
      go_enter Try.func29, Try.ntmps29
      go_wp2_with fail
      go_quiet ((go_at_call 98; with_reducible exact QQ _ _))
      go_wp2_with fail
      try (go_quiet (fail); go_wp2_with fail)
      go_ret
      exact ⟨by rw [HE.out]; first | rfl | exact ret_yes (by omega) | exact ret_no (by omega), by (repeat (first | exact below_alloc (Below.refl _ _) _ | apply pw_below_drewN))⟩
  · have HE := Aside0.mk (oR_no (k := 3) (nW := nW) (nR := nR) (nI := nI) (by omega))
    have t1 : ((nW : Int) != 5) = true := by simp; omega
    go_enter Try.func29, Try.ntmps29
    go_wp2_with fail
    go_quiet ((go_at_call 98; with_reducible exact QQ _ _))
    go_wp2_with fail
    try (go_quiet (fail); go_wp2_with fail)
    go_ret
    exact ⟨by rw [HE.out]; first | rfl | exact ret_yes (by omega) | exact ret_no (by omega), by (repeat (first | exact below_alloc (Below.refl _ _) _ | apply pw_below_drewN))⟩
set_option maxHeartbeats 8000000 in
set_option maxRecDepth 100000 in
theorem ref_oRight_calls_4 (A1 A2 A3 : Option Addr) (nW nR nI c1 c2 c3 : Nat) (w : World) (bW : nW ≤ 140737488355328) (bR : nR ≤ 140737488355328) (bI : nI ≤ 140737488355328) : Calls Try.prog 29 #[.agg #[.int .i64 4, .slice A1 nW c1, .slice A2 nR c2, .slice A3 nI c3]] w fun e w' => e = .returned (.bool (oR 4 nW nR nI)) ∧ Below w.heap.size w w' := by
  have HW := Aside0.mk (show wN 4 = 1 from rfl)
  have QQ : ∀ (w : World) (j : Nat), Calls Try.prog 98 #[.int .i64 4] (w.drewN j) fun e w' => e = .returned (.int .i64 1) ∧ ∃ m, w' = w.drewN m := fun w j => ref_oWords_quiet 4 w j
  by_cases e1 : nW = 1
  · subst e1
    by_cases e2 : nR = 0
    · subst e2
      by_cases e3 : 1 ≤ nI
      · by_cases e4 : nI ≤ 1024
        · have HE := Aside0.mk (oR_yes (k := 4) (nW := 1) (nR := 0) (nI := nI) (by omega))
          go_enter Try.func29, Try.ntmps29
          go_wp2_with fail
          go_quiet ((go_at_call 98; with_reducible exact QQ _ _))
          go_wp2_with fail
          try (go_quiet (fail); go_wp2_with fail)
          go_ret
          exact ⟨by rw [HE.out]; first | rfl | exact ret_yes (by omega) | exact ret_no (by omega), by (repeat (first | exact below_alloc (Below.refl _ _) _ | apply pw_below_drewN))⟩
        · have HE := Aside0.mk (oR_no (k := 4) (nW := 1) (nR := 0) (nI := nI) (by omega))
          go_enter Try.func29, Try.ntmps29
          go_wp2_with fail
          go_quiet ((go_at_call 98; with_reducible exact QQ _ _))
          go_wp2_with fail
          try (go_quiet (fail); go_wp2_with fail)
          go_ret
          exact ⟨by rw [HE.out]; first | rfl | exact ret_yes (by omega) | exact ret_no (by omega), by (repeat (first | exact below_alloc (Below.refl _ _) _ | apply pw_below_drewN))⟩
      · have HE := Aside0.mk (oR_no (k := 4) (nW := 1) (nR := 0) (nI := nI) (by omega))
        go_enter Try.func29, Try.ntmps29
        go_wp2_with fail
        go_quiet ((go_at_call 98; with_reducible exact QQ _ _))
        go_wp2_with fail
        try (go_quiet (fail); go_wp2_with fail)
        go_ret
        exact ⟨by rw [HE.out]; first | rfl | exact ret_yes (by omega) | exact ret_no (by omega), by (repeat (first | exact below_alloc (Below.refl _ _) _ | apply pw_below_drewN))⟩
    · have HE := Aside0.mk (oR_no (k := 4) (nW := 1) (nR := nR) (nI := nI) (by omega))
      have t2 : ((nR : Int) == 0) = false := by simp; omega
      go_enter Try.func29, Try.ntmps29
      go_wp2_with fail
      go_quiet ((go_at_call 98; with_reducible exact QQ _ _))
      go_wp2_with fail
      try (go_quiet (fail); go_wp2_with fail)
      go_ret
      exact ⟨by rw [HE.out]; first | rfl | exact ret_yes (by omega) | exact ret_no (by omega), by (repeat (first | exact below_alloc (Below.refl _ _) _ | apply pw_below_drewN))⟩
  · have HE := Aside0.mk (oR_no (k := 4) (nW := nW) (nR := nR) (nI := nI) (by omega))
    have t1 : ((nW : Int) != 1) = true := by simp; omega
    go_enter Try.func29, Try.ntmps29
    go_wp2_with fail
    go_quiet ((go_at_call 98; with_reducible exact QQ _ _))
    go_wp2_with fail
    try (go_quiet (fail); go_wp2_with fail)
    go_ret
    exact ⟨by rw [HE.out]; first | rfl | exact ret_yes (by omega) | exact ret_no (by omega), by (repeat (first | exact below_alloc (Below.refl _ _) _ | apply pw_below_drewN))⟩
set_option maxHeartbeats 8000000 in
set_option maxRecDepth 100000 in
theorem ref_oRight_calls_0 (k : Int) (h1 : k ≠ 1) (h2 : k ≠ 2) (h3 : k ≠ 3) (h4 : k ≠ 4) (A1 A2 A3 : Option Addr) (nW nR nI c1 c2 c3 : Nat) (w : World) (bW : nW ≤ 140737488355328) (bR : nR ≤ 140737488355328) (bI : nI ≤ 140737488355328) : Calls Try.prog 29 #[.agg #[.int .i64 k, .slice A1 nW c1, .slice A2 nR c2, .slice A3 nI c3]] w fun e w' => e = .returned (.bool (oR k nW nR nI)) ∧ Below w.heap.size w w' := by
  have HE := Aside0.mk (oR_no (k := k) (nW := nW) (nR := nR) (nI := nI) (by omega))
  have hw : wN k = 0 := by simp [wN, h1, h2, h3, h4]
  have HW := Aside0.mk hw
  have QQ : ∀ (w : World) (j : Nat), Calls Try.prog 98 #[.int .i64 k] (w.drewN j) fun e w' => e = .returned (.int .i64 0) ∧ ∃ m, w' = w.drewN m := fun w j => by have := ref_oWords_quiet k w j; rwa [hw] at this
  clear hw h1 h2 h3 h4
  go_enter Try.func29, Try.ntmps29
  go_wp2_with fail
  go_quiet ((go_at_call 98; with_reducible exact QQ _ _))
  go_wp2_with fail
  try (go_quiet (fail); go_wp2_with fail)
  go_ret
  exact ⟨by rw [HE.out]; first | rfl | exact ret_yes (by omega) | exact ret_no (by omega), by (repeat (first | exact below_alloc (Below.refl _ _) _ | apply pw_below_drewN))⟩
theorem ref_oRight_calls (k : Int) (A1 A2 A3 : Option Addr) (nW nR nI c1 c2 c3 : Nat) (w : World) (bW : nW ≤ 140737488355328) (bR : nR ≤ 140737488355328) (bI : nI ≤ 140737488355328) : Calls Try.prog 29 #[.agg #[.int .i64 k, .slice A1 nW c1, .slice A2 nR c2, .slice A3 nI c3]] w fun e w' => e = .returned (.bool (oR k nW nR nI)) ∧ Below w.heap.size w w' := by
  rcases kind_ways k with rfl | rfl | rfl | rfl | ⟨h1, h2, h3, h4⟩
  · exact ref_oRight_calls_1 A1 A2 A3 nW nR nI c1 c2 c3 w bW bR bI
  · exact ref_oRight_calls_2 A1 A2 A3 nW nR nI c1 c2 c3 w bW bR bI
  · exact ref_oRight_calls_3 A1 A2 A3 nW nR nI c1 c2 c3 w bW bR bI
  · exact ref_oRight_calls_4 A1 A2 A3 nW nR nI c1 c2 c3 w bW bR bI
  · exact ref_oRight_calls_0 k h1 h2 h3 h4 A1 A2 A3 nW nR nI c1 c2 c3 w bW bR bI
end Go.Proofs.Ytigdchfjcfljjaa
end
section
/- Objects as bytes: the program's Encode. -/
namespace Go.Proofs.Ytigdchfjcfljjaa
open Go.RowKit Go.Proofs.YtigdchfjcfljjaaW.PrintWords Go.Proofs.YtigdchfjcfljjaaW.PrintLast Go.Proofs.YtigdchfjcfljjaaW.PrintMore
attribute [local go_sem] max2_int min2_int max_two min_two max_three min_three max_four min_four
/-- An object's bytes. -/
def objB (k : Int) (ws raw it : List Int) : List Int := words8 [k, 16 + 8 * (ws.length : Int) + (raw.length : Int) + 8 * (it.length : Int)] ++ words8 ws ++ raw ++ words8 it
def objZ (k : Int) (ws raw it : List Int) : List Int := objB k ws raw it ++ List.replicate (padN (objB k ws raw it).length 8) 0
theorem objB_len (k : Int) (ws raw it : List Int) : (objB k ws raw it).length = 16 + 8 * ws.length + raw.length + 8 * it.length := by
  simp only [objB, List.length_append, words8_len, List.length_cons, List.length_nil]
theorem objB_isB (k : Int) {ws raw it : List Int} (h : isB raw) : isB (objB k ws raw it) := (((words8_isB' _).app (words8_isB' _)).app h).app (words8_isB' _)
theorem ozeros_isB (n : Nat) : isB (List.replicate n 0) := fun x hx => by have := List.eq_of_mem_replicate hx; omega
theorem objZ_isB (k : Int) {ws raw it : List Int} (h : isB raw) : isB (objZ k ws raw it) := (objB_isB k h).app (ozeros_isB _)
theorem oR_of {k : Int} {nW nR nI : Nat} (h : oR k nW nR nI = true) : 1 ≤ k ∧ k ≤ 4 ∧ (nW : Int) = wN k ∧ nW ≤ 5 ∧ nR ≤ 1024 ∧ nI ≤ 1024 := by
  have h := of_decide_eq_true h
  rcases h with ⟨rfl, rfl, h⟩ | ⟨rfl, rfl, h⟩ | ⟨rfl, rfl, h⟩ | ⟨rfl, rfl, h⟩ <;> exact ⟨by omega, by omega, rfl, by omega, by omega, by omega⟩
set_option maxHeartbeats 8000000 in
set_option maxRecDepth 100000 in
theorem obj_Encode_yes (k : Int) (ws raw it : List Int) (A1 A2 A3 : Option Addr) (c1 c2 c3 : Nat) (w : World) (h1 : Rd w .u64 (.slice A1 ws.length c1) ws) (h2 : Rd w .u8 (.slice A2 raw.length c2) raw) (h3 : Rd w .u64 (.slice A3 it.length c3) it)
    (b1 : isW ws) (b2 : isB raw) (b3 : isW it) (hr : oR k ws.length raw.length it.length = true) :
    Calls Try.prog 31 #[.agg #[.int .i64 k, .slice A1 ws.length c1, .slice A2 raw.length c2, .slice A3 it.length c3]] w fun e w' => ∃ v, e = .returned v ∧ Own (Value.int .u8) w' w.heap.size 5 v (objZ k ws raw it) ∧ Below w.heap.size w w' := by
  obtain ⟨k0, k1, kw, n1, n2, n3⟩ := oR_of hr
  have HR := Aside0.mk hr
  have H1 := Aside0.mk h1
  have H2 := Aside0.mk h2
  have H3 := Aside0.mk h3
  have W1 := Aside0.mk b1
  have W3 := Aside0.mk b3
  have O1 := Aside0.mk (fun (A : Addr) n c (e : Value.slice A1 ws.length c1 = .slice (some A) n c) (hp : 0 < ws.length) => rd_old h1 e hp)
  have O3 := Aside0.mk (fun (A : Addr) n c (e : Value.slice A3 it.length c3 = .slice (some A) n c) (hp : 0 < it.length) => rd_old h3 e hp)
  have HBX := Aside0.mk (blk_new w (.cells #[.int .i64 k, .slice A1 ws.length c1, .slice A2 raw.length c2, .slice A3 it.length c3] 51))
  obtain ⟨q0, q1⟩ := wN_bd k
  obtain ⟨q, hq⟩ : ∃ q, wN k = q := ⟨_, rfl⟩
  rw [hq] at q0 q1 kw
  have HQ := Aside0.mk hq
  have HKW := Aside0.mk kw
  have m1 : ws.length ≤ 9223372036854775807 := by omega
  clear hr h1 h2 h3 b1 b2 b3 hq kw
  go_enter Try.func31, Try.ntmps31
  go_wp2_with fail
  refine (obj_Right_calls k A1 A2 A3 ws.length raw.length it.length c1 c2 c3 _ (by omega) (by omega) (by omega)).mono ?_
  rintro e w1 ⟨rfl, hb⟩
  have HB1 := Aside0.mk (below_step (below_alloc (Below.refl _ _) (.cells #[.int .i64 k, .slice A1 ws.length c1, .slice A2 raw.length c2, .slice A3 it.length c3] 51)) hb)
  have HX1 := Aside0.mk (blk_below HBX.out hb)
  clear hb
  rw [HR.out]
  have HB2 := Aside0.mk (below_alloc HB1.out (.cells #[.slice none 0 0] 159))
  have HX2 := Aside0.mk (blk_alloc HX1.out (.cells #[.slice none 0 0] 159))
  have HV2 := Aside0.mk (show WrV (w1.alloc (.cells #[.slice none 0 0] 159)) w1.heap.size w.heap.size (.slice none 0 0) [] from ⟨blk_new _ _, Own.nil _ _ _ _⟩)
  have hs1 : wrap64 (16 + 8 * q + (raw.length : Int)) = 16 + 8 * q + (raw.length : Int) := by unfold wrap64; omega
  have hs2 : wrap64 (8 * (it.length : Int)) = 8 * (it.length : Int) := by unfold wrap64; omega
  have hs3 : wrap64 (16 + 8 * q + (raw.length : Int) + 8 * (it.length : Int)) = 16 + 8 * q + (raw.length : Int) + 8 * (it.length : Int) := by unfold wrap64; omega
  have hs4 : IntKind.u64.wrap k = k := IntWalk.u64_in _ (by omega)
  have hs5 : IntKind.u64.wrap (16 + 8 * q + (raw.length : Int) + 8 * (it.length : Int)) = 16 + 8 * q + (raw.length : Int) + 8 * (it.length : Int) := IntWalk.u64_in _ (by omega)
  obtain ⟨z, hz⟩ : ∃ z, 16 + 8 * q + (raw.length : Int) + 8 * (it.length : Int) = z := ⟨_, rfl⟩
  have HU := Aside0.mk (show IntKind.u64.wrap (wrap64 (16 + 8 * q + (raw.length : Int) + 8 * (it.length : Int))) = z by rw [hs3, hs5, hz])
  have hz0 : 0 ≤ z := by omega
  have hz1 : z ≤ 100000 := by omega
  have HZ := Aside0.mk (show z = 16 + 8 * (ws.length : Int) + (raw.length : Int) + 8 * (it.length : Int) by have := HKW.out; omega)
  have HW2 := Aside0.mk (show isW [k, z] by intro x hx; simp only [List.mem_cons, List.not_mem_nil, or_false] at hx; rcases hx with rfl | rfl <;> omega)
  have HL1 := Aside0.mk (show Rd ((w1.alloc (.cells #[.slice none 0 0] 159)).alloc (.cells #[.int .u64 k, .int .u64 z] 32)).drew .u64 (.slice (some ⟨w1.heap.size + 1, 0, none⟩) 2 2) [k, z] by
    have := (Rd.lit (w1.alloc (.cells #[.slice none 0 0] 159)) .u64 32 [k, z] (by simp)).below (below_drew (Below.refl _ _)); simpa [nums] using this)
  have HB3 := Aside0.mk (below_drew (below_alloc HB2.out (.cells #[.int .u64 k, .int .u64 z] 32)))
  have HV3 := Aside0.mk ((HV2.out.below (below_alloc (Below.refl _ _) (.cells #[.int .u64 k, .int .u64 z] 32))).below (below_drew (Below.refl _ _)))
  have HX3 := Aside0.mk (blk_drew (blk_alloc HX2.out (.cells #[.int .u64 k, .int .u64 z] 32)))
  clear hz hs3 hs5
  go_wp2_with fail
  have z0 : (w1.alloc (.cells #[.slice none 0 0] 159)).cell? ⟨w.heap.size, 0, none⟩ = some (.int .i64 k) := blk_cell HX2.out 0
  have z1 : (w1.alloc (.cells #[.slice none 0 0] 159)).cell? ⟨w.heap.size, 1, none⟩ = some (.slice A1 ws.length c1) := blk_cell HX2.out 1
  have z2 : (w1.alloc (.cells #[.slice none 0 0] 159)).cell? ⟨w.heap.size, 2, none⟩ = some (.slice A2 raw.length c2) := blk_cell HX2.out 2
  have z3 : (w1.alloc (.cells #[.slice none 0 0] 159)).cell? ⟨w.heap.size, 3, none⟩ = some (.slice A3 it.length c3) := blk_cell HX2.out 3
  refine start_ (n := 18) (S := fun w' => w'.cell? ⟨w.heap.size, 0, none⟩ = some (.int .i64 k) ∧ w'.cell? ⟨w.heap.size, 1, none⟩ = some (.slice A1 ws.length c1) ∧ w'.cell? ⟨w.heap.size, 2, none⟩ = some (.slice A2 raw.length c2) ∧ w'.cell? ⟨w.heap.size, 3, none⟩ = some (.slice A3 it.length c3)) (ds := [17]) #[false,false,false,false,false,false,false,false,false,false,false,false,false,false,false,false,false,false] (by kernel_rfl) rfl rfl ⟨z0, z1, z2, z3⟩ (fun hHeld => ?_)
  refine pure_ (i := 0) (N := some 7) (v := ?_) (a' := ?_) #[true,false,false,false,false,false,false,false,false,false,false,false,false,false,false,false,false,false] rfl rfl (by kernel_rfl) (fun _ _ _ h => h) (Or.inl ⟨by rfl, ?_⟩) ?_ ?_
  rotate_left
  · intro w'
    go_simp
    with_reducible rfl
  rotate_left
  · simp only [Act.put, List.setIfInBounds_toArray, List.set_cons_zero, List.set_cons_succ, i64_w, i32_w]
    rfl
  refine pure_ (i := 3) (N := some 10) (v := ?_) (a' := ?_) #[true,false,false,true,false,false,false,false,false,false,false,false,false,false,false,false,false,false] rfl rfl (by kernel_rfl) (fun _ _ _ h => h) (Or.inl ⟨by rfl, ?_⟩) ?_ ?_
  rotate_left
  · intro w'
    go_simp
    with_reducible rfl
  rotate_left
  · simp only [Act.put, List.setIfInBounds_toArray, List.set_cons_zero, List.set_cons_succ, i64_w, i32_w]
    rfl
  refine pure_ (i := 6) (N := some 13) (v := ?_) (a' := ?_) #[true,false,false,true,false,false,true,false,false,false,false,false,false,false,false,false,false,false] rfl rfl (by kernel_rfl) (fun _ _ _ h => h) (Or.inl ⟨by rfl, ?_⟩) ?_ ?_
  rotate_left
  · intro w'
    go_simp
    with_reducible rfl
  rotate_left
  · simp only [Act.put, List.setIfInBounds_toArray, List.set_cons_zero, List.set_cons_succ, i64_w, i32_w]
    rfl
  refine pure_ (i := 10) (N := some 17) (v := ?_) (a' := ?_) #[true,false,false,true,false,false,true,false,false,false,true,false,false,false,false,false,false,false] rfl rfl (by kernel_rfl) (fun _ _ _ h => h) (Or.inl ⟨by rfl, ?_⟩) ?_ ?_
  rotate_left
  · intro w'
    go_simp
    with_reducible rfl
  rotate_left
  · simp only [Act.put, List.setIfInBounds_toArray, List.set_cons_zero, List.set_cons_succ, i64_w, i32_w]
    rfl
  refine take_ (i := 1) (N := some 8) (v := ?_) (a' := ?_) #[true,true,false,true,false,false,true,false,false,false,true,false,false,false,false,false,false,false] rfl rfl (by kernel_rfl) (fun _ _ _ h => h) (Or.inl ⟨by rfl, ?_⟩) hHeld ?_ ?_
  rotate_left
  · rintro w' ⟨s0, s1, s2, s3⟩
    go_simp
    with_reducible rfl
  rotate_left
  · simp only [Act.put, List.setIfInBounds_toArray, List.set_cons_zero, List.set_cons_succ, i64_w, i32_w]
    rfl
  refine pure_ (i := 2) (N := some 9) (v := ?_) (a' := ?_) #[true,true,true,true,false,false,true,false,false,false,true,false,false,false,false,false,false,false] rfl rfl (by kernel_rfl) (fun _ _ _ h => h) (Or.inl ⟨by rfl, ?_⟩) ?_ ?_
  rotate_left
  · intro w'
    go_simp
    with_reducible rfl
  rotate_left
  · simp only [Act.put, List.setIfInBounds_toArray, List.set_cons_zero, List.set_cons_succ, i64_w, i32_w]
    rfl
  refine take_ (i := 4) (N := some 11) (v := ?_) (a' := ?_) #[true,true,true,true,true,false,true,false,false,false,true,false,false,false,false,false,false,false] rfl rfl (by kernel_rfl) (fun _ _ _ h => h) (Or.inl ⟨by rfl, ?_⟩) hHeld ?_ ?_
  rotate_left
  · rintro w' ⟨s0, s1, s2, s3⟩
    go_simp
    with_reducible rfl
  rotate_left
  · simp only [Act.put, List.setIfInBounds_toArray, List.set_cons_zero, List.set_cons_succ, i64_w, i32_w]
    rfl
  refine take_ (i := 7) (N := some 14) (v := ?_) (a' := ?_) #[true,true,true,true,true,false,true,true,false,false,true,false,false,false,false,false,false,false] rfl rfl (by kernel_rfl) (fun _ _ _ h => h) (Or.inl ⟨by rfl, ?_⟩) hHeld ?_ ?_
  rotate_left
  · rintro w' ⟨s0, s1, s2, s3⟩
    go_simp
    with_reducible rfl
  rotate_left
  · simp only [Act.put, List.setIfInBounds_toArray, List.set_cons_zero, List.set_cons_succ, i64_w, i32_w]
    rfl
  refine pure_ (i := 8) (N := some 15) (v := ?_) (a' := ?_) #[true,true,true,true,true,false,true,true,true,false,true,false,false,false,false,false,false,false] rfl rfl (by kernel_rfl) (fun _ _ _ h => h) (Or.inl ⟨by rfl, ?_⟩) ?_ ?_
  rotate_left
  · intro w'
    go_simp
    with_reducible rfl
  rotate_left
  · simp only [Act.put, List.setIfInBounds_toArray, List.set_cons_zero, List.set_cons_succ, i64_w, i32_w]
    rfl
  refine take_ (i := 11) (N := some 18) (v := ?_) (a' := ?_) #[true,true,true,true,true,false,true,true,true,false,true,true,false,false,false,false,false,false] rfl rfl (by kernel_rfl) (fun _ _ _ h => h) (Or.inl ⟨by rfl, ?_⟩) hHeld ?_ ?_
  rotate_left
  · rintro w' ⟨s0, s1, s2, s3⟩
    go_simp
    with_reducible rfl
  rotate_left
  · simp only [Act.put, List.setIfInBounds_toArray, List.set_cons_zero, List.set_cons_succ, i64_w, i32_w]
    rfl
  refine pure_ (i := 12) (N := some 19) (v := ?_) (a' := ?_) #[true,true,true,true,true,false,true,true,true,false,true,true,true,false,false,false,false,false] rfl rfl (by kernel_rfl) (fun _ _ _ h => h) (Or.inl ⟨by rfl, ?_⟩) ?_ ?_
  rotate_left
  · intro w'
    go_simp
    with_reducible rfl
  rotate_left
  · simp only [Act.put, List.setIfInBounds_toArray, List.set_cons_zero, List.set_cons_succ, i64_w, i32_w]
    rfl
  refine pure_ (i := 13) (N := some 20) (v := ?_) (a' := ?_) #[true,true,true,true,true,false,true,true,true,false,true,true,true,true,false,false,false,false] rfl rfl (by kernel_rfl) (fun _ _ _ h => h) (Or.inl ⟨by rfl, ?_⟩) ?_ ?_
  rotate_left
  · intro w'
    go_simp
    with_reducible rfl
  rotate_left
  · simp only [Act.put, List.setIfInBounds_toArray, List.set_cons_zero, List.set_cons_succ, i64_w, i32_w]
    rfl
  refine one_ (i := 5) (N := some 12) #[true,true,true,true,true,true,true,true,true,false,true,true,true,true,false,false,false,false] rfl rfl (by kernel_rfl) (by decide) (fun K hK => ?_)
  refine goes_ Try.func100 (by kernel_rfl) rfl #[.int .i64 k] (by rfl) rfl rfl (by (try simp only [List.map_toArray, List.map_cons, List.map_nil]); first | done | rfl) ?_
  with_reducible refine (obj_Front_calls k _).mono ?_
  rintro e wf ⟨rfl, rfl⟩
  refine ⟨_, rfl, ?_⟩
  rw [HQ.out]
  refine hK.out _ _ ⟨hHeld.1, hHeld.2.1, hHeld.2.2.1, hHeld.2.2.2⟩ (fun hHeld => ?_)
  clear hK K
  refine norm_ (a' := ?_) ?_ ?_
  rotate_left
  · show Act.put _ (some 12) _ = _
    simp only [Act.put, List.setIfInBounds_toArray, List.set_cons_zero, List.set_cons_succ, i64_w, i32_w]
    rfl
  refine pure_ (i := 9) (N := some 16) (v := ?_) (a' := ?_) #[true,true,true,true,true,true,true,true,true,true,true,true,true,true,false,false,false,false] rfl rfl (by kernel_rfl) (fun _ _ _ h => h) (Or.inl ⟨by rfl, ?_⟩) ?_ ?_
  rotate_left
  · intro w'
    go_simp
    with_reducible rfl
  rotate_left
  · simp only [Act.put, List.setIfInBounds_toArray, List.set_cons_zero, List.set_cons_succ, i64_w, i32_w]
    rfl
  refine pure_ (i := 14) (N := some 21) (v := ?_) (a' := ?_) #[true,true,true,true,true,true,true,true,true,true,true,true,true,true,true,false,false,false] rfl rfl (by kernel_rfl) (fun _ _ _ h => h) (Or.inl ⟨by rfl, ?_⟩) ?_ ?_
  rotate_left
  · intro w'
    go_simp
    with_reducible rfl
  rotate_left
  · simp only [Act.put, List.setIfInBounds_toArray, List.set_cons_zero, List.set_cons_succ, i64_w, i32_w]
    rfl
  refine pure_ (i := 15) (N := some 22) (v := ?_) (a' := ?_) #[true,true,true,true,true,true,true,true,true,true,true,true,true,true,true,true,false,false] rfl rfl (by kernel_rfl) (fun _ _ _ h => h) (Or.inl ⟨by rfl, ?_⟩) ?_ ?_
  rotate_left
  · intro w'
    go_simp
    with_reducible rfl
  rotate_left
  · simp only [Act.put, List.setIfInBounds_toArray, List.set_cons_zero, List.set_cons_succ, i64_w, i32_w]
    rfl
  refine one_ (i := 16) (N := some 23) #[true,true,true,true,true,true,true,true,true,true,true,true,true,true,true,true,true,false] rfl rfl (by kernel_rfl) (by decide) (fun K hK => ?_)
  refine value_ (w1 := ?_) (v := ?_) (by rfl) rfl ?_ ?_
  rotate_left 2
  · go_simp
    constructor
    · rfl
    · rfl
  refine hK.out _ _ ⟨(pw_cell_below (below_alloc (Below.refl _ _) _) hHeld.1), (pw_cell_below (below_alloc (Below.refl _ _) _) hHeld.2.1), (pw_cell_below (below_alloc (Below.refl _ _) _) hHeld.2.2.1), (pw_cell_below (below_alloc (Below.refl _ _) _) hHeld.2.2.2)⟩ (fun hHeld => ?_)
  clear hK K
  refine norm_ (a' := ?_) ?_ ?_
  rotate_left
  · show Act.put _ (some 23) _ = _
    simp only [Act.put, List.setIfInBounds_toArray, List.set_cons_zero, List.set_cons_succ, i64_w, i32_w]
    rfl
  refine last_ (i := 17) (N := some 24) #[true,true,true,true,true,true,true,true,true,true,true,true,true,true,true,true,true,true] rfl rfl (by kernel_rfl) (by decide) (fun K hK => ?_)
  rw [HU.out]
  refine goes_ Try.func93 (by kernel_rfl) rfl #[.pointer (some ⟨w1.heap.size, 0, none⟩), .slice (some ⟨w1.heap.size + 1, 0, none⟩) 2 2] (by rfl) rfl rfl (by (try simp only [List.map_toArray, List.map_cons, List.map_nil]); first | done | rfl) ?_
  with_reducible refine (Writer_Words_calls (.slice (some ⟨w1.heap.size + 1, 0, none⟩) 2 2) [k, z] HW2.out _ w1.heap.size w.heap.size (.slice none 0 0) [] HV3.out HL1.out (fun A n c e _ => by simp only [Value.slice.injEq, Option.some.injEq] at e; obtain ⟨rfl, _, _⟩ := e; exact ⟨by simp, by simp [Value.ownBlock]⟩) HB3.out.size (by simp)).mono ?_
  rintro e w4 ⟨rfl, hs4⟩
  refine ⟨_, rfl, ?_⟩
  refine hK.out _ _ ?_
  clear hK K
  refine norm_ (a' := ?_) ?_ ?_
  rotate_left
  · show Act.put _ (some 24) _ = _
    simp only [Act.put, List.setIfInBounds_toArray, List.set_cons_zero, List.set_cons_succ, i64_w, i32_w]
    rfl
  refine done_ (by kernel_rfl) ?_
  obtain ⟨v4, hv4, hb4⟩ := WrS.next HV3.out HB3.out HB1.out.size hs4
  have HX4 := Aside0.mk (hs4.keep HV3.out HX3.out (by decide) (by have := blk_lt HX1.out; omega))
  have HV4 := Aside0.mk (show WrV w4 w1.heap.size w.heap.size v4 (words8 [k, z]) from hv4)
  have HB4 := Aside0.mk hb4
  clear hs4 hv4 hb4 z0 z1 z2 z3 hs1 hs2
  have z0 := blk_cell HX4.out 0
  have z1 := blk_cell HX4.out 1
  have z2 := blk_cell HX4.out 2
  have z3 := blk_cell HX4.out 3
  go_wp2_with fail
  refine (Writer_Words_calls (.slice A1 ws.length c1) ws W1.out _ w1.heap.size w.heap.size v4 _ HV4.out (H1.out.below HB4.out) (fun A n c e hp => ?_) HB4.out.size (by simp only [List.length_append, words8_len, List.length_cons, List.length_nil]; omega)).mono ?_
  · have hlt := O1.out A n c e hp
    refine ⟨by have := HB1.out.size; omega, fun hh => ?_⟩
    have := HV4.out.2.ge hh
    omega
  rintro e w5 ⟨rfl, hs⟩
  obtain ⟨v5, hv, hb⟩ := WrS.next HV4.out HB4.out HB1.out.size hs
  have HX5 := Aside0.mk (hs.keep HV4.out HX4.out (by decide) (by have := blk_lt HX1.out; omega))
  have HV5 := Aside0.mk hv
  have HB5 := Aside0.mk hb
  clear hs hv hb z0 z1 z2 z3
  have z0 := blk_cell HX5.out 0
  have z1 := blk_cell HX5.out 1
  have z2 := blk_cell HX5.out 2
  have z3 := blk_cell HX5.out 3
  go_wp2_with fail
  refine (Writer_Raw_calls (.slice A2 raw.length c2) raw _ w1.heap.size w.heap.size v5 _ HV5.out (H2.out.below HB5.out) HB5.out.size (by simp only [List.length_append, words8_len, List.length_cons, List.length_nil]; omega)).mono ?_
  rintro e w6 ⟨rfl, hs⟩
  obtain ⟨v6, hv, hb⟩ := WrS.next HV5.out HB5.out HB1.out.size hs
  have HX6 := Aside0.mk (hs.keep HV5.out HX5.out (by decide) (by have := blk_lt HX1.out; omega))
  have HV6 := Aside0.mk hv
  have HB6 := Aside0.mk hb
  clear hs hv hb z0 z1 z2 z3
  have z0 := blk_cell HX6.out 0
  have z1 := blk_cell HX6.out 1
  have z2 := blk_cell HX6.out 2
  have z3 := blk_cell HX6.out 3
  go_wp2_with fail
  refine (Writer_Words_calls (.slice A3 it.length c3) it W3.out _ w1.heap.size w.heap.size v6 _ HV6.out (H3.out.below HB6.out) (fun A n c e hp => ?_) HB6.out.size (by simp only [List.length_append, words8_len, List.length_cons, List.length_nil]; omega)).mono ?_
  · have hlt := O3.out A n c e hp
    refine ⟨by have := HB1.out.size; omega, fun hh => ?_⟩
    have := HV6.out.2.ge hh
    omega
  rintro e w7 ⟨rfl, hs⟩
  obtain ⟨v7, hv, hb⟩ := WrS.next HV6.out HB6.out HB1.out.size hs
  have HX7 := Aside0.mk (hs.keep HV6.out HX6.out (by decide) (by have := blk_lt HX1.out; omega))
  have HV7 := Aside0.mk hv
  have HB7 := Aside0.mk hb
  clear hs hv hb z0 z1 z2 z3
  have HL := Aside0.mk (show words8 [k, z] ++ words8 ws ++ raw ++ words8 it = objB k ws raw it by rw [objB, HZ.out])
  have HV8 := Aside0.mk (show WrV w7 w1.heap.size w.heap.size v7 (objB k ws raw it) by rw [← HL.out]; exact HV7.out)
  go_wp2_with fail
  refine (Writer_Pad_calls 8 _ w1.heap.size w.heap.size v7 _ HV8.out HB7.out.size (by have := padN_le ((objB k ws raw it).length : Int) 8; rw [objB_len] at *; omega)).mono ?_
  rintro e w8 ⟨rfl, hs⟩
  obtain ⟨v8, hv, hb⟩ := WrS.next HV8.out HB7.out HB1.out.size hs
  have HV9 := Aside0.mk (show WrV w8 w1.heap.size w.heap.size v8 (objZ k ws raw it) from hv)
  have HB8 := Aside0.mk hb
  clear hs hv hb
  go_wp2_with fail
  refine (Writer_Done_calls _ w1.heap.size w.heap.size v8 _ HV9.out (by have := padN_le ((objB k ws raw it).length : Int) 8; rw [objZ, List.length_append, List.length_replicate]; rw [objB_len] at *; omega)).mono ?_
  rintro e w9 ⟨v9, rfl, ho, hb⟩
  have HO9 := Aside0.mk (ho.weaken HB8.out.size)
  have HB9 := Aside0.mk (below_step HB8.out hb)
  clear ho hb
  go_wp2_with fail
  go_ret
  exact ⟨_, rfl, HO9.out, HB9.out⟩
end Go.Proofs.Ytigdchfjcfljjaa
end
section
/- Objects as bytes: the reference's Encode. -/
namespace Go.Proofs.Ytigdchfjcfljjaa
open Go.RowKit Go.Proofs.YtigdchfjcfljjaaW.PrintWords Go.Proofs.YtigdchfjcfljjaaW.PrintLast Go.Proofs.YtigdchfjcfljjaaW.PrintMore
attribute [local go_sem] max2_int min2_int max_two min_two max_three min_three max_four min_four
theorem words8_take (pre ws : List Int) (i : Nat) (h : i < ws.length) : pre ++ words8 (ws.take (i + 1)) = (pre ++ words8 (ws.take i)) ++ leB (ws.getD i 0) 8 := by
  rw [take_snoc h, words8_snoc, List.append_assoc]
set_option maxHeartbeats 8000000 in
set_option maxRecDepth 100000 in
theorem ref_oEncode_yes (k : Int) (ws raw it : List Int) (A1 A2 A3 : Option Addr) (c1 c2 c3 : Nat) (w : World) (h1 : Rd w .u64 (.slice A1 ws.length c1) ws) (h2 : Rd w .u8 (.slice A2 raw.length c2) raw) (h3 : Rd w .u64 (.slice A3 it.length c3) it)
    (b1 : isW ws) (b2 : isB raw) (b3 : isW it) (hr : oR k ws.length raw.length it.length = true) :
    Calls Try.prog 148 #[.agg #[.int .i64 k, .slice A1 ws.length c1, .slice A2 raw.length c2, .slice A3 it.length c3]] w fun e w' => ∃ v, e = .returned v ∧ Own (Value.int .u8) w' w.heap.size 5 v (objZ k ws raw it) ∧ Below w.heap.size w w' := by
  obtain ⟨k0, k1, kw, n1, n2, n3⟩ := oR_of hr
  have HR := Aside0.mk hr
  have H1 := Aside0.mk h1
  have H2 := Aside0.mk h2
  have H3 := Aside0.mk h3
  have W1 := Aside0.mk b1
  have W3 := Aside0.mk b3
  have HBX := Aside0.mk (blk_new w (.cells #[.int .i64 k, .slice A1 ws.length c1, .slice A2 raw.length c2, .slice A3 it.length c3] 48))
  clear hr h1 h2 h3 b1 b2 b3 kw
  go_enter Try.func148, Try.ntmps148
  go_wp2_with fail
  refine (ref_oRight_calls k A1 A2 A3 ws.length raw.length it.length c1 c2 c3 _ (by omega) (by omega) (by omega)).mono ?_
  rintro e w1 ⟨rfl, hb⟩
  have HB1 := Aside0.mk (below_step (below_alloc (Below.refl _ _) (.cells #[.int .i64 k, .slice A1 ws.length c1, .slice A2 raw.length c2, .slice A3 it.length c3] 48)) hb)
  have HX1 := Aside0.mk (blk_below HBX.out hb)
  clear hb
  rw [HR.out]
  have z0 := blk_cell HX1.out 0
  have z1 := blk_cell HX1.out 1
  have z2 := blk_cell HX1.out 2
  have z3 := blk_cell HX1.out 3
  go_wp2_with fail
  with_reducible refine (ref_Bytes_calls k 8 _ (by omega) (by omega)).mono ?_
  rintro e w2 ⟨v2, rfl, hR2, hb2⟩
  have HB2 := Aside0.mk (below_step HB1.out hb2)
  have HX2 := Aside0.mk (blk_below HX1.out hb2)
  have HO2 := Aside0.mk (Own.weaken (Own.of_R hR2) HB1.out.size)
  clear hR2 hb2 z0 z1 z2 z3
  obtain ⟨z, hz⟩ : ∃ z, 16 + 8 * (ws.length : Int) + (raw.length : Int) + 8 * (it.length : Int) = z := ⟨_, rfl⟩
  have hz0 : 0 ≤ z := by omega
  have hz1 : z ≤ 100000 := by omega
  have HZ := Aside0.mk hz
  clear hz
  go_wp2_with fail
  rw [HZ.out]
  with_reducible refine (ref_Bytes_calls z 8 _ hz0 (by omega)).mono ?_
  rintro e w3 ⟨v3, rfl, hR3, hb3⟩
  obtain ⟨A4, c4, w4, hrun4, hO4, hg4, hat4⟩ := app8 (HO2.out.below hb3) (Own.rd (Own.of_R hR3)) (Nat.le_trans HB2.out.size hb3.size) (by simp only [leB_len]; unfold leW; omega)
  have HX4 := Aside0.mk (blk_grown (blk_below HX2.out hb3) hg4 (fun e => (HO2.out.below hb3).ne (blk_below HX2.out hb3) (by decide) e.symm))
  have HB4 := Aside0.mk (Kp.from (below_step HB2.out hb3) (Kp.of_grown hg4) (fun k hk => HO2.out.ge hk))
  have hp : leB k (leW 8) ++ leB z (leW 8) = words8 [k, z] := by rw [leW8]; simp [words8]
  rw [hp] at hrun4 hO4
  obtain ⟨m, hm⟩ : ∃ m, (words8 [k, z]).length = m := ⟨_, rfl⟩
  rw [hm] at hrun4 hO4
  have HO4 := Aside0.mk hO4
  have HR4 := Aside0.mk hrun4
  clear hR3 hb3 hrun4 hO4 hg4 hat4 hm hp
  go_wp2_with (first | ((with_reducible refine gate_builtin (b := .append) (xs := #[.tmp 27, .tmp 30]) rfl ?_); at_builtin; refine app_list rfl (.tmp 27) (.tmp 30) rfl rfl rfl HR4.out ?_))
  go_loopw [4, 5] (fun v4 v5 w' => ∃ i : Nat, i ≤ ws.length ∧ v5 = .int .i64 i ∧ Aside0 (Own (Value.int .u8) w' w.heap.size 5 v4 (words8 [k, z] ++ words8 (ws.take i))) ∧ Aside0 (Below w.heap.size w w') ∧ Aside0 (w'.heap[w.heap.size]? = some (.cells #[.int .i64 k, .slice A1 ws.length c1, .slice A2 raw.length c2, .slice A3 it.length c3] 48 (0, 0)))) (fun _ v5 _ => ws.length - (intOf v5).toNat)
  case atStart => exact ⟨0, by omega, rfl, ⟨by simpa [words8] using HO4.out⟩, HB4, HX4⟩
  case round =>
    obtain ⟨i, hi, rfl, HO, HB, HX⟩ := hrel
    have z0 := blk_cell HX.out 0
    have z1 := blk_cell HX.out 1
    have z2 := blk_cell HX.out 2
    have z3 := blk_cell HX.out 3
    by_cases hcc : i < ws.length
    · obtain ⟨ad, e, hcell⟩ := rd_at (H1.out.reads HB.out) i hcc
      have hxb := W1.out.getD i
      have HN := Aside0.mk (words8_take (words8 [k, z]) ws i hcc)
      obtain ⟨x, hx⟩ : ∃ x, ws.getD i 0 = x := ⟨_, rfl⟩
      rw [hx] at hcell hxb HN
      obtain ⟨x0, x1⟩ := hxb
      have HLEN := Aside0.mk (show (words8 [k, z] ++ words8 (ws.take i)).length ≤ 100000 by simp only [List.length_append, words8_len, List.length_take, List.length_cons, List.length_nil]; omega)
      clear hx
      cases e
      go_wp2_with fail
      with_reducible refine (ref_Bytes_calls x 8 _ x0 x1).mono ?_
      rintro e w2 ⟨v2, rfl, hR2, hb2⟩
      obtain ⟨A4, c4, w4, hrun4, hO4, hg4, hat4⟩ := app8 (HO.out.below hb2) (Own.rd (Own.of_R hR2)) (Nat.le_trans HB.out.size hb2.size) (by have := HLEN.out; simp only [leB_len]; unfold leW; omega)
      have HX4 := Aside0.mk (blk_grown (blk_below HX.out hb2) hg4 (fun e => (HO.out.below hb2).ne (blk_below HX.out hb2) (by decide) e.symm))
      have HB4 := Aside0.mk (Kp.from (below_step HB.out hb2) (Kp.of_grown hg4) (fun k hk => HO.out.ge hk))
      rw [leW8, ← HN.out] at hrun4 hO4
      obtain ⟨m, hm⟩ : ∃ m, (words8 [k, z] ++ words8 (ws.take (i + 1))).length = m := ⟨_, rfl⟩
      rw [hm] at hrun4 hO4
      have HO4 := Aside0.mk hO4
      have HR4 := Aside0.mk hrun4
      clear hR2 hb2 hrun4 hO4 hg4 hat4 hm z0 z1 z2 z3
      go_wp2_with (first | ((with_reducible refine gate_builtin (b := .append) (xs := #[.tmp 39, .tmp 45]) rfl ?_); at_builtin; refine app_list rfl (.tmp 39) (.tmp 45) rfl rfl rfl HR4.out ?_))
      go_roundw
      case rel => exact ⟨i + 1, by omega, by go_num, HO4, HB4, HX4⟩
      case measure => simp [intOf]; omega
    · have HJ := Aside0.mk (show words8 [k, z] ++ words8 (ws.take i) = words8 [k, z] ++ words8 ws by rw [List.take_of_length_le (by omega)])
      have HO1 := Aside0.mk (show Own (Value.int .u8) wr w.heap.size 5 _ (words8 [k, z] ++ words8 ws) by rw [← HJ.out]; exact HO.out)
      clear HO HJ
      obtain ⟨A6, c6, w6, hrun6, hO6, hg6, hat6⟩ := app8 HO1.out (H2.out.below HB.out) HB.out.size (by simp only [List.length_append, words8_len, List.length_cons, List.length_nil]; omega)
      have HX6 := Aside0.mk (blk_grown HX.out hg6 (fun e => HO1.out.ne HX.out (by decide) e.symm))
      have HB6 := Aside0.mk (Kp.from HB.out (Kp.of_grown hg6) (fun k hk => HO1.out.ge hk))
      obtain ⟨m, hm⟩ : ∃ m, (words8 [k, z] ++ words8 ws ++ raw).length = m := ⟨_, rfl⟩
      rw [hm] at hrun6 hO6
      have HO6 := Aside0.mk hO6
      have HR6 := Aside0.mk hrun6
      clear hrun6 hO6 hg6 hat6 hm
      go_wp2_with (first | ((with_reducible refine gate_builtin (b := .append) (xs := #[.tmp 47, .tmp 49]) rfl ?_); at_builtin; refine app_list rfl (.tmp 47) (.tmp 49) rfl rfl rfl HR6.out ?_))
      go_loopw [4, 6] (fun v4 v6 w' => ∃ i : Nat, i ≤ it.length ∧ v6 = .int .i64 i ∧ Aside0 (Own (Value.int .u8) w' w.heap.size 5 v4 (words8 [k, z] ++ words8 ws ++ raw ++ words8 (it.take i))) ∧ Aside0 (Below w.heap.size w w') ∧ Aside0 (w'.heap[w.heap.size]? = some (.cells #[.int .i64 k, .slice A1 ws.length c1, .slice A2 raw.length c2, .slice A3 it.length c3] 48 (0, 0)))) (fun _ v6 _ => it.length - (intOf v6).toNat)
      case atStart => exact ⟨0, by omega, rfl, ⟨by simpa [words8] using HO6.out⟩, HB6, HX6⟩
      case round =>
        clear HO1 HB HX z0 z1 z2 z3
        obtain ⟨i, hi, rfl, HO, HB, HX⟩ := hrel
        have z0 := blk_cell HX.out 0
        have z1 := blk_cell HX.out 1
        have z2 := blk_cell HX.out 2
        have z3 := blk_cell HX.out 3
        by_cases hcc : i < it.length
        · obtain ⟨ad, e, hcell⟩ := rd_at (H3.out.reads HB.out) i hcc
          have hxb := W3.out.getD i
          have HN := Aside0.mk (words8_take (words8 [k, z] ++ words8 ws ++ raw) it i hcc)
          obtain ⟨x, hx⟩ : ∃ x, it.getD i 0 = x := ⟨_, rfl⟩
          rw [hx] at hcell hxb HN
          obtain ⟨x0, x1⟩ := hxb
          have HLEN := Aside0.mk (show (words8 [k, z] ++ words8 ws ++ raw ++ words8 (it.take i)).length ≤ 100000 by simp only [List.length_append, words8_len, List.length_take, List.length_cons, List.length_nil]; omega)
          clear hx
          cases e
          go_wp2_with fail
          with_reducible refine (ref_Bytes_calls x 8 _ x0 x1).mono ?_
          rintro e w2 ⟨v2, rfl, hR2, hb2⟩
          obtain ⟨A4, c4, w4, hrun4, hO4, hg4, hat4⟩ := app8 (HO.out.below hb2) (Own.rd (Own.of_R hR2)) (Nat.le_trans HB.out.size hb2.size) (by have := HLEN.out; simp only [leB_len]; unfold leW; omega)
          have HX4 := Aside0.mk (blk_grown (blk_below HX.out hb2) hg4 (fun e => (HO.out.below hb2).ne (blk_below HX.out hb2) (by decide) e.symm))
          have HB4 := Aside0.mk (Kp.from (below_step HB.out hb2) (Kp.of_grown hg4) (fun k hk => HO.out.ge hk))
          rw [leW8, ← HN.out] at hrun4 hO4
          obtain ⟨m, hm⟩ : ∃ m, (words8 [k, z] ++ words8 ws ++ raw ++ words8 (it.take (i + 1))).length = m := ⟨_, rfl⟩
          rw [hm] at hrun4 hO4
          have HO4 := Aside0.mk hO4
          have HR4 := Aside0.mk hrun4
          clear hR2 hb2 hrun4 hO4 hg4 hat4 hm z0 z1 z2 z3
          go_wp2_with (first | ((with_reducible refine gate_builtin (b := .append) (xs := #[.tmp 58, .tmp 64]) rfl ?_); at_builtin; refine app_list rfl (.tmp 58) (.tmp 64) rfl rfl rfl HR4.out ?_))
          go_roundw
          case rel => exact ⟨i + 1, by omega, by go_num, HO4, HB4, HX4⟩
          case measure => simp [intOf]; omega
        · have HJ := Aside0.mk (show words8 [k, z] ++ words8 ws ++ raw ++ words8 (it.take i) = words8 [k, z] ++ words8 ws ++ raw ++ words8 it by rw [List.take_of_length_le (by omega)])
          have HO1 := Aside0.mk (show Own (Value.int .u8) wr w.heap.size 5 _ (words8 [k, z] ++ words8 ws ++ raw ++ words8 it) by rw [← HJ.out]; exact HO.out)
          clear HO HJ
          have HBB := Aside0.mk (show words8 [k, z] ++ words8 ws ++ raw ++ words8 it = objB k ws raw it by rw [objB, HZ.out])
          have HO7 := Aside0.mk (show Own (Value.int .u8) wr w.heap.size 5 _ (objB k ws raw it) by rw [← HBB.out]; exact HO1.out)
          have hn0 := objB_len k ws raw it
          obtain ⟨n0, hn1⟩ : ∃ n0, (objB k ws raw it).length = n0 := ⟨_, rfl⟩
          rw [hn1] at hn0
          have hn2 : n0 ≤ 100000 := by omega
          obtain ⟨p, hp⟩ : ∃ p, padN n0 8 = p := ⟨_, rfl⟩
          have hp8 : p ≤ 8 := by have := padN_le n0 8; omega
          have HN1 := Aside0.mk hn1
          have HP := Aside0.mk hp
          clear hn0 hn1 hp HO1 HBB
          go_wp2_with fail
          go_loopg [4] p (fun kq v4 w' => ∃ j : Nat, j + kq = p ∧ Aside0 (Own (Value.int .u8) w' w.heap.size 5 v4 (objB k ws raw it ++ List.replicate j 0)) ∧ Aside0 (Below w.heap.size w w'))
          case atStart => exact ⟨0, by omega, ⟨by simpa using HO7.out⟩, HB⟩
          case round =>
            clear HO7 HB HX z0 z1 z2 z3
            obtain ⟨j, hj, HO, HB⟩ := hrel
            have HJJ := Aside0.mk hj
            have hjp : j ≤ p := by omega
            clear hj
            obtain ⟨Ao, co, e1⟩ := own_slice HO.out
            have hlen : (objB k ws raw it ++ List.replicate j 0).length = n0 + j := by rw [List.length_append, HN1.out, List.length_replicate]
            rw [hlen] at e1
            have HLEN := Aside0.mk hlen
            have HT := Aside0.mk (padN_test n0 8 (by omega) (by omega) j (by rw [HP.out]; exact hjp))
            rw [HP.out] at HT
            clear hlen
            subst e1
            by_cases hc2 : j = p
            · have ht : (((n0 : Int) + (j : Int)) % 8 != 0) = false := by rw [bne_eq_false_iff_eq]; exact HT.out.2 hc2
              have HE := Aside0.mk (show objB k ws raw it ++ List.replicate j 0 = objZ k ws raw it by rw [objZ, HN1.out, HP.out, hc2])
              rw [HE.out] at HO
              clear hc2
              go_wp2_with fail
              go_ret
              exact ⟨_, rfl, HO.out, HB.out⟩
            · have ht : (((n0 : Int) + (j : Int)) % 8 != 0) = true := by rw [bne_iff_ne]; exact fun e => hc2 (HT.out.1 e)
              have hL := Rd.lit wr .u8 5 [0] (by simp)
              obtain ⟨A5, c5, w5, hrun5, hO5, hg5, hat5⟩ := app8 (HO.out.below (below_alloc (Below.refl _ _) (.cells (nums .u8 [0]).toArray 5))) hL (by have := HB.out.size; simp; omega) (by rw [HLEN.out]; simp; omega)
              have HB5 := Aside0.mk (Kp.from (below_alloc HB.out (.cells (nums .u8 [0]).toArray 5)) (Kp.of_grown hg5) (fun k hk => HO.out.ge hk))
              have hS : objB k ws raw it ++ List.replicate j 0 ++ [0] = objB k ws raw it ++ List.replicate (j + 1) 0 := by rw [List.replicate_succ', List.append_assoc]
              rw [hS] at hrun5 hO5
              have HO5 := Aside0.mk hO5
              obtain ⟨m, hm⟩ : ∃ m, (objB k ws raw it ++ List.replicate (j + 1) (0 : Int)).length = m := ⟨_, rfl⟩
              rw [hm] at hrun5 HO5
              have HR5 := Aside0.mk hrun5
              simp only [nums, List.map_cons, List.map_nil] at HR5
              have hjp2 : j + 1 ≤ p := by omega
              clear hL hrun5 hO5 hg5 hat5 hm hS hc2
              go_wp2_with (first | ((with_reducible refine gate_builtin (b := .append) (xs := #[.tmp 70, .tmp 71]) rfl ?_); at_builtin; refine app_list rfl (.tmp 70) (.tmp 71) rfl rfl rfl HR5.out ?_))
              go_roundg (p - (j + 1))
              case measure => have := HJJ.out; omega
              case rel => exact ⟨j + 1, by omega, HO5, HB5⟩
set_option maxHeartbeats 8000000 in
set_option maxRecDepth 100000 in
theorem ref_oEncode_no (k : Int) (nW nR nI : Nat) (A1 A2 A3 : Option Addr) (c1 c2 c3 : Nat) (w : World) (bW : nW ≤ 140737488355328) (bR : nR ≤ 140737488355328) (bI : nI ≤ 140737488355328) (hr : oR k nW nR nI = false) :
    Calls Try.prog 148 #[.agg #[.int .i64 k, .slice A1 nW c1, .slice A2 nR c2, .slice A3 nI c3]] w fun e w' => e = .returned (.slice none 0 0) ∧ Below w.heap.size w w' := by
  have HR := Aside0.mk hr
  clear hr
  go_enter Try.func148, Try.ntmps148
  go_wp2_with fail
  refine (ref_oRight_calls k A1 A2 A3 nW nR nI c1 c2 c3 _ bW bR bI).mono ?_
  rintro e w1 ⟨rfl, hb⟩
  have HB1 := Aside0.mk (below_step (below_alloc (Below.refl _ _) (.cells #[.int .i64 k, .slice A1 nW c1, .slice A2 nR c2, .slice A3 nI c3] 48)) hb)
  clear hb
  rw [HR.out]
  go_wp2_with fail
  go_ret
  exact ⟨rfl, HB1.out⟩
end Go.Proofs.Ytigdchfjcfljjaa
end
section
/- ObjWrites: the walk. -/
namespace Go.Proofs.Ytigdchfjcfljjaa
open Go.RowKit Go.Proofs.YtigdchfjcfljjaaW.PrintWords Go.Proofs.YtigdchfjcfljjaaW.PrintLast Go.Proofs.YtigdchfjcfljjaaW.PrintMore
attribute [local go_sem] max2_int min2_int max_two min_two max_three min_three max_four min_four
theorem oB_nil : isB [] := fun x hx => by simp at hx
def lightB (nW nR nI : Nat) : Bool := decide (nW ≤ 20) && decide (nR ≤ 1100) && decide (nI ≤ 1100)
set_option maxHeartbeats 8000000 in
set_option maxRecDepth 100000 in
theorem obj_Size_calls (k : Int) (A1 A2 A3 : Option Addr) (nW nR nI c1 c2 c3 : Nat) (w : World) (n2 : nR ≤ 100000) (n3 : nI ≤ 100000) : Calls Try.prog 118 #[.agg #[.int .i64 k, .slice A1 nW c1, .slice A2 nR c2, .slice A3 nI c3]] w fun e w' => e = .returned (.int .i64 (alignZ (16 + 8 * wN k + (nR : Int) + 8 * (nI : Int)))) ∧ Below w.heap.size w w' := by
  have H0 := blk_new w (.cells #[.int .i64 k, .slice A1 nW c1, .slice A2 nR c2, .slice A3 nI c3] 51)
  have z0 : (w.alloc (.cells #[.int .i64 k, .slice A1 nW c1, .slice A2 nR c2, .slice A3 nI c3] 51)).cell? ⟨w.heap.size, 0, none⟩ = some (.int .i64 k) := blk_cell H0 0
  have z1 : (w.alloc (.cells #[.int .i64 k, .slice A1 nW c1, .slice A2 nR c2, .slice A3 nI c3] 51)).cell? ⟨w.heap.size, 1, none⟩ = some (.slice A1 nW c1) := blk_cell H0 1
  have z2 : (w.alloc (.cells #[.int .i64 k, .slice A1 nW c1, .slice A2 nR c2, .slice A3 nI c3] 51)).cell? ⟨w.heap.size, 2, none⟩ = some (.slice A2 nR c2) := blk_cell H0 2
  have z3 : (w.alloc (.cells #[.int .i64 k, .slice A1 nW c1, .slice A2 nR c2, .slice A3 nI c3] 51)).cell? ⟨w.heap.size, 3, none⟩ = some (.slice A3 nI c3) := blk_cell H0 3
  obtain ⟨q0, q1⟩ := wN_bd k
  obtain ⟨q, hq⟩ : ∃ q, wN k = q := ⟨_, rfl⟩
  rw [hq] at q0 q1
  have HQ := Aside0.mk hq
  have HW := Aside0.mk (show wrap64 (wrap64 (16 + 8 * q + (nR : Int)) + wrap64 (8 * (nI : Int))) = 16 + 8 * q + (nR : Int) + 8 * (nI : Int) by unfold wrap64; omega)
  have HW2 := Aside0.mk (show wrap64 (16 + 8 * q + (nR : Int) + wrap64 (8 * (nI : Int))) = 16 + 8 * q + (nR : Int) + 8 * (nI : Int) by unfold wrap64; omega)
  have HW3 := Aside0.mk (show wrap64 (16 + 8 * q + (nR : Int) + 8 * (nI : Int)) = 16 + 8 * q + (nR : Int) + 8 * (nI : Int) by unfold wrap64; omega)
  have hs1 : wrap64 (16 + 8 * q + (nR : Int)) = 16 + 8 * q + (nR : Int) := by unfold wrap64; omega
  have hs2 : wrap64 (8 * (nI : Int)) = 8 * (nI : Int) := by unfold wrap64; omega
  clear H0 hq
  go_enter Try.func118, Try.ntmps118
  go_wp2_with fail
  refine start_ (n := 14) (S := fun w' => w'.cell? ⟨w.heap.size, 0, none⟩ = some (.int .i64 k) ∧ w'.cell? ⟨w.heap.size, 1, none⟩ = some (.slice A1 nW c1) ∧ w'.cell? ⟨w.heap.size, 2, none⟩ = some (.slice A2 nR c2) ∧ w'.cell? ⟨w.heap.size, 3, none⟩ = some (.slice A3 nI c3)) (ds := []) #[false,false,false,false,false,false,false,false,false,false,false,false,false,false] (by kernel_rfl) rfl rfl ⟨z0, z1, z2, z3⟩ (fun hHeld => ?_)
  refine pure_ (i := 0) (N := some 3) (v := ?_) (a' := ?_) #[true,false,false,false,false,false,false,false,false,false,false,false,false,false] rfl rfl (by kernel_rfl) (fun _ _ _ h => h) (Or.inl ⟨by rfl, ?_⟩) ?_ ?_
  rotate_left
  · intro w'
    go_simp
    with_reducible rfl
  rotate_left
  · simp only [Act.put, List.setIfInBounds_toArray, List.set_cons_zero, List.set_cons_succ, i64_w, i32_w]
    rfl
  refine pure_ (i := 3) (N := some 6) (v := ?_) (a' := ?_) #[true,false,false,true,false,false,false,false,false,false,false,false,false,false] rfl rfl (by kernel_rfl) (fun _ _ _ h => h) (Or.inl ⟨by rfl, ?_⟩) ?_ ?_
  rotate_left
  · intro w'
    go_simp
    with_reducible rfl
  rotate_left
  · simp only [Act.put, List.setIfInBounds_toArray, List.set_cons_zero, List.set_cons_succ, i64_w, i32_w]
    rfl
  refine pure_ (i := 7) (N := some 10) (v := ?_) (a' := ?_) #[true,false,false,true,false,false,false,true,false,false,false,false,false,false] rfl rfl (by kernel_rfl) (fun _ _ _ h => h) (Or.inl ⟨by rfl, ?_⟩) ?_ ?_
  rotate_left
  · intro w'
    go_simp
    with_reducible rfl
  rotate_left
  · simp only [Act.put, List.setIfInBounds_toArray, List.set_cons_zero, List.set_cons_succ, i64_w, i32_w]
    rfl
  refine take_ (i := 1) (N := some 4) (v := ?_) (a' := ?_) #[true,true,false,true,false,false,false,true,false,false,false,false,false,false] rfl rfl (by kernel_rfl) (fun _ _ _ h => h) (Or.inl ⟨by rfl, ?_⟩) hHeld ?_ ?_
  rotate_left
  · rintro w' ⟨s0, s1, s2, s3⟩
    go_simp
    with_reducible rfl
  rotate_left
  · simp only [Act.put, List.setIfInBounds_toArray, List.set_cons_zero, List.set_cons_succ, i64_w, i32_w]
    rfl
  refine take_ (i := 4) (N := some 7) (v := ?_) (a' := ?_) #[true,true,false,true,true,false,false,true,false,false,false,false,false,false] rfl rfl (by kernel_rfl) (fun _ _ _ h => h) (Or.inl ⟨by rfl, ?_⟩) hHeld ?_ ?_
  rotate_left
  · rintro w' ⟨s0, s1, s2, s3⟩
    go_simp
    with_reducible rfl
  rotate_left
  · simp only [Act.put, List.setIfInBounds_toArray, List.set_cons_zero, List.set_cons_succ, i64_w, i32_w]
    rfl
  refine pure_ (i := 5) (N := some 8) (v := ?_) (a' := ?_) #[true,true,false,true,true,true,false,true,false,false,false,false,false,false] rfl rfl (by kernel_rfl) (fun _ _ _ h => h) (Or.inl ⟨by rfl, ?_⟩) ?_ ?_
  rotate_left
  · intro w'
    go_simp
    with_reducible rfl
  rotate_left
  · simp only [Act.put, List.setIfInBounds_toArray, List.set_cons_zero, List.set_cons_succ, i64_w, i32_w]
    rfl
  refine take_ (i := 8) (N := some 11) (v := ?_) (a' := ?_) #[true,true,false,true,true,true,false,true,true,false,false,false,false,false] rfl rfl (by kernel_rfl) (fun _ _ _ h => h) (Or.inl ⟨by rfl, ?_⟩) hHeld ?_ ?_
  rotate_left
  · rintro w' ⟨s0, s1, s2, s3⟩
    go_simp
    with_reducible rfl
  rotate_left
  · simp only [Act.put, List.setIfInBounds_toArray, List.set_cons_zero, List.set_cons_succ, i64_w, i32_w]
    rfl
  refine pure_ (i := 9) (N := some 12) (v := ?_) (a' := ?_) #[true,true,false,true,true,true,false,true,true,true,false,false,false,false] rfl rfl (by kernel_rfl) (fun _ _ _ h => h) (Or.inl ⟨by rfl, ?_⟩) ?_ ?_
  rotate_left
  · intro w'
    go_simp
    with_reducible rfl
  rotate_left
  · simp only [Act.put, List.setIfInBounds_toArray, List.set_cons_zero, List.set_cons_succ, i64_w, i32_w]
    rfl
  refine pure_ (i := 10) (N := some 13) (v := ?_) (a' := ?_) #[true,true,false,true,true,true,false,true,true,true,true,false,false,false] rfl rfl (by kernel_rfl) (fun _ _ _ h => h) (Or.inl ⟨by rfl, ?_⟩) ?_ ?_
  rotate_left
  · intro w'
    go_simp
    with_reducible rfl
  rotate_left
  · simp only [Act.put, List.setIfInBounds_toArray, List.set_cons_zero, List.set_cons_succ, i64_w, i32_w]
    rfl
  refine one_ (i := 2) (N := some 5) #[true,true,true,true,true,true,false,true,true,true,true,false,false,false] rfl rfl (by kernel_rfl) (by decide) (fun K hK => ?_)
  refine goes_ Try.func100 (by kernel_rfl) rfl #[.int .i64 k] (by rfl) rfl rfl (by (try simp only [List.map_toArray, List.map_cons, List.map_nil]); first | done | rfl) ?_
  with_reducible refine (obj_Front_calls k _).mono ?_
  rintro e wf ⟨rfl, rfl⟩
  refine ⟨_, rfl, ?_⟩
  rw [HQ.out]
  refine hK.out _ _ ⟨hHeld.1, hHeld.2.1, hHeld.2.2.1, hHeld.2.2.2⟩ (fun hHeld => ?_)
  clear hK K
  refine norm_ (a' := ?_) ?_ ?_
  rotate_left
  · show Act.put _ (some 5) _ = _
    simp only [Act.put, List.setIfInBounds_toArray, List.set_cons_zero, List.set_cons_succ, i64_w, i32_w]
    rfl
  refine pure_ (i := 6) (N := some 9) (v := ?_) (a' := ?_) #[true,true,true,true,true,true,true,true,true,true,true,false,false,false] rfl rfl (by kernel_rfl) (fun _ _ _ h => h) (Or.inl ⟨by rfl, ?_⟩) ?_ ?_
  rotate_left
  · intro w'
    go_simp
    with_reducible rfl
  rotate_left
  · simp only [Act.put, List.setIfInBounds_toArray, List.set_cons_zero, List.set_cons_succ, i64_w, i32_w]
    rfl
  refine pure_ (i := 11) (N := some 14) (v := ?_) (a' := ?_) #[true,true,true,true,true,true,true,true,true,true,true,true,false,false] rfl rfl (by kernel_rfl) (fun _ _ _ h => h) (Or.inl ⟨by rfl, ?_⟩) ?_ ?_
  rotate_left
  · intro w'
    go_simp
    with_reducible rfl
  rotate_left
  · simp only [Act.put, List.setIfInBounds_toArray, List.set_cons_zero, List.set_cons_succ, i64_w, i32_w]
    rfl
  refine one_ (i := 12) (N := some 15) #[true,true,true,true,true,true,true,true,true,true,true,true,true,false] rfl rfl (by kernel_rfl) (by decide) (fun K hK => ?_)
  first | rw [HW3.out] | rw [HW.out] | rw [HW2.out]
  refine goes_ Try.func107 (by kernel_rfl) rfl #[.int .i64 (16 + 8 * q + (nR : Int) + 8 * (nI : Int))] (by rfl) rfl rfl (by (try simp only [List.map_toArray, List.map_cons, List.map_nil]); first | done | rfl) ?_
  with_reducible refine (le_Align_calls (16 + 8 * q + (nR : Int) + 8 * (nI : Int)) _ (by omega)).mono ?_
  rintro e w2 ⟨rfl, hb2⟩
  refine ⟨_, rfl, ?_⟩
  refine hK.out _ _ ⟨(pw_cell_below hb2 hHeld.1), (pw_cell_below hb2 hHeld.2.1), (pw_cell_below hb2 hHeld.2.2.1), (pw_cell_below hb2 hHeld.2.2.2)⟩ (fun hHeld => ?_)
  clear hK K
  refine norm_ (a' := ?_) ?_ ?_
  rotate_left
  · show Act.put _ (some 15) _ = _
    simp only [Act.put, List.setIfInBounds_toArray, List.set_cons_zero, List.set_cons_succ, i64_w, i32_w]
    rfl
  refine pure_ (i := 13) (N := some 2) (v := ?_) (a' := ?_) #[true,true,true,true,true,true,true,true,true,true,true,true,true,true] rfl rfl (by kernel_rfl) (fun _ _ _ h => h) (Or.inl ⟨by rfl, ?_⟩) ?_ ?_
  rotate_left
  · intro w'
    go_simp
    with_reducible rfl
  rotate_left
  · simp only [Act.put, List.setIfInBounds_toArray, List.set_cons_zero, List.set_cons_succ, i64_w, i32_w]
    rfl
  refine done_ (by kernel_rfl) ?_
  have HB2 := Aside0.mk (below_step (below_drew (below_alloc (Below.refl _ _) _)) hb2)
  clear hb2
  go_wp2_with fail
  go_ret
  exact ⟨by rw [HQ.out]; rfl, HB2.out⟩
theorem obj_len {k : Int} {ws raw it : List Int} (hr : oR k ws.length raw.length it.length = true) : alignZ (16 + 8 * wN k + (raw.length : Int) + 8 * (it.length : Int)) = ((objZ k ws raw it).length : Int) := by
  obtain ⟨k0, k1, kw, n1, n2, n3⟩ := oR_of hr
  have hl := objB_len k ws raw it
  have hp : (padN ((objB k ws raw it).length : Int) 8 : Int) = (8 - ((objB k ws raw it).length : Int) % 8) % 8 := by unfold padN; rw [if_pos (by omega)]; omega
  rw [objZ, List.length_append, List.length_replicate, alignZ, if_neg (by omega)]
  omega
end Go.Proofs.Ytigdchfjcfljjaa
end
section
/- A law's parameter that is an object (a kind, words, bytes, numbers), opened; the law of writing. -/
namespace Go.Proofs.Ytigdchfjcfljjaa
open Go.RowKit Go.ChangeShapes Go.WideShapes Go.Proofs.YtigdchfjcfljjaaW.PrintWords
theorem wf_isW {xs : List Int} (h : ∀ x ∈ xs, (Lit.int .u64 x).wf = true) : isW xs := fun x hx => bounds_u64 (h x hx)
theorem wf_isB8 {xs : List Int} (h : ∀ x ∈ xs, (Lit.int .u8 x).wf = true) : isB xs := fun x hx => bounds_u8 (h x hx)
end Go.Proofs.Ytigdchfjcfljjaa
end
