/- Plain facts on sixteen digits: their order is the numbers' order. -/
import Derived.Laws.BytesArg
import Derived.WalkKit
import GoSem.Op.String
namespace Go.Proofs.Ytdleajnecohacaa
open Go.RowKit

/-- The digit at place j, from the front. -/
def hexD (n : Int) (j : Nat) : Int := n / 2 ^ (60 - 4 * j) % 16
def hexC (d : Int) : Int := if 9 < d then 87 + d else 48 + d
def hexL (n : Int) : List Int := (List.range 16).map fun j => hexC (hexD n j)
def hexS (n : Int) : ByteArray := strOfNums (hexL n)
theorem hexS_size (n : Int) : (hexS n).size = 16 := by simp [hexS, strOfNums, hexL, ByteArray.size]

theorem bl_front (p : List UInt8) : ∀ x y : List UInt8, Op.bytesLess (p ++ x) (p ++ y) = Op.bytesLess x y := by
  induction p with
  | nil => intros; rfl
  | cons a p ih => intro x y; simp [Op.bytesLess, ih]
theorem bl_irrefl : ∀ t : List UInt8, Op.bytesLess t t = false
  | [] => rfl
  | a :: t => by simp [Op.bytesLess, bl_irrefl t]
theorem bl_back (t : List UInt8) : ∀ x y : List UInt8, x.length = y.length → Op.bytesLess (x ++ t) (y ++ t) = Op.bytesLess x y
  | [], [], _ => by simp [Op.bytesLess, bl_irrefl t]
  | [], _ :: _, h => by simp at h
  | _ :: _, [], h => by simp at h
  | a :: x, b :: y, h => by
    have ih := bl_back t x y (by simpa using h)
    simp [Op.bytesLess, ih]
def hexU (d : Int) : UInt8 := UInt8.ofNat (hexC d).toNat
theorem hexU_all : ∀ d e : Fin 16, (decide (hexU (d.val : Int) < hexU (e.val : Int)) = decide (d.val < e.val)) ∧ ((hexU (d.val : Int) == hexU (e.val : Int)) = decide (d.val = e.val)) := by decide +kernel
theorem hexU_cmp (d e : Int) (h0 : 0 ≤ d) (h1 : d ≤ 15) (h2 : 0 ≤ e) (h3 : e ≤ 15) : decide (hexU d < hexU e) = decide (d < e) ∧ (hexU d == hexU e) = decide (d = e) := by
  obtain ⟨a, rfl⟩ := Int.eq_ofNat_of_zero_le h0
  obtain ⟨b, rfl⟩ := Int.eq_ofNat_of_zero_le h2
  have h := hexU_all ⟨a, by omega⟩ ⟨b, by omega⟩
  simp only [] at h
  refine ⟨h.1.trans ?_, h.2.trans ?_⟩
  · rw [decide_eq_decide]; omega
  · rw [decide_eq_decide]; omega
/-- k digits of n. -/
def h16 : Nat → Int → List UInt8
  | 0, _ => []
  | k + 1, n => hexU (n / 16 ^ k % 16) :: h16 k n
theorem h16_len : ∀ k n, (h16 k n).length = k
  | 0, _ => rfl
  | k + 1, n => by simp [h16, h16_len k n]
theorem mod_split (n : Int) (k : Nat) : n % 16 ^ (k + 1) = n / 16 ^ k % 16 * 16 ^ k + n % 16 ^ k := by
  have hp : (0 : Int) < 16 ^ k := Int.pow_pos (by omega)
  have e1 : n = n / 16 ^ k * 16 ^ k + n % 16 ^ k := by have := Int.mul_ediv_add_emod n (16 ^ k); rw [Int.mul_comm] at this; omega
  have e2 : n / 16 ^ k = n / 16 ^ k / 16 * 16 + n / 16 ^ k % 16 := by omega
  have e3 : n / 16 ^ k / 16 = n / 16 ^ (k + 1) := by rw [Int.ediv_ediv_of_nonneg (by omega), Int.pow_succ]
  have e4 : n = n / 16 ^ (k + 1) * 16 ^ (k + 1) + n % 16 ^ (k + 1) := by have := Int.mul_ediv_add_emod n (16 ^ (k + 1)); rw [Int.mul_comm] at this; omega
  have e5 : n / 16 ^ k * 16 ^ k = n / 16 ^ (k + 1) * 16 ^ (k + 1) + n / 16 ^ k % 16 * 16 ^ k := by
    conv => lhs; rw [e2, e3]
    rw [Int.add_mul, Int.pow_succ, Int.mul_assoc, Int.mul_comm 16]
  omega
theorem h16_less : ∀ (k : Nat) (a b : Int), Op.bytesLess (h16 k a) (h16 k b) = decide (a % 16 ^ k < b % 16 ^ k)
  | 0, a, b => by simp [h16, Op.bytesLess]
  | k + 1, a, b => by
    have ih := h16_less k a b
    have hp : (0 : Int) < 16 ^ k := Int.pow_pos (by omega)
    obtain ⟨x, hx⟩ : ∃ x, a / 16 ^ k % 16 = x := ⟨_, rfl⟩
    obtain ⟨y, hy⟩ : ∃ y, b / 16 ^ k % 16 = y := ⟨_, rfl⟩
    have hc := hexU_cmp x y (by omega) (by omega) (by omega) (by omega)
    have ma := mod_split a k
    have mb := mod_split b k
    have a0 := Int.emod_nonneg a (Int.ne_of_gt hp)
    have a1 := Int.emod_lt_of_pos a hp
    have b0 := Int.emod_nonneg b (Int.ne_of_gt hp)
    have b1 := Int.emod_lt_of_pos b hp
    rw [hx] at ma
    rw [hy] at mb
    simp only [h16, Op.bytesLess, hx, hy, hc.1, hc.2, ih]
    generalize (16 : Int) ^ k = P at *
    rw [Bool.eq_iff_iff]
    simp only [Bool.or_eq_true, Bool.and_eq_true, decide_eq_true_eq]
    rw [ma, mb]
    constructor
    · rintro (h | ⟨rfl, h⟩)
      · have : (x + 1) * P ≤ y * P := Int.mul_le_mul_of_nonneg_right (by omega) (by omega)
        rw [Int.add_mul] at this
        omega
      · omega
    · intro h
      by_cases e : x = y
      · subst e; right; exact ⟨rfl, by omega⟩
      · left
        rcases Int.lt_or_gt_of_ne e with h' | h'
        · exact h'
        · exfalso
          have : (y + 1) * P ≤ x * P := Int.mul_le_mul_of_nonneg_right (by omega) (by omega)
          rw [Int.add_mul] at this
          omega
theorem hexS_bytes (n : Int) : (hexS n).toList = h16 16 n := by
  rw [ByteArray.toList_eq]
  simp only [hexS, strOfNums, hexL, hexD, List.range_succ_eq_map, List.range_zero, List.map_cons, List.map_nil, h16, hexU]
  rfl
def archS (id n : Int) : ByteArray := ⟨#[115, 121, 115, 116, 101, 109, 64]⟩ ++ hexS id ++ ⟨#[45]⟩ ++ hexS n ++ ⟨#[46, 106, 111, 117, 114, 110, 97, 108]⟩
theorem ba_append (a b : ByteArray) : (a ++ b).toList = a.toList ++ b.toList := by
  rw [ByteArray.toList_eq, ByteArray.toList_eq, ByteArray.toList_eq]; simp
theorem archS_bytes (id n : Int) : (archS id n).toList = [115, 121, 115, 116, 101, 109, 64] ++ h16 16 id ++ [45] ++ h16 16 n ++ [46, 106, 111, 117, 114, 110, 97, 108] := by
  simp only [archS, ba_append, hexS_bytes]
  simp [ByteArray.toList_eq]
theorem archS_less (id a b : Int) (h2 : 0 ≤ a) (h3 : a ≤ 18446744073709551615) (h4 : 0 ≤ b) (h5 : b ≤ 18446744073709551615) : Op.bytesLess (archS id a).toList (archS id b).toList = decide (a < b) := by
  rw [archS_bytes, archS_bytes]
  rw [bl_back _ _ _ (by simp [h16_len]), bl_front, h16_less]
  rw [decide_eq_decide, Int.emod_eq_of_lt h2 (by omega), Int.emod_eq_of_lt h4 (by omega)]
theorem archS_1_255 : ((archS 1 255).toList == [115, 121, 115, 116, 101, 109, 64, 48, 48, 48, 48, 48, 48, 48, 48, 48, 48, 48, 48, 48, 48, 48, 49, 45, 48, 48, 48, 48, 48, 48, 48, 48, 48, 48, 48, 48, 48, 48, 102, 102, 46, 106, 111, 117, 114, 110, 97, 108]) = true := by
  rw [archS_bytes]; decide +kernel
end Go.Proofs.Ytdleajnecohacaa
