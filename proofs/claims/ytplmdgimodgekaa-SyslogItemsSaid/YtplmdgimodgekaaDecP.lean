/- Digits of ten, in plain numbers. -/
import Derived.Test.YtplmdgimodgekaaStr
import GoSem.Op.String
namespace Go.Proofs.Ytplmdgimodgekaa
open Go.RowKit
set_option linter.unusedVariables false
set_option linter.unusedSimpArgs false

/-- k digits of n. -/
def dI : Nat → Int → List Int
  | 0, _ => []
  | k + 1, n => (48 + n / 10 ^ k % 10) :: dI k n
theorem dI_len : ∀ k n, (dI k n).length = k
  | 0, _ => rfl
  | k + 1, n => by simp [dI, dI_len k n]
theorem dI_isB : ∀ k n, isB (dI k n)
  | 0, _ => fun x hx => by simp [dI] at hx
  | k + 1, n => fun x hx => by
    simp only [dI, List.mem_cons] at hx
    rcases hx with rfl | hx
    · omega
    · exact dI_isB k n x hx
theorem pow10_pos (k : Nat) : (0 : Int) < 10 ^ k := Int.pow_pos (by omega)
theorem div10 (n : Int) (k : Nat) : n / 10 / 10 ^ k = n / 10 ^ (k + 1) := by
  rw [Int.ediv_ediv_of_nonneg (by omega), Int.pow_succ, Int.mul_comm]
theorem dI_snoc : ∀ (k : Nat) (n : Int), dI (k + 1) n = dI k (n / 10) ++ [48 + n % 10]
  | 0, n => by simp [dI]
  | k + 1, n => by
    rw [dI, dI_snoc k n, dI, div10]; rfl
theorem dI_zero : ∀ k, dI k 0 = List.replicate k 48
  | 0 => rfl
  | k + 1 => by rw [dI, dI_zero k, List.replicate_succ]; simp
/-- n, written; k digits at most. -/
def decD : Nat → Int → List Int
  | 0, _ => []
  | k + 1, n => if n < 10 then [48 + n] else decD k (n / 10) ++ [48 + n % 10]
theorem decD_isB : ∀ (k : Nat) (n : Int), 0 ≤ n → isB (decD k n)
  | 0, _, _ => fun x hx => by simp [decD] at hx
  | k + 1, n, h => by
    unfold decD
    split
    · intro x hx; simp at hx; omega
    · exact (decD_isB k (n / 10) (by omega)).app (fun x hx => by simp at hx; omega)
theorem decD_len : ∀ (k : Nat) (n : Int), (decD (k + 1) n).length ≤ k + 1 ∧ 1 ≤ (decD (k + 1) n).length
  | 0, n => by unfold decD; split <;> simp [decD]
  | k + 1, n => by
    have := decD_len k (n / 10)
    rw [decD]; split
    · simp
    · rw [List.length_append]; simp; omega
theorem pad_dI : ∀ (k : Nat) (n : Int), 0 ≤ n → n < 10 ^ (k + 1) → List.replicate (k + 1 - (decD (k + 1) n).length) 48 ++ decD (k + 1) n = dI (k + 1) n
  | 0, n, h0, h1 => by
    have h1 : n < 10 := by simpa using h1
    rw [decD, if_pos h1, dI]
    simp [dI]
    omega
  | k + 1, n, h0, h1 => by
    rw [dI_snoc, decD]
    split
    · rename_i hn
      rw [show n / 10 = 0 by omega, dI_zero, show n % 10 = n by omega]
      simp
    · have ih := pad_dI k (n / 10) (by omega) (by rw [Int.pow_succ] at h1; omega)
      have hl := decD_len k (n / 10)
      rw [List.length_append, show ([48 + n % 10] : List Int).length = 1 from rfl, show k + 1 + 1 - ((decD (k + 1) (n / 10)).length + 1) = k + 1 - (decD (k + 1) (n / 10)).length by omega, ← List.append_assoc, ih]
theorem decD_s (k : Nat) (n : Int) : decD (k + 1) n = if n < 10 then [48 + n] else decD k (n / 10) ++ [48 + n % 10] := rfl
theorem decD_more : ∀ (k : Nat) (n : Int), 0 ≤ n → n < 10 ^ (k + 1) → decD (k + 2) n = decD (k + 1) n
  | 0, n, h0, h1 => by
    have h1 : n < 10 := by simpa using h1
    rw [decD_s 1 n, decD_s 0 n, if_pos h1, if_pos h1]
  | k + 1, n, h0, h1 => by
    rw [decD_s (k + 1 + 1) n, decD_s (k + 1) n]
    split
    · rfl
    · rw [decD_more k (n / 10) (by omega) (by rw [Int.pow_succ] at h1; omega)]
/-! ### The order of digits is that of numbers. -/
theorem bl_front10 (p : List UInt8) : ∀ x y : List UInt8, Op.bytesLess (p ++ x) (p ++ y) = Op.bytesLess x y := by
  induction p with
  | nil => intros; rfl
  | cons a p ih => intro x y; simp [Op.bytesLess, ih]
theorem bl_irrefl10 : ∀ t : List UInt8, Op.bytesLess t t = false
  | [] => rfl
  | a :: t => by simp [Op.bytesLess, bl_irrefl10 t]
/-- The first parts decide, if they differ. -/
theorem bl_parts : ∀ (x y s t : List UInt8), x.length = y.length → Op.bytesLess (x ++ s) (y ++ t) = (Op.bytesLess x y || (decide (x = y) && Op.bytesLess s t))
  | [], [], s, t, _ => by simp [Op.bytesLess]
  | [], _ :: _, _, _, h => by simp at h
  | _ :: _, [], _, _, h => by simp at h
  | a :: x, b :: y, s, t, h => by
    have ih := bl_parts x y s t (by simpa using h)
    simp only [List.cons_append, Op.bytesLess, ih]
    by_cases e : a = b
    · subst e; simp
    · have e1 : (a == b) = false := by simpa using e
      simp [e1, e]
def u8L (l : List Int) : List UInt8 := l.map fun n => UInt8.ofNat n.toNat
theorem dU_all : ∀ d e : Fin 10, (decide (UInt8.ofNat (48 + (d.val : Int)).toNat < UInt8.ofNat (48 + (e.val : Int)).toNat) = decide (d.val < e.val)) ∧ ((UInt8.ofNat (48 + (d.val : Int)).toNat == UInt8.ofNat (48 + (e.val : Int)).toNat) = decide (d.val = e.val)) := by decide +kernel
theorem dU_cmp (d e : Int) (h0 : 0 ≤ d) (h1 : d ≤ 9) (h2 : 0 ≤ e) (h3 : e ≤ 9) : decide (UInt8.ofNat (48 + d).toNat < UInt8.ofNat (48 + e).toNat) = decide (d < e) ∧ (UInt8.ofNat (48 + d).toNat == UInt8.ofNat (48 + e).toNat) = decide (d = e) := by
  obtain ⟨a, rfl⟩ := Int.eq_ofNat_of_zero_le h0
  obtain ⟨b, rfl⟩ := Int.eq_ofNat_of_zero_le h2
  have h := dU_all ⟨a, by omega⟩ ⟨b, by omega⟩
  simp only [] at h
  refine ⟨h.1.trans ?_, h.2.trans ?_⟩
  · rw [decide_eq_decide]; omega
  · rw [decide_eq_decide]; omega
theorem mod_split10 (n : Int) (k : Nat) : n % 10 ^ (k + 1) = n / 10 ^ k % 10 * 10 ^ k + n % 10 ^ k := by
  have hp : (0 : Int) < 10 ^ k := Int.pow_pos (by omega)
  have e1 : n = n / 10 ^ k * 10 ^ k + n % 10 ^ k := by have := Int.mul_ediv_add_emod n (10 ^ k); rw [Int.mul_comm] at this; omega
  have e2 : n / 10 ^ k = n / 10 ^ k / 10 * 10 + n / 10 ^ k % 10 := by omega
  have e3 : n / 10 ^ k / 10 = n / 10 ^ (k + 1) := by rw [Int.ediv_ediv_of_nonneg (by omega), Int.pow_succ]
  have e4 : n = n / 10 ^ (k + 1) * 10 ^ (k + 1) + n % 10 ^ (k + 1) := by have := Int.mul_ediv_add_emod n (10 ^ (k + 1)); rw [Int.mul_comm] at this; omega
  have e5 : n / 10 ^ k * 10 ^ k = n / 10 ^ (k + 1) * 10 ^ (k + 1) + n / 10 ^ k % 10 * 10 ^ k := by
    conv => lhs; rw [e2, e3]
    rw [Int.add_mul, Int.pow_succ, Int.mul_assoc, Int.mul_comm 10]
  omega
theorem dI_less : ∀ (k : Nat) (a b : Int), Op.bytesLess (u8L (dI k a)) (u8L (dI k b)) = decide (a % 10 ^ k < b % 10 ^ k) ∧ (u8L (dI k a) = u8L (dI k b) ↔ a % 10 ^ k = b % 10 ^ k)
  | 0, a, b => by simp [dI, u8L, Op.bytesLess]
  | k + 1, a, b => by
    obtain ⟨ih, ihe⟩ := dI_less k a b
    have hp : (0 : Int) < 10 ^ k := Int.pow_pos (by omega)
    obtain ⟨x, hx⟩ : ∃ x, a / 10 ^ k % 10 = x := ⟨_, rfl⟩
    obtain ⟨y, hy⟩ : ∃ y, b / 10 ^ k % 10 = y := ⟨_, rfl⟩
    have hc := dU_cmp x y (by omega) (by omega) (by omega) (by omega)
    have ma := mod_split10 a k
    have mb := mod_split10 b k
    have a0 := Int.emod_nonneg a (Int.ne_of_gt hp)
    have a1 := Int.emod_lt_of_pos a hp
    have b0 := Int.emod_nonneg b (Int.ne_of_gt hp)
    have b1 := Int.emod_lt_of_pos b hp
    rw [hx] at ma
    rw [hy] at mb
    have key : ∀ P : Int, 0 < P → (0 ≤ a % P) → (a % P < P) → (0 ≤ b % P) → (b % P < P) → (x < y → x * P + a % P < y * P + b % P) ∧ (y < x → y * P + b % P < x * P + a % P) := by
      intro P h0 h1 h2 h3 h4
      constructor
      · intro h
        have : (x + 1) * P ≤ y * P := Int.mul_le_mul_of_nonneg_right (by omega) (by omega)
        rw [Int.add_mul] at this
        omega
      · intro h
        have : (y + 1) * P ≤ x * P := Int.mul_le_mul_of_nonneg_right (by omega) (by omega)
        rw [Int.add_mul] at this
        omega
    obtain ⟨k1, k2⟩ := key _ hp a0 a1 b0 b1
    have e1 : u8L (dI (k + 1) a) = UInt8.ofNat (48 + x).toNat :: u8L (dI k a) := by simp [u8L, dI, hx]
    have e2 : u8L (dI (k + 1) b) = UInt8.ofNat (48 + y).toNat :: u8L (dI k b) := by simp [u8L, dI, hy]
    rw [e1, e2, ma, mb]
    generalize (10 : Int) ^ k = P at *
    refine ⟨?_, ?_⟩
    · simp only [Op.bytesLess, hc.1, hc.2, ih]
      rw [Bool.eq_iff_iff]
      simp only [Bool.or_eq_true, Bool.and_eq_true, decide_eq_true_eq]
      constructor
      · rintro (h | ⟨rfl, h⟩)
        · exact k1 h
        · omega
      · intro h
        by_cases e : x = y
        · subst e; right; exact ⟨rfl, by omega⟩
        · left
          rcases Int.lt_or_gt_of_ne e with h' | h'
          · exact h'
          · have := k2 h'; omega
    · rw [List.cons.injEq, ihe]
      have h2 : UInt8.ofNat (48 + x).toNat = UInt8.ofNat (48 + y).toNat ↔ x = y := by
        have := hc.2
        rw [Bool.eq_iff_iff, beq_iff_eq, decide_eq_true_eq] at this
        exact this
      rw [h2]
      constructor
      · rintro ⟨rfl, h⟩; rw [h]
      · intro h
        by_cases e : x = y
        · subst e; exact ⟨rfl, by omega⟩
        · exfalso
          rcases Int.lt_or_gt_of_ne e with h' | h'
          · have := k1 h'; omega
          · have := k2 h'; omega
end Go.Proofs.Ytplmdgimodgekaa
