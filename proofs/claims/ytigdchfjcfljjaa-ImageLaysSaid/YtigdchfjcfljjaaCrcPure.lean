/- The sum of bytes by a table is the sum bit by bit: plain numbers. -/
import Derived.Test.YtigdchfjcfljjaaRd
import Derived.Laws.BitsAllLaws
namespace Go.Proofs.Ytigdchfjcfljjaa
open Go.RowKit
set_option linter.unusedVariables false

def bitN (c : Nat) : Nat := if c % 2 = 1 then c / 2 ^^^ 3988292384 else c / 2
def itN : Nat → Nat → Nat
  | 0, c => c
  | n + 1, c => itN n (bitN c)
theorem itN_snoc : ∀ n c, itN (n + 1) c = bitN (itN n c)
  | 0, c => rfl
  | n + 1, c => by rw [itN, itN_snoc n]; rfl
theorem xor_lt32 {a b : Nat} (ha : a < 4294967296) (hb : b < 4294967296) : a ^^^ b < 4294967296 := Nat.xor_lt_two_pow (n := 32) ha hb
theorem bitN_lt {c : Nat} (h : c < 4294967296) : bitN c < 4294967296 := by
  unfold bitN
  split
  · exact xor_lt32 (by omega) (by omega)
  · omega
theorem itN_lt : ∀ (n : Nat) {c : Nat}, c < 4294967296 → itN n c < 4294967296
  | 0, c, h => h
  | n + 1, c, h => itN_lt n (bitN_lt h)
theorem bitN_xor (a b : Nat) : bitN (a ^^^ b) = bitN a ^^^ bitN b := by
  unfold bitN
  have h2 : (a ^^^ b) / 2 = a / 2 ^^^ b / 2 := by
    have := Nat.shiftRight_xor_distrib (a := a) (b := b) (i := 1)
    simpa [Nat.shiftRight_succ] using this
  have h1 : ((a ^^^ b) % 2 = 1) ↔ ¬ (a % 2 = 1 ↔ b % 2 = 1) := Nat.xor_mod_two_eq_one
  rw [h2]
  by_cases ha : a % 2 = 1 <;> by_cases hb : b % 2 = 1
  · rw [if_neg (by rw [h1]; simp [ha, hb]), if_pos ha, if_pos hb]
    rw [show a / 2 ^^^ 3988292384 ^^^ (b / 2 ^^^ 3988292384) = a / 2 ^^^ b / 2 ^^^ (3988292384 ^^^ 3988292384) by ac_rfl, Nat.xor_self, Nat.xor_zero]
  · rw [if_pos (by rw [h1]; simp [ha, hb]), if_pos ha, if_neg hb]; ac_rfl
  · rw [if_pos (by rw [h1]; simp [ha, hb]), if_neg ha, if_pos hb]; ac_rfl
  · rw [if_neg (by rw [h1]; simp [ha, hb]), if_neg ha, if_neg hb]
theorem itN_xor : ∀ (n a b : Nat), itN n (a ^^^ b) = itN n a ^^^ itN n b
  | 0, a, b => rfl
  | n + 1, a, b => by rw [itN, bitN_xor, itN_xor n]; rfl
theorem itN_shift : ∀ (n x : Nat), itN n (x * 2 ^ n) = x
  | 0, x => by simp [itN]
  | n + 1, x => by
    rw [itN, bitN, if_neg (by rw [Nat.pow_succ, ← Nat.mul_assoc]; omega), show x * 2 ^ (n + 1) / 2 = x * 2 ^ n by rw [Nat.pow_succ, ← Nat.mul_assoc]; omega, itN_shift n]
theorem low_high (c : Nat) : c = c % 256 ^^^ c / 256 * 256 := by
  apply Nat.eq_of_testBit_eq
  intro i
  rw [Nat.testBit_xor, show (256 : Nat) = 2 ^ 8 from rfl, Nat.testBit_mod_two_pow, Nat.testBit_mul_two_pow, Nat.testBit_div_two_pow]
  by_cases h : i < 8
  · simp [h, Nat.not_le.2 h]
  · simp [h, Nat.le_of_not_lt h]
/-- One byte. -/
theorem crc_step (c b : Nat) : itN 8 (c ^^^ b) = itN 8 (c % 256 ^^^ b) ^^^ c / 256 := by
  have e := low_high c
  have h : c ^^^ b = (c % 256 ^^^ b) ^^^ c / 256 * 2 ^ 8 := by
    rw [show (2 : Nat) ^ 8 = 256 from rfl]
    generalize c / 256 * 256 = y at *
    generalize c % 256 = x at *
    rw [e]
    ac_rfl
  rw [h, itN_xor, itN_shift]
/-- The sum in the making. -/
def stepN (c : Nat) (b : Int) : Nat := itN 8 (c ^^^ b.toNat)
def foldN (c : Nat) (l : List Int) : Nat := l.foldl stepN c
theorem foldN_nil (c : Nat) : foldN c [] = c := rfl
theorem foldN_snoc (l : List Int) (c : Nat) (b : Int) : foldN c (l ++ [b]) = stepN (foldN c l) b := by
  unfold foldN; rw [List.foldl_append]; rfl
theorem foldN_lt : ∀ (l : List Int) {c : Nat}, isB l → c < 4294967296 → foldN c l < 4294967296
  | [], c, _, h => h
  | b :: l, c, hb, h => by
    have h2 := foldN_lt l (c := stepN c b) (fun x hx => hb x (by simp [hx])) (itN_lt 8 (xor_lt32 h (by have := hb b (by simp); omega)))
    unfold foldN at h2 ⊢
    rw [List.foldl_cons]
    exact h2
/-- The sum of bytes. -/
def crcN (l : List Int) : Nat := foldN 4294967295 l ^^^ 4294967295
theorem crcN_lt {l : List Int} (h : isB l) : crcN l < 4294967296 := xor_lt32 (foldN_lt l h (by omega)) (by omega)
/-- The table's own values. -/
def tabN (i : Nat) : Int := (itN 8 i : Nat)
theorem tabN_bd (i : Nat) (h : i < 256) : 0 ≤ tabN i ∧ tabN i ≤ 4294967295 := by
  have := itN_lt 8 (show i < 4294967296 by omega)
  unfold tabN; omega
end Go.Proofs.Ytigdchfjcfljjaa
