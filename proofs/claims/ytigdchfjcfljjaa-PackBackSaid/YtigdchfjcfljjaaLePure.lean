/- Plain facts on numbers as bytes, the least one first. -/
import Derived.Test.YtigdchfjcfljjaaRd
namespace Go.Proofs.Ytigdchfjcfljjaa
open Go.RowKit
set_option linter.unusedVariables false

/-- k bytes of n. -/
def leB (n : Int) : Nat → List Int
  | 0 => []
  | k + 1 => leB n k ++ [n / 256 ^ k % 256]
theorem leB_len (n : Int) : ∀ k, (leB n k).length = k
  | 0 => rfl
  | k + 1 => by simp [leB, leB_len n k]
theorem leB_isB (n : Int) : ∀ k, isB (leB n k)
  | 0 => fun x hx => by simp [leB] at hx
  | k + 1 => (leB_isB n k).app (fun x hx => by simp at hx; subst hx; omega)
theorem leB_cons (n : Int) : ∀ k, leB n (k + 1) = n % 256 :: leB (n / 256) k
  | 0 => by simp [leB]
  | k + 1 => by
    rw [leB, leB_cons n k, leB]
    simp only [List.cons_append, List.cons.injEq, true_and, List.append_cancel_left_eq]
    rw [Int.ediv_ediv_of_nonneg (by omega), Int.pow_succ, Int.mul_comm]
    exact ⟨rfl, trivial⟩
/-- How many bytes a width asks for. -/
def leW (w : Int) : Nat := (min (max w 0) 8).toNat
/-- The number that bytes tell. -/
def leN : List Int → Int
  | [] => 0
  | b :: r => b + 256 * leN r
theorem leN_bound : ∀ {l : List Int}, isB l → 0 ≤ leN l ∧ leN l < 256 ^ l.length
  | [], _ => by simp [leN]
  | b :: r, h => by
    have ih := leN_bound (l := r) (fun x hx => h x (by simp [hx]))
    have hb := h b (by simp)
    simp only [leN, List.length_cons, Int.pow_succ]
    generalize (256 : Int) ^ r.length = p at *
    omega
theorem leB_leN : ∀ {l : List Int}, isB l → leB (leN l) l.length = l
  | [], _ => rfl
  | b :: r, h => by
    have ih := leB_leN (l := r) (fun x hx => h x (by simp [hx]))
    have hb := h b (by simp)
    rw [List.length_cons, leB_cons, leN]
    rw [show (b + 256 * leN r) % 256 = b by omega, show (b + 256 * leN r) / 256 = leN r by omega, ih]
theorem leN_leB : ∀ (k : Nat) (n : Int), 0 ≤ n → leN (leB n k) = n % 256 ^ k
  | 0, n, _ => by simp [leB, leN]
  | k + 1, n, h => by
    rw [leB_cons, leN, leN_leB k (n / 256) (by omega), Int.pow_succ]
    have hp : (0 : Int) < 256 ^ k := Int.pow_pos (by omega)
    generalize (256 : Int) ^ k = p at *
    rw [Int.mul_comm p 256]
    have e1 : n % (256 * p) = n - 256 * p * (n / (256 * p)) := by have := Int.mul_ediv_add_emod n (256 * p); omega
    have e2 : n / 256 % p = n / 256 - p * (n / 256 / p) := by have := Int.mul_ediv_add_emod (n / 256) p; omega
    rw [e1, e2, Int.ediv_ediv_of_nonneg (by omega), Int.mul_sub, Int.mul_assoc]
    omega
theorem leN_snoc : ∀ (l : List Int) (b : Int), leN (l ++ [b]) = leN l + 256 ^ l.length * b
  | [], b => by simp [leN]
  | a :: l, b => by
    simp only [List.cons_append, leN, leN_snoc l b, List.length_cons, Int.pow_succ]
    rw [Int.mul_add, Int.mul_comm (256 ^ l.length) 256, Int.mul_assoc]
    omega
/-- Does such a width stand there? -/
def fitsB (n a w : Int) : Bool := decide ((w = 1 ∨ w = 2 ∨ w = 4 ∨ w = 8) ∧ 0 ≤ a ∧ a ≤ n ∧ w ≤ n - a)
def getN (l : List Int) (a w : Int) : Int := if fitsB l.length a w = true then leN ((l.drop a.toNat).take w.toNat) else 0
theorem fits_yes {n a w : Int} (h : fitsB n a w = true) : (w = 1 ∨ w = 2 ∨ w = 4 ∨ w = 8) ∧ 0 ≤ a ∧ a ≤ n ∧ w ≤ n - a := by simpa [fitsB] using h
/-- The next multiple of eight. -/
def alignZ (k : Int) : Int := if k ≤ 0 then 0 else (k + 7) / 8 * 8
theorem take_snoc {l : List Int} {i : Nat} (h : i < l.length) : l.take (i + 1) = l.take i ++ [l.getD i 0] := by
  rw [List.take_succ_eq_append_getElem h, List.getD_eq_getElem?_getD, List.getElem?_eq_getElem h]; rfl
theorem getD_drop (l : List Int) (a i : Nat) : (l.drop a).getD i 0 = l.getD (a + i) 0 := by
  simp [List.getD_eq_getElem?_getD, List.getElem?_drop]
theorem drop_cons' {l : List Int} {i : Nat} (h : i < l.length) : l.drop i = l.getD i 0 :: l.drop (i + 1) := by
  rw [List.drop_eq_getElem_cons h, List.getD_eq_getElem?_getD, List.getElem?_eq_getElem h]; rfl
end Go.Proofs.Ytigdchfjcfljjaa
