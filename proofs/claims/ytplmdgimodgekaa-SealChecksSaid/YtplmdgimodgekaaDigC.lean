/- The constants' roots in plain numbers. -/
import Derived.Test.YtplmdgimodgekaaDigW
namespace Go.Proofs.Ytplmdgimodgekaa
open Go.RowKit Go.Proofs.YtplmdgimodgekaaW.PrintWords
set_option linter.unusedVariables false
set_option linter.unusedSimpArgs false

/-- Digits of 2^16, times a number: what is carried, the digits. -/
def tC (d : List Nat) (x : Nat) : Nat → Nat
  | 0 => 0
  | i + 1 => (tC d x i + d.getD i 0 * x) / 65536
def tD (d : List Nat) (x i : Nat) : Nat := (tC d x i + d.getD i 0 * x) % 65536
def dgs : Nat → Nat → List Nat
  | 0, _ => []
  | f + 1, c => if 0 < c then c % 65536 :: dgs f (c / 65536) else []
def tmO (d : List Nat) (x i : Nat) : List Nat := (List.range i).map (tD d x)
def tmP (d : List Nat) (x : Nat) : List Nat := tmO d x d.length ++ dgs 4 (tC d x d.length)
theorem tmO_succ (d : List Nat) (x i : Nat) : tmO d x i ++ [tD d x i] = tmO d x (i + 1) := by rw [tmO, tmO, List.range_succ, List.map_append]; rfl
theorem tmO_len (d : List Nat) (x i : Nat) : (tmO d x i).length = i := by simp [tmO]
def isD (d : List Nat) : Prop := ∀ a ∈ d, a < 65536
theorem isD.getD {d : List Nat} (h : isD d) (i : Nat) : d.getD i 0 < 65536 := by
  rw [List.getD_eq_getElem?_getD]
  cases e : d[i]? with
  | none => simp
  | some x => exact h x (List.mem_of_getElem? e)
theorem tC_le {d : List Nat} (h : isD d) (x : Nat) : ∀ i, tC d x i ≤ x
  | 0 => Nat.zero_le _
  | i + 1 => by
    have h1 := tC_le h x i
    have h2 : d.getD i 0 * x ≤ 65535 * x := Nat.mul_le_mul_right x (by have := h.getD i; omega)
    rw [tC]; omega
theorem dgs_isD : ∀ f c, isD (dgs f c)
  | 0, c => fun a ha => by simp [dgs] at ha
  | f + 1, c => fun a ha => by
    rw [dgs] at ha
    split at ha
    · rcases List.mem_cons.1 ha with rfl | ha
      · omega
      · exact dgs_isD f _ a ha
    · simp at ha
theorem dgs_len : ∀ f c, (dgs f c).length ≤ f
  | 0, c => by simp [dgs]
  | f + 1, c => by
    rw [dgs]
    split
    · have := dgs_len f (c / 65536); simp; omega
    · simp
theorem tmP_isD (d : List Nat) (x : Nat) : isD (tmP d x) := fun a ha => by
  rcases List.mem_append.1 ha with ha | ha
  · simp only [tmO, List.mem_map] at ha
    obtain ⟨i, _, rfl⟩ := ha
    unfold tD; omega
  · exact dgs_isD _ _ a ha
theorem tmP_len (d : List Nat) (x : Nat) : (tmP d x).length ≤ d.length + 4 := by
  have := dgs_len 4 (tC d x d.length)
  rw [tmP, List.length_append, tmO_len]; omega
/-- What digits are worth. -/
def dv : List Nat → Nat
  | [] => 0
  | a :: l => a + 65536 * dv l
theorem dv_app : ∀ l m : List Nat, dv (l ++ m) = dv l + 65536 ^ l.length * dv m
  | [], m => by simp [dv]
  | a :: l, m => by
    rw [List.cons_append, dv, dv, dv_app l m, List.length_cons, Nat.pow_succ, Nat.mul_add, Nat.mul_comm (65536 ^ l.length) 65536, Nat.mul_assoc, Nat.add_assoc]
theorem dv_dgs : ∀ f c, c < 65536 ^ f → dv (dgs f c) = c
  | 0, c, h => by simp at h; subst h; rfl
  | f + 1, c, h => by
    rw [dgs]
    split
    · rw [dv, dv_dgs f (c / 65536) (Nat.div_lt_of_lt_mul (by rw [Nat.pow_succ] at h; rw [Nat.mul_comm]; exact h))]; omega
    · rw [dv]; omega
theorem dv_tmO (d : List Nat) (x : Nat) : ∀ i, i ≤ d.length → dv (tmO d x i) + 65536 ^ i * tC d x i = dv (d.take i) * x
  | 0, _ => by simp [tmO, tC, dv]
  | i + 1, h => by
    have ih := dv_tmO d x i (by omega)
    have hi : i < d.length := by omega
    have ht : d.take (i + 1) = d.take i ++ [d.getD i 0] := by
      rw [List.take_add_one, List.getElem?_eq_getElem hi, List.getD_eq_getElem?_getD, List.getElem?_eq_getElem hi]; rfl
    have hl : (d.take i).length = i := by rw [List.length_take]; omega
    have hs : tD d x i + 65536 * tC d x (i + 1) = tC d x i + d.getD i 0 * x := by rw [tD, tC]; exact Nat.mod_add_div _ _
    rw [← tmO_succ, dv_app, tmO_len, ht, dv_app, hl]
    have e1 : dv [tD d x i] = tD d x i := by simp [dv]
    have e2 : dv [d.getD i 0] = d.getD i 0 := by simp [dv]
    rw [e1, e2, Nat.pow_succ, Nat.add_mul, ← ih, Nat.mul_assoc (65536 ^ i) 65536, Nat.add_assoc, ← Nat.mul_add, hs, Nat.mul_add, Nat.mul_assoc, Nat.add_assoc]
theorem dv_tmP {d : List Nat} (h : isD d) (x : Nat) (hx : x < 281474976710656) : dv (tmP d x) = dv d * x := by
  rw [tmP, dv_app, tmO_len, dv_dgs 4 _ (by have := tC_le h x d.length; have : (65536 : Nat) ^ 4 = 18446744073709551616 := rfl; omega), dv_tmO d x d.length (Nat.le_refl _), List.take_of_length_le (Nat.le_refl _)]
theorem dv_get : ∀ (l : List Nat), isD l → ∀ k, dv l / 65536 ^ k % 65536 = l.getD k 0
  | [], _, k => by simp [dv]
  | a :: l, h, 0 => by
    have := h a (by simp)
    simp [dv]; omega
  | a :: l, h, k + 1 => by
    have ha := h a (by simp)
    have ih := dv_get l (fun b hb => h b (by simp [hb])) k
    rw [dv, Nat.pow_succ, Nat.mul_comm (65536 ^ k), ← Nat.div_div_eq_div_mul, show (a + 65536 * dv l) / 65536 = dv l by omega, ih]
    rfl
/-- x to the power of i, its digits. -/
def hiD (x : Nat) : Nat → List Nat
  | 0 => [1]
  | i + 1 => tmP (hiD x i) x
theorem hiD_isD (x : Nat) : ∀ i, isD (hiD x i)
  | 0 => fun a ha => by simp [hiD] at ha; omega
  | i + 1 => tmP_isD _ _
theorem hiD_len (x : Nat) : ∀ i, (hiD x i).length ≤ 1 + 4 * i
  | 0 => by simp [hiD]
  | i + 1 => by
    have := hiD_len x i
    have := tmP_len (hiD x i) x
    rw [hiD]; omega
theorem hiD_val (x : Nat) (hx : x < 281474976710656) : ∀ i, dv (hiD x i) = x ^ i
  | 0 => by simp [hiD, dv]
  | i + 1 => by rw [hiD, dv_tmP (hiD_isD x i) x hx, hiD_val x hx i, Nat.pow_succ]
def hiW (x pw : Nat) : Nat := x ^ pw / 65536 ^ (2 * pw) % 65536 + x ^ pw / 65536 ^ (2 * pw + 1) % 65536 * 65536
def hiN (x pw p : Nat) : Bool := decide (p ≤ hiW x pw)
theorem hiW_of (x pw : Nat) (hx : x < 281474976710656) : (hiD x pw).getD (2 * pw) 0 + (hiD x pw).getD (2 * pw + 1) 0 * 65536 = hiW x pw := by
  rw [hiW, ← hiD_val x hx pw, dv_get _ (hiD_isD x pw), dv_get _ (hiD_isD x pw)]
def padD (d : List Nat) (z : Nat) : List Nat := d ++ List.replicate z 0
theorem padD_len (d : List Nat) (z : Nat) : (padD d z).length = d.length + z := by simp [padD]
theorem padD_succ (d : List Nat) (z : Nat) : padD d z ++ [0] = padD d (z + 1) := by rw [padD, padD, List.replicate_succ', List.append_assoc]
theorem padD_get (d : List Nat) (z k : Nat) : (padD d z).getD k 0 = d.getD k 0 := by
  rw [padD, List.getD_eq_getElem?_getD, List.getD_eq_getElem?_getD]
  by_cases h : k < d.length
  · rw [List.getElem?_append_left h]
  · rw [List.getElem?_append_right (by omega), List.getElem?_eq_none (by omega : d.length ≤ k)]
    by_cases h2 : k - d.length < z
    · rw [List.getElem?_replicate, if_pos h2]; rfl
    · rw [List.getElem?_replicate, if_neg h2]
/-- The bits of a root: k are left. -/
def rtN (p pw : Nat) : Nat → Nat → Nat
  | 0, x => x
  | k + 1, x => rtN p pw k (if hiN (x + 2 ^ k) pw p then x else x + 2 ^ k)
def rtW (p pw : Nat) : Nat := rtN p pw 37 0 % 4294967296
def bitN : Nat → Nat
  | 0 => 0
  | k + 1 => 2 ^ k
theorem bitN_half (k : Nat) : bitN (k + 1) / 2 = bitN k := by
  cases k with
  | zero => rfl
  | succ k => rw [bitN, bitN, Nat.pow_succ]; omega
/-- The primes below k + 2. -/
def okP (l : List Nat) (p : Nat) : Bool := l.all fun q => p % q != 0
def prL : Nat → List Nat
  | 0 => []
  | k + 1 => if okP (prL k) (k + 2) then prL k ++ [k + 2] else prL k
theorem prL_mono (k : Nat) : (prL k).length ≤ (prL (k + 1)).length := by
  rw [prL]; split <;> simp
theorem prL_le : ∀ j k, (prL k).length ≤ (prL (k + j)).length
  | 0, k => Nat.le_refl _
  | j + 1, k => Nat.le_trans (prL_le j k) (prL_mono _)
theorem prL_bd : ∀ k, ∀ q ∈ prL k, 2 ≤ q ∧ q ≤ k + 1
  | 0 => by simp [prL]
  | k + 1 => fun q hq => by
    rw [prL] at hq
    split at hq
    · rcases List.mem_append.1 hq with hq | hq
      · have := prL_bd k q hq; omega
      · simp at hq; omega
    · have := prL_bd k q hq; omega
def p64L : List Nat := [2, 3, 5, 7, 11, 13, 17, 19, 23, 29, 31, 37, 41, 43, 47, 53, 59, 61, 67, 71, 73, 79, 83, 89, 97, 101, 103, 107, 109, 113, 127, 131, 137, 139, 149, 151, 157, 163, 167, 173, 179, 181, 191, 193, 197, 199, 211, 223, 227, 229, 233, 239, 241, 251, 257, 263, 269, 271, 277, 281, 283, 293, 307, 311]
theorem prL_310 : prL 310 = p64L := by decide +kernel
theorem prL_309 : (prL 309).length = 63 := by decide +kernel
theorem prL_lt (k : Nat) (h : k ≤ 309) : (prL k).length < 64 := by
  have := prL_le (309 - k) k
  rw [show k + (309 - k) = 309 by omega, prL_309] at this
  omega
theorem prL_64 (k : Nat) (h : k ≤ 310) (hl : ¬ (prL k).length < 64) : prL k = p64L := by
  by_cases c : k ≤ 309
  · exact absurd (prL_lt k c) hl
  · rw [show k = 310 by omega, prL_310]
/-- The words. -/
def cA (i : Nat) : List Nat := (List.range (min i 8)).map fun j => rtW (p64L.getD j 0) 2
def cB (i : Nat) : List Nat := (List.range i).map fun j => rtW (p64L.getD j 0) 3
theorem cA_succ (i : Nat) (h : i < 8) : cA i ++ [rtW (p64L.getD i 0) 2] = cA (i + 1) := by
  rw [cA, cA, Nat.min_eq_left (by omega), Nat.min_eq_left (by omega), List.range_succ, List.map_append]; rfl
theorem cA_stay (i : Nat) (h : 8 ≤ i) : cA i = cA (i + 1) := by rw [cA, cA, Nat.min_eq_right h, Nat.min_eq_right (by omega)]
theorem cB_succ (i : Nat) : cB i ++ [rtW (p64L.getD i 0) 3] = cB (i + 1) := by
  rw [cB, cB, List.range_succ, List.map_append]; rfl
theorem cA_8 : (cA 64).map Int.ofNat = h0L := by decide +kernel
theorem cB_64 : (cB 64).map Int.ofNat = kT := by decide +kernel
end Go.Proofs.Ytplmdgimodgekaa
