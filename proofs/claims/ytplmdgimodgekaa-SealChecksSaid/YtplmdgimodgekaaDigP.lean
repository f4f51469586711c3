/- SHA-256 in plain numbers. -/
import Derived.Test.YtplmdgimodgekaaDigR
import Derived.Test.YtplmdgimodgekaaFill
namespace Go.Proofs.Ytplmdgimodgekaa
open Go.RowKit Go.Proofs.YtplmdgimodgekaaW.PrintWords
set_option linter.unusedVariables false
set_option linter.unusedSimpArgs false

theorem ofInt_toNat32 (v : BitVec 32) : BitVec.ofInt 32 (v.toNat : Int) = v := by
  rw [BitVec.ofInt_natCast, BitVec.ofNat_toNat]; simp
theorem wrap32_toNat (v : BitVec 32) : IntKind.u32.wrap (v.toNat : Int) = (v.toNat : Int) := by
  have := v.isLt
  rw [IntKind.wrap_u32]; omega
theorem b_and (a b : Int) : bits .and .u32 a b = ((BitVec.ofInt 32 a &&& BitVec.ofInt 32 b).toNat : Int) := wrap32_toNat _
theorem b_or (a b : Int) : bits .or .u32 a b = ((BitVec.ofInt 32 a ||| BitVec.ofInt 32 b).toNat : Int) := wrap32_toNat _
theorem b_xor (a b : Int) : bits .xor .u32 a b = ((BitVec.ofInt 32 a ^^^ BitVec.ofInt 32 b).toNat : Int) := wrap32_toNat _
theorem bits_bd (op : BinOp) (a b : Int) : 0 ≤ bits op .u32 a b ∧ bits op .u32 a b ≤ 4294967295 := by
  have : ∀ v : BitVec 32, 0 ≤ IntKind.u32.wrap (v.toNat : Int) ∧ IntKind.u32.wrap (v.toNat : Int) ≤ 4294967295 := fun v => by
    have := v.isLt; rw [wrap32_toNat]; omega
  exact this _
theorem wrap_bd (x : Int) : 0 ≤ IntKind.u32.wrap x ∧ IntKind.u32.wrap x ≤ 4294967295 := by rw [IntKind.wrap_u32]; omega
theorem rr_bd (a b x : Int) : 0 ≤ rr a b x ∧ rr a b x ≤ 4294967295 := bits_bd _ _ _
/-- The choice: by or, and by xor. -/
def chZ (e f g : Int) : Int := bits .or .u32 (bits .and .u32 e f) (bits .and .u32 (bits .xor .u32 e 4294967295) g)
theorem ch_xor (e f g : Int) : bits .xor .u32 (bits .and .u32 e f) (bits .and .u32 (bits .xor .u32 IntKind.u32.max e) g) = chZ e f g := by
  rw [chZ, show IntKind.u32.max = 4294967295 from rfl]
  simp only [b_and, b_or, b_xor, ofInt_toNat32]
  congr 2
  rw [show BitVec.ofInt 32 4294967295 = BitVec.allOnes 32 from by decide]
  ext i hi
  have ho : (BitVec.allOnes 32)[i] = true := by rw [BitVec.getElem_allOnes]
  simp only [BitVec.getElem_xor, BitVec.getElem_and, BitVec.getElem_or, ho]
  cases (BitVec.ofInt 32 e)[i] <;> simp
def mjZ (a b c : Int) : Int := bits .or .u32 (bits .or .u32 (bits .and .u32 a b) (bits .and .u32 a c)) (bits .and .u32 b c)
theorem mj_xor (a b c : Int) : bits .xor .u32 (bits .xor .u32 (bits .and .u32 a b) (bits .and .u32 a c)) (bits .and .u32 b c) = mjZ a b c := by
  rw [mjZ]
  simp only [b_and, b_or, b_xor, ofInt_toNat32]
  congr 2
  ext i hi
  simp
  cases (BitVec.ofInt 32 a)[i] <;> cases (BitVec.ofInt 32 b)[i] <;> cases (BitVec.ofInt 32 c)[i] <;> simp
def s0Z (x : Int) : Int := bits .xor .u32 (bits .xor .u32 (rr 33554432 128 x) (rr 16384 262144 x)) (x / 8)
def s1Z (x : Int) : Int := bits .xor .u32 (bits .xor .u32 (rr 32768 131072 x) (rr 8192 524288 x)) (x / 1024)
def S1Z (x : Int) : Int := bits .xor .u32 (bits .xor .u32 (rr 67108864 64 x) (rr 2097152 2048 x)) (rr 128 33554432 x)
def S0Z (x : Int) : Int := bits .xor .u32 (bits .xor .u32 (rr 1073741824 4 x) (rr 524288 8192 x)) (rr 1024 4194304 x)
/-- A word of a block. -/
def wdZ (b : List Int) (i : Nat) : Int := b.getD (4 * i) 0 * 16777216 + b.getD (4 * i + 1) 0 * 65536 + b.getD (4 * i + 2) 0 * 256 + b.getD (4 * i + 3) 0
theorem wdZ_bd {b : List Int} (h : isB b) (i : Nat) : 0 ≤ wdZ b i ∧ wdZ b i ≤ 4294967295 := by
  have h0 := h.getD (4 * i)
  have h1 := h.getD (4 * i + 1)
  have h2 := h.getD (4 * i + 2)
  have h3 := h.getD (4 * i + 3)
  unfold wdZ; omega
/-- The words of a block, the first n. -/
def schN (b : List Int) : Nat → List Int
  | 0 => []
  | n + 1 => schN b n ++ [if n < 16 then wdZ b n else IntKind.u32.wrap (IntKind.u32.wrap (IntKind.u32.wrap ((schN b n).getD (n - 16) 0 + s0Z ((schN b n).getD (n - 15) 0)) + (schN b n).getD (n - 7) 0) + s1Z ((schN b n).getD (n - 2) 0))]
theorem schN_len (b : List Int) : ∀ n, (schN b n).length = n
  | 0 => rfl
  | n + 1 => by rw [schN, List.length_append, schN_len b n]; rfl
def wF (b : List Int) (i : Nat) : Int := (schN b (i + 1)).getD i 0
theorem schN_get (b : List Int) : ∀ n i, i < n → (schN b n).getD i 0 = wF b i
  | 0, i, h => by omega
  | n + 1, i, h => by
    by_cases e : i = n
    · subst e; rfl
    · rw [schN, List.getD_eq_getElem?_getD, List.getElem?_append_left (by rw [schN_len]; omega), ← List.getD_eq_getElem?_getD]
      exact schN_get b n i (by omega)
theorem wF_at (b : List Int) (n : Nat) : wF b n = if n < 16 then wdZ b n else IntKind.u32.wrap (IntKind.u32.wrap (IntKind.u32.wrap ((schN b n).getD (n - 16) 0 + s0Z ((schN b n).getD (n - 15) 0)) + (schN b n).getD (n - 7) 0) + s1Z ((schN b n).getD (n - 2) 0)) := by
  rw [wF, schN, List.getD_eq_getElem?_getD, List.getElem?_append_right (by rw [schN_len]; omega), schN_len, Nat.sub_self]; rfl
theorem wF_lo {b : List Int} {n : Nat} (h : n < 16) : wF b n = wdZ b n := by rw [wF_at, if_pos h]
theorem wF_hi {b : List Int} {n : Nat} (h : 16 ≤ n) : wF b n = IntKind.u32.wrap (IntKind.u32.wrap (IntKind.u32.wrap (wF b (n - 16) + s0Z (wF b (n - 15))) + wF b (n - 7)) + s1Z (wF b (n - 2))) := by
  rw [wF_at, if_neg (by omega), schN_get b n (n - 16) (by omega), schN_get b n (n - 15) (by omega), schN_get b n (n - 7) (by omega), schN_get b n (n - 2) (by omega)]
theorem wF_bd {b : List Int} (hb : isB b) (n : Nat) : 0 ≤ wF b n ∧ wF b n ≤ 4294967295 := by
  by_cases h : n < 16
  · rw [wF_lo h]; exact wdZ_bd hb n
  · rw [wF_hi (by omega)]; exact wrap_bd _
/-- A round, on eight words. -/
def rndL (k w : Int) : List Int → List Int
  | [a, b, c, d, e, f, g, h] =>
    [IntKind.u32.wrap (IntKind.u32.wrap (IntKind.u32.wrap (IntKind.u32.wrap (IntKind.u32.wrap (IntKind.u32.wrap (h + S1Z e) + chZ e f g) + k) + w) + S0Z a) + mjZ a b c), a, b, c, IntKind.u32.wrap (d + IntKind.u32.wrap (IntKind.u32.wrap (IntKind.u32.wrap (IntKind.u32.wrap (h + S1Z e) + chZ e f g) + k) + w)), e, f, g]
  | l => l
def is8 (l : List Int) : Prop := l.length = 8 ∧ ∀ x ∈ l, 0 ≤ x ∧ x ≤ 4294967295
theorem list8 {l : List Int} (h : is8 l) : ∃ a b c d e f g h, l = [a, b, c, d, e, f, g, h] ∧ (0 ≤ a ∧ a ≤ 4294967295) ∧ (0 ≤ b ∧ b ≤ 4294967295) ∧ (0 ≤ c ∧ c ≤ 4294967295) ∧ (0 ≤ d ∧ d ≤ 4294967295) ∧ (0 ≤ e ∧ e ≤ 4294967295) ∧ (0 ≤ f ∧ f ≤ 4294967295) ∧ (0 ≤ g ∧ g ≤ 4294967295) ∧ (0 ≤ h ∧ h ≤ 4294967295) := by
  obtain ⟨hl, hb⟩ := h
  match l, hl with
  | [a, b, c, d, e, f, g, h], _ => exact ⟨a, b, c, d, e, f, g, h, rfl, hb a (by simp), hb b (by simp), hb c (by simp), hb d (by simp), hb e (by simp), hb f (by simp), hb g (by simp), hb h (by simp)⟩
theorem rndL_8 {l : List Int} (h : is8 l) (k w : Int) : is8 (rndL k w l) := by
  obtain ⟨a, b, c, d, e, f, g, h, rfl, h1, h2, h3, h4, h5, h6, h7, h8⟩ := list8 h
  refine ⟨rfl, fun x hx => ?_⟩
  simp only [rndL, List.mem_cons, List.not_mem_nil, or_false] at hx
  rcases hx with rfl | rfl | rfl | rfl | rfl | rfl | rfl | rfl <;> first | exact wrap_bd _ | assumption
/-- The eight words behind n rounds. -/
def stN (H b : List Int) : Nat → List Int
  | 0 => H
  | n + 1 => rndL (kT.getD n 0) (wF b n) (stN H b n)
theorem stN_8 {H : List Int} (h : is8 H) (b : List Int) : ∀ n, is8 (stN H b n)
  | 0 => h
  | n + 1 => rndL_8 (stN_8 h b n) _ _
/-- A block, taken in. -/
def blkP (H b : List Int) : List Int := (List.range 8).map fun i => IntKind.u32.wrap (H.getD i 0 + (stN H b 64).getD i 0)
theorem blkP_8 (H b : List Int) : is8 (blkP H b) := ⟨by simp [blkP], fun x hx => by
  simp only [blkP, List.mem_map] at hx
  obtain ⟨i, _, rfl⟩ := hx
  exact wrap_bd _⟩
theorem or_u32 (a b : Int) (i : Nat) (hi : i ≤ 31) (h1 : 0 ≤ a) (h2 : a * 2 ^ i < 4294967296) (h3 : 0 ≤ b) (h4 : b < 2 ^ i) : bits .or .u32 (a * 2 ^ i) b = a * 2 ^ i + b := by
  obtain ⟨x, rfl⟩ := Int.eq_ofNat_of_zero_le h1
  obtain ⟨y, rfl⟩ := Int.eq_ofNat_of_zero_le h3
  have hp : (2 : Nat) ^ i ≤ 2 ^ 31 := Nat.pow_le_pow_right (by omega) hi
  rw [pow_nat] at h2 h4 ⊢
  rw [show (x : Int) * ((2 ^ i : Nat) : Int) = ((x * 2 ^ i : Nat) : Int) from (Int.natCast_mul _ _).symm] at h2 ⊢
  have k1 : BitVec.ofInt 32 ((x * 2 ^ i : Nat) : Int) = BitVec.ofNat 32 (x * 2 ^ i) := BitVec.ofInt_natCast ..
  have k2 : BitVec.ofInt 32 ((y : Nat) : Int) = BitVec.ofNat 32 y := BitVec.ofInt_natCast ..
  have hx : x * 2 ^ i < 4294967296 := by omega
  have hy : y < 4294967296 := by omega
  rw [b_or, k1, k2, BitVec.toNat_or, BitVec.toNat_ofNat, BitVec.toNat_ofNat, Nat.mod_eq_of_lt (by omega), Nat.mod_eq_of_lt (by omega), nat_join i _ _ (Nat.mul_mod_left _ _) (by omega)]
  omega
/-- The program's word: by or. -/
theorem wd_or (b : List Int) (h : isB b) (i : Nat) : bits .or .u32 (bits .or .u32 (bits .or .u32 (b.getD (4 * i) 0 * 16777216) (b.getD (4 * i + 1) 0 * 65536)) (b.getD (4 * i + 2) 0 * 256)) (b.getD (4 * i + 3) 0) = wdZ b i := by
  have h0 := h.getD (4 * i)
  have h1 := h.getD (4 * i + 1)
  have h2 := h.getD (4 * i + 2)
  have h3 := h.getD (4 * i + 3)
  obtain ⟨x0, e0⟩ : ∃ x, b.getD (4 * i) 0 = x := ⟨_, rfl⟩
  obtain ⟨x1, e1⟩ : ∃ x, b.getD (4 * i + 1) 0 = x := ⟨_, rfl⟩
  obtain ⟨x2, e2⟩ : ∃ x, b.getD (4 * i + 2) 0 = x := ⟨_, rfl⟩
  obtain ⟨x3, e3⟩ : ∃ x, b.getD (4 * i + 3) 0 = x := ⟨_, rfl⟩
  rw [e0] at h0
  rw [e1] at h1
  rw [e2] at h2
  rw [e3] at h3
  rw [wdZ, e0, e1, e2, e3]
  have s1 := or_u32 x0 (x1 * 65536) 24 (by omega) (by omega) (by omega) (by omega) (by omega)
  have s2 := or_u32 (x0 * 256 + x1) (x2 * 256) 16 (by omega) (by omega) (by omega) (by omega) (by omega)
  have s3 := or_u32 (x0 * 65536 + x1 * 256 + x2) x3 8 (by omega) (by omega) (by omega) (by omega) (by omega)
  rw [show (2 : Int) ^ 24 = 16777216 from rfl] at s1
  rw [show (x0 * 256 + x1) * (2 : Int) ^ 16 = x0 * 16777216 + x1 * 65536 by rw [show (2 : Int) ^ 16 = 65536 from rfl]; omega] at s2
  rw [show (x0 * 65536 + x1 * 256 + x2) * (2 : Int) ^ 8 = x0 * 16777216 + x1 * 65536 + x2 * 256 by rw [show (2 : Int) ^ 8 = 256 from rfl]; omega] at s3
  rw [s1, s2, s3]
theorem u_sum (t u m : Int) : IntKind.u32.wrap (t + IntKind.u32.wrap (u + m)) = IntKind.u32.wrap (IntKind.u32.wrap (t + u) + m) := by simp only [IntKind.wrap_u32]; omega
end Go.Proofs.Ytplmdgimodgekaa
