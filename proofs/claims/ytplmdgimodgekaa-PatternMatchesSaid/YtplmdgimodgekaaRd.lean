/- A slice of numbers that is read, whatever its make; small facts on numbers. -/
import Derived.Test.YtplmdgimodgekaaBase
import Derived.Laws.BitsAllLaws
namespace Go.Proofs.Ytplmdgimodgekaa
open Go.RowKit Go.Proofs.YtplmdgimodgekaaW.PrintWords Go.Proofs.YtplmdgimodgekaaW.PrintLast Go.Proofs.YtplmdgimodgekaaW.PrintMore
set_option linter.unusedVariables false
set_option linter.unusedSimpArgs false

/-- The value v reads as the numbers xs. -/
def Rd (w : World) (k : IntKind) (v : Value) (xs : List Int) : Prop := ∃ A c, v = .slice A xs.length c ∧ xs.length ≤ c ∧ ReadsInt w k A xs.length xs
theorem Rd.below {w w1 : World} {k : IntKind} {v : Value} {xs : List Int} (h : Rd w k v xs) (hb : Below w.heap.size w w1) : Rd w1 k v xs := by
  obtain ⟨A, c, e, hc, hr⟩ := h
  exact ⟨A, c, e, hc, hr.below hb⟩
theorem Rd.of_R {w : World} {k : IntKind} {e base : Nat} {ok : Nat → Prop} {v : Value} {xs : List Int} (h : Kd.R (Kd.int k) e w base ok v xs) : Rd w k v xs := by
  obtain ⟨A, c, e, hc, hr⟩ := Kd.R_reads h
  exact ⟨A, c, e, hc, Kd.reads_of_C (enc := Value.int k) (d := (0 : Int)) (h1 := fun _ => rfl) hr⟩
theorem Rd.nil (w : World) (k : IntKind) : Rd w k (.slice none 0 0) [] := ⟨none, 0, rfl, Nat.le_refl _, ReadsInt.nil w k⟩
theorem Rd.lit (w : World) (k : IntKind) (e : TypeId) (xs : List Int) (hm : xs.length ≤ 9223372036854775807) : Rd (w.alloc (.cells (nums k xs).toArray e)) k (.slice (some ⟨w.heap.size, 0, none⟩) xs.length xs.length) xs :=
  ⟨_, _, rfl, Nat.le_refl _, own_reads' (own_lit w 0 e k xs (Nat.zero_le _) hm)⟩
/-- An element, as the walk's load asks for it. -/
theorem rd_at {w : World} {k : IntKind} {A : Option Addr} {n : Nat} {xs : List Int} (h : ReadsInt w k A n xs) (i : Nat) (hi : i < n) : ∃ ad, A = some ad ∧ w.cell? (ad.add i) = some (.int k (xs.getD i 0)) := h.2.2 (by omega) |>.elim fun ad ⟨e, hc⟩ => ⟨ad, e, hc i hi⟩

def isB (l : List Int) : Prop := ∀ x ∈ l, 0 ≤ x ∧ x ≤ 255
theorem isB.getD {l : List Int} (h : isB l) (i : Nat) : 0 ≤ l.getD i 0 ∧ l.getD i 0 ≤ 255 := by
  rw [List.getD_eq_getElem?_getD]
  cases e : l[i]? with
  | none => simp
  | some x => exact h x (List.mem_of_getElem? e)
theorem isB.drop {l : List Int} (h : isB l) (i : Nat) : isB (l.drop i) := fun x hx => h x (List.mem_of_mem_drop hx)
theorem isB.take {l : List Int} (h : isB l) (i : Nat) : isB (l.take i) := fun x hx => h x (List.mem_of_mem_take hx)
theorem isB.app {l m : List Int} (h : isB l) (h' : isB m) : isB (l ++ m) := fun x hx => (List.mem_append.1 hx).elim (h x) (h' x)
theorem u8_inj {x y : Int} (hx : 0 ≤ x ∧ x ≤ 255) (hy : 0 ≤ y ∧ y ≤ 255) (h : UInt8.ofNat x.toNat = UInt8.ofNat y.toNat) : x = y := by
  have := congrArg UInt8.toNat h
  simp at this
  omega
theorem map_inj : ∀ {l m : List Int}, isB l → isB m → (l.map fun n => UInt8.ofNat n.toNat) = (m.map fun n => UInt8.ofNat n.toNat) → l = m
  | [], [], _, _, _ => rfl
  | [], _ :: _, _, _, h => by simp at h
  | _ :: _, [], _, _, h => by simp at h
  | x :: l, y :: m, hl, hm, h => by
    simp only [List.map_cons, List.cons.injEq] at h
    rw [u8_inj (hl x (by simp)) (hm y (by simp)) h.1, map_inj (fun z hz => hl z (by simp [hz])) (fun z hz => hm z (by simp [hz])) h.2]
theorem strOfNums_toList' (xs : List Int) : (strOfNums xs).toList = xs.map fun n => UInt8.ofNat n.toNat := by rw [ByteArray.toList_eq]; rfl
theorem same_iff {l m : List Int} (hl : isB l) (hm : isB m) : ((strOfNums l).toList == (strOfNums m).toList) = decide (l = m) := by
  rw [strOfNums_toList', strOfNums_toList']
  by_cases e : l = m
  · subst e; simp
  · rw [decide_eq_false e, beq_eq_false_iff_ne]
    exact fun h => e (map_inj hl hm h)
theorem and7 (n : Int) : bits .and .i64 n 7 = n % 8 := by
  have h7 : (BitVec.ofInt 64 7).toNat = 2 ^ 3 - 1 := by decide
  have key : (BitVec.ofInt 64 n &&& BitVec.ofInt 64 7).toNat = (n % ((2 ^ 64 : Nat) : Int)).toNat % 2 ^ 3 := by
    rw [BitVec.toNat_and, BitVec.toNat_ofInt, h7, Nat.and_two_pow_sub_one_eq_mod]
  show IntKind.i64.wrap ((BitVec.ofInt 64 n &&& BitVec.ofInt 64 7).toNat : Nat) = n % 8
  rw [key, IntKind.wrap_i64]
  omega
theorem pow_nat (i : Nat) : ((2 : Int) ^ i) = ((2 ^ i : Nat) : Int) := by rw [Int.natCast_pow]; rfl
/-- The low bits and the high ones: or is sum. -/
theorem or_u64 (a b : Int) (i : Nat) (h1 : 0 ≤ a) (h2 : a * 2 ^ i < 18446744073709551616) (h3 : 0 ≤ b) (h4 : b < 2 ^ i) (h5 : b < 18446744073709551616) : bits .or .u64 (a * 2 ^ i) b = a * 2 ^ i + b := by
  obtain ⟨x, rfl⟩ := Int.eq_ofNat_of_zero_le h1
  obtain ⟨y, rfl⟩ := Int.eq_ofNat_of_zero_le h3
  rw [pow_nat] at h2 h4 ⊢
  rw [show (x : Int) * ((2 ^ i : Nat) : Int) = ((x * 2 ^ i : Nat) : Int) from (Int.natCast_mul _ _).symm] at h2 ⊢
  rw [u64_or_nat _ _ (by omega) (by omega), nat_join i _ _ (Nat.mul_mod_left _ _) (by omega)]
  omega
end Go.Proofs.Ytplmdgimodgekaa
