/- Contracts of package mix, and of its reference, over this translation. -/
import Derived.Test.YtplmdgimodgekaaLe3
import Derived.Test.YtplmdgimodgekaaKp
namespace Go.Proofs.Ytplmdgimodgekaa
open Go.RowKit Go.Proofs.YtplmdgimodgekaaW.PrintWords Go.Proofs.YtplmdgimodgekaaW.PrintLast Go.Proofs.YtplmdgimodgekaaW.PrintMore
attribute [local go_sem] max2_int min2_int max_two min_two max_three min_three max_four min_four   -- for this text's walks alone
set_option linter.unusedVariables false
set_option linter.unusedSimpArgs false

def rot29 (x : Int) : Int := bits .or .u64 (IntKind.u64.wrap (x * 536870912)) (x / 34359738368)
def stirX (h w : Int) : Int := bits .xor .u64 h (IntKind.u64.wrap (w * 14029467366897019727))
def stirY (h w : Int) : Int := IntKind.u64.wrap (rot29 (stirX h w) * 11400714819323198485)
/-- The sum behind a word. -/
def stirP (h w : Int) : Int := bits .xor .u64 (stirY h w) (stirY h w / 4294967296)
theorem wrap_div (x : Int) : IntKind.u64.wrap ((IntKind.u64.wrap x).tdiv 4294967296) = IntKind.u64.wrap x / 4294967296 := by
  rw [Int.tdiv_eq_ediv_of_nonneg (by rw [IntKind.wrap_u64]; omega), IntKind.wrap_u64, IntKind.wrap_u64]
  omega
theorem or_comm_u64 (x y : Int) (hx0 : 0 ≤ x) (hx1 : x ≤ 18446744073709551615) (hy0 : 0 ≤ y) (hy1 : y ≤ 18446744073709551615) : bits .or .u64 x y = bits .or .u64 y x := by
  obtain ⟨a, rfl⟩ := Int.eq_ofNat_of_zero_le hx0
  obtain ⟨b, rfl⟩ := Int.eq_ofNat_of_zero_le hy0
  rw [u64_or_nat _ _ (by omega) (by omega), u64_or_nat _ _ (by omega) (by omega), Nat.or_comm]
theorem pow_8 (i : Nat) : (2 : Int) ^ (8 * i) = 256 ^ i := by rw [Int.pow_mul]; rfl
theorem or_step (x b : Int) (i : Nat) (hi : i ≤ 6) (hx0 : 0 ≤ x) (hx : x < 256 ^ i) (hb0 : 0 ≤ b) (hb1 : b ≤ 255) : bits .or .u64 x (IntKind.u64.wrap (b * 2 ^ (8 * i))) = x + 256 ^ i * b := by
  have h8 := pow256_7 (show i + 1 ≤ 7 by omega)
  rw [Int.pow_succ] at h8
  have hp : (0 : Int) < 256 ^ i := Int.pow_pos (by omega)
  have h1 : b * (256 : Int) ^ i ≤ 255 * 256 ^ i := Int.mul_le_mul_of_nonneg_right hb1 (by omega)
  have h2 : 0 ≤ b * (256 : Int) ^ i := Int.mul_nonneg hb0 (by omega)
  have e8 := pow_8 i
  have hw : IntKind.u64.wrap (b * 2 ^ (8 * i)) = b * 2 ^ (8 * i) := by rw [IntKind.wrap_u64, e8, Int.emod_eq_of_lt h2 (by omega)]
  rw [hw, or_comm_u64 _ _ hx0 (by omega) (by rw [e8]; exact h2) (by rw [e8]; omega), or_u64 b x (8 * i) hb0 (by rw [e8]; omega) hx0 (by rw [e8]; exact hx) (by omega), e8, Int.mul_comm b]
  omega
theorem lit_isB {xs : List Int} (h : (xs.all fun x => decide (0 ≤ x) && decide (x ≤ 255)) = true) : isB xs := fun x hx => by
  have := List.all_eq_true.1 h x hx
  simpa using this
/-- v[a:] reads as that part. -/
theorem Rd.tail (t e : TypeId) {k : IntKind} {i : TypeInfo} (ht : Try.prog.underlying t = some (.slice e)) (hi : Try.prog.info? e = some i) (hsz : i.size = 1) {w0 : World} {v : Value} {xs : List Int} (h : Rd w0 k v xs) (a : Int) (h0 : 0 ≤ a) (hm : a ≤ xs.length) :
    ∃ v', (∀ W : World, (Instr.slice t v (some (.int .i64 a)) none none).run Try.prog W = .ok v' W) ∧ (∀ w : World, Rd w k v xs → Rd w k v' (xs.drop a.toNat)) := by
  obtain ⟨A, c, rfl, hc, _⟩ := h
  obtain ⟨A', h2, h3, h4⟩ := print_cut_int (P := Try.prog) (k := k) t e ht hi hsz A c xs a h0 hm hc
  refine ⟨_, h2, fun w hw => ?_⟩
  obtain ⟨A2, c2, e2, _, hr⟩ := hw
  simp only [Value.slice.injEq] at e2
  obtain ⟨rfl, _, rfl⟩ := e2
  exact ⟨A', _, rfl, h4, h3 w hr⟩
/-- The sum behind k words. -/
def hk (h : Int) (l : List Int) : Nat → Int
  | 0 => h
  | k + 1 => stirP (hk h l k) (leN ((l.drop (8 * k)).take 8))
theorem oneU8 : ∀ x : Int, (Value.int .u8 x).oneCell' = true := fun _ => rfl
theorem app8 {W : World} {base : Nat} {v u : Value} {xs ys : List Int} (HO : Own (Value.int .u8) W base 5 v xs) (HR : Rd W .u8 u ys) (hbase : base ≤ W.heap.size) (hl : xs.length + ys.length ≤ 140737488355328) :
    ∃ A1 c1 w1, (Builtin.append_ #[37, 37] 37 #[v, u]).run Try.prog W = .ok (.slice A1 (xs ++ ys).length c1) w1 ∧ Own (Value.int .u8) w1 base 5 (.slice A1 (xs ++ ys).length c1) (xs ++ ys) ∧ W.grownBy w1 v.ownBlock ∧ ((Value.slice A1 (xs ++ ys).length c1).ownBlock = v.ownBlock ∨ ∃ b, (Value.slice A1 (xs ++ ys).length c1).ownBlock = some b ∧ W.heap.size ≤ b) := by
  obtain ⟨v1, w1, hr, hO, hg, hat⟩ := app_run (P := Try.prog) (Value.int .u8) (0 : Int) oneU8 37 37 5 (.int .u8 0) 1 Try.underlying37 infoU8 rfl (by omega) HO HR hbase (by omega)
  obtain ⟨A1, c1, rfl⟩ := own_slice hO
  exact ⟨A1, c1, w1, hr, hO, hg, hat⟩
theorem rd_old' {w : World} {k : IntKind} {u : Value} {xs : List Int} (h : Rd w k u xs) {A : Addr} {n c : Nat} (e : u = .slice (some A) n c) (hpos : 0 < xs.length) : A.block < w.heap.size := by
  obtain ⟨A2, c2, e2, _, hr⟩ := h
  rw [e] at e2
  simp only [Value.slice.injEq] at e2
  obtain ⟨rfl, _, _⟩ := e2
  obtain ⟨ad, e3, hc⟩ := hr.2.2 hpos
  simp only [Option.some.injEq] at e3
  subst e3
  have := World.block_lt_of_cell? w _ (hc 0 hpos)
  rwa [add_block] at this
theorem Rd.kp' {w w1 : World} {k : IntKind} {u : Value} {xs : List Int} {S : Nat → Prop} (h : Rd w k u xs) (hk : Kp S w w1) (hS : ∀ (A : Addr) n c, u = .slice (some A) n c → 0 < xs.length → ¬ S A.block) : Rd w1 k u xs :=
  RdE.move (enc := Value.int k) (d := (0 : Int)) h (fun A ⟨n, c, e, hp⟩ => hk.block _ (rd_old' h e hp) (hS A n c e hp))
end Go.Proofs.Ytplmdgimodgekaa
