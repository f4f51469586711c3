import Derived.Test.YtigdchfjcfljjaaProg
import Derived.Below
import Derived.Deep.Draws
import Derived.Deep.AppendLies
import Derived.Maps.AppendAt
import Derived.OwnWalk
import Derived.Laws.BytesArg
import Derived.Laws.MakeOwn
import Derived.Laws.OwnMore
import Derived.Deep.OwnRows
import Derived.Tactics
import Derived.Lib.ConvBytes
import Derived.Laws.Slices
import Derived.WalkKit
import Derived.KernelRfl
import Derived.RowKit3
import Derived.Deep.LoopGhost
import Derived.Deep.QuietTactic
import Derived.BigQuiet
import Derived.WideLaws
import Derived.Deep.DeepCutAuto
import Derived.Deep.CutBlock
import Derived.Deep.RegionHeld3
import Derived.Laws.Rows
import Derived.Lib.AppendStr
import Derived.ArgAppend
import Derived.Laws.IdiomCopy
import Derived.OrdersHeld
import Derived.Laws.BitsLemmas
import Derived.RowKit
import Derived.Test.YtigdchfjcfljjaaWWords
import Derived.Test.YtigdchfjcfljjaaWLast
import Derived.Test.YtigdchfjcfljjaaWMore
import Derived.Test.YtigdchfjcfljjaaWKept
import Derived.Test.YtigdchfjcfljjaaWAt
import Derived.OpenShut
import Derived.Outline
import Derived.Laws.BitsAllLaws
import Derived.Lib.AppendZerosOnto
import Derived.Laws.CopyOwn
import Derived.WalkSpells
import Derived.Lib.SliceRun
import Derived.Lib.SlBytesConst
import Derived.Lib.SmallJoins
set_option linter.unusedVariables false
set_option linter.unusedSimpArgs false
section
/- Imports and small facts that all of my texts over this translation use. -/
namespace Go.Proofs.Ytigdchfjcfljjaa
open Go.RowKit Go.Proofs.YtigdchfjcfljjaaW.PrintWords Go.Proofs.YtigdchfjcfljjaaW.PrintLast Go.Proofs.YtigdchfjcfljjaaW.PrintMore
theorem R_cap {α : Type} {enc : α → Value} {h1 : ∀ x, (enc x).oneCell' = true} (w : World) (base : Nat) (e : TypeId) (cs : Array Value) (n : Nat) (hb : base ≤ w.heap.size) (hc : cs.size = n) (hn : n ≤ 4096) :
    (Kd.scalar enc h1).R e (w.alloc (.cells cs e)) base (fun _ => True) (.slice (some ⟨w.heap.size, 0, none⟩) 0 n) [] := by
  refine ⟨fun _ _ => trivial, [], ⟨by simp, .inr ⟨w.heap.size, n, cs, by simp, hb, blk_new w _, by simp, by unfold maxLen; omega, ?_, by simp⟩⟩, Reps.none _ _⟩
  simp [Kd.scalar, hc]
theorem div_step (n : Int) (k : Nat) (y : Int) (h : n / 256 ^ k = y) : y / 256 = n / 256 ^ (k + 1) := by
  rw [← h, Int.ediv_ediv_of_nonneg (Int.pow_nonneg (by omega)), Int.pow_succ]
theorem infoU8 : (Try.prog.info? 5).map (fun i => (i.zero, i.size, i.bytes)) = some (some (.int .u8 0), 1, 1) := by kernel_rfl
theorem set_twice (a : Array Value) (i : Nat) (u v : Value) : (a.setIfInBounds i u).setIfInBounds i v = a.setIfInBounds i v := by
  apply Array.ext_getElem?
  intro j
  simp only [Array.getElem?_setIfInBounds, Array.size_setIfInBounds]
  split <;> simp_all
end Go.Proofs.Ytigdchfjcfljjaa
end
section
/- A slice of numbers that is read, whatever its make; small facts on numbers. -/
namespace Go.Proofs.Ytigdchfjcfljjaa
open Go.RowKit Go.Proofs.YtigdchfjcfljjaaW.PrintWords Go.Proofs.YtigdchfjcfljjaaW.PrintLast Go.Proofs.YtigdchfjcfljjaaW.PrintMore
/-- The value v reads as the numbers xs. -/
def Rd (w : World) (k : IntKind) (v : Value) (xs : List Int) : Prop := ∃ A c, v = .slice A xs.length c ∧ xs.length ≤ c ∧ ReadsInt w k A xs.length xs
theorem Rd.below {w w1 : World} {k : IntKind} {v : Value} {xs : List Int} (h : Rd w k v xs) (hb : Below w.heap.size w w1) : Rd w1 k v xs := by
  obtain ⟨A, c, e, hc, hr⟩ := h
  exact ⟨A, c, e, hc, hr.below hb⟩
theorem Rd.nil (w : World) (k : IntKind) : Rd w k (.slice none 0 0) [] := ⟨none, 0, rfl, Nat.le_refl _, ReadsInt.nil w k⟩
theorem Rd.lit (w : World) (k : IntKind) (e : TypeId) (xs : List Int) (hm : xs.length ≤ 9223372036854775807) : Rd (w.alloc (.cells (nums k xs).toArray e)) k (.slice (some ⟨w.heap.size, 0, none⟩) xs.length xs.length) xs :=
  ⟨_, _, rfl, Nat.le_refl _, own_reads' (own_lit w 0 e k xs (Nat.zero_le _) hm)⟩
/-- An element, as the walk's load asks for it. -/
theorem rd_at {w : World} {k : IntKind} {A : Option Addr} {n : Nat} {xs : List Int} (h : ReadsInt w k A n xs) (i : Nat) (hi : i < n) : ∃ ad, A = some ad ∧ w.cell? (ad.add i) = some (.int k (xs.getD i 0)) := h.2.2 (by omega) |>.elim fun ad ⟨e, hc⟩ => ⟨ad, e, hc i hi⟩
def isB (l : List Int) : Prop := ∀ x ∈ l, 0 ≤ x ∧ x ≤ 255
theorem isB.getD {l : List Int} (h : isB l) (i : Nat) : 0 ≤ l.getD i 0 ∧ l.getD i 0 ≤ 255 := by
  rw [List.getD_eq_getElem?_getD]
  cases e : l[i]? with
  | none => simp
  | some x => exact h x (List.mem_of_getElem? e)
theorem isB.drop {l : List Int} (h : isB l) (i : Nat) : isB (l.drop i) := fun x hx => h x (List.mem_of_mem_drop hx)
theorem isB.take {l : List Int} (h : isB l) (i : Nat) : isB (l.take i) := fun x hx => h x (List.mem_of_mem_take hx)
theorem isB.app {l m : List Int} (h : isB l) (h' : isB m) : isB (l ++ m) := fun x hx => (List.mem_append.1 hx).elim (h x) (h' x)
theorem u8_inj {x y : Int} (hx : 0 ≤ x ∧ x ≤ 255) (hy : 0 ≤ y ∧ y ≤ 255) (h : UInt8.ofNat x.toNat = UInt8.ofNat y.toNat) : x = y := by
  have := congrArg UInt8.toNat h
  simp at this
  omega
theorem map_inj : ∀ {l m : List Int}, isB l → isB m → (l.map fun n => UInt8.ofNat n.toNat) = (m.map fun n => UInt8.ofNat n.toNat) → l = m
  | [], [], _, _, _ => rfl
  | [], _ :: _, _, _, h => by simp at h
  | _ :: _, [], _, _, h => by simp at h
  | x :: l, y :: m, hl, hm, h => by
    simp only [List.map_cons, List.cons.injEq] at h
    rw [u8_inj (hl x (by simp)) (hm y (by simp)) h.1, map_inj (fun z hz => hl z (by simp [hz])) (fun z hz => hm z (by simp [hz])) h.2]
theorem strOfNums_toList' (xs : List Int) : (strOfNums xs).toList = xs.map fun n => UInt8.ofNat n.toNat := by rw [ByteArray.toList_eq]; rfl
theorem same_iff {l m : List Int} (hl : isB l) (hm : isB m) : ((strOfNums l).toList == (strOfNums m).toList) = decide (l = m) := by
  rw [strOfNums_toList', strOfNums_toList']
  by_cases e : l = m
  · subst e; simp
  · rw [decide_eq_false e, beq_eq_false_iff_ne]
    exact fun h => e (map_inj hl hm h)
theorem and7 (n : Int) : bits .and .i64 n 7 = n % 8 := by
  have h7 : (BitVec.ofInt 64 7).toNat = 2 ^ 3 - 1 := by decide
  have key : (BitVec.ofInt 64 n &&& BitVec.ofInt 64 7).toNat = (n % ((2 ^ 64 : Nat) : Int)).toNat % 2 ^ 3 := by
    rw [BitVec.toNat_and, BitVec.toNat_ofInt, h7, Nat.and_two_pow_sub_one_eq_mod]
  show IntKind.i64.wrap ((BitVec.ofInt 64 n &&& BitVec.ofInt 64 7).toNat : Nat) = n % 8
  rw [key, IntKind.wrap_i64]
  omega
theorem pow_nat (i : Nat) : ((2 : Int) ^ i) = ((2 ^ i : Nat) : Int) := by rw [Int.natCast_pow]; rfl
/-- The low bits and the high ones: or is sum. -/
theorem or_u64 (a b : Int) (i : Nat) (h1 : 0 ≤ a) (h2 : a * 2 ^ i < 18446744073709551616) (h3 : 0 ≤ b) (h4 : b < 2 ^ i) (h5 : b < 18446744073709551616) : bits .or .u64 (a * 2 ^ i) b = a * 2 ^ i + b := by
  obtain ⟨x, rfl⟩ := Int.eq_ofNat_of_zero_le h1
  obtain ⟨y, rfl⟩ := Int.eq_ofNat_of_zero_le h3
  rw [pow_nat] at h2 h4 ⊢
  rw [show (x : Int) * ((2 ^ i : Nat) : Int) = ((x * 2 ^ i : Nat) : Int) from (Int.natCast_mul _ _).symm] at h2 ⊢
  rw [u64_or_nat _ _ (by omega) (by omega), nat_join i _ _ (Nat.mul_mod_left _ _) (by omega)]
  omega
end Go.Proofs.Ytigdchfjcfljjaa
end
section
/- Slices of one-cell values that are the call's own: read, appended to, kept. A block's content. What a call keeps. -/
namespace Go.Proofs.Ytigdchfjcfljjaa
open Go.RowKit Go.Proofs.YtigdchfjcfljjaaW.PrintWords Go.Proofs.YtigdchfjcfljjaaW.PrintLast Go.Proofs.YtigdchfjcfljjaaW.PrintMore
/-- The value v is a slice of the call's own, from block base on, of elements of type e: xs. -/
def Own {α : Type} (enc : α → Value) (W : World) (base e : Nat) (v : Value) (xs : List α) : Prop := W.ownsRow base e 1 v xs.length (encs enc xs)
/-- The value v reads as xs. -/
def RdE {α : Type} (enc : α → Value) (d : α) (W : World) (v : Value) (xs : List α) : Prop := ∃ A c, v = .slice A xs.length c ∧ xs.length ≤ c ∧ ReadsOf enc d W A xs.length xs
theorem rdE_int {w : World} {k : IntKind} {v : Value} {xs : List Int} : RdE (Value.int k) (0 : Int) w v xs ↔ Rd w k v xs := Iff.rfl
section
variable {α : Type} {enc : α → Value} {d : α} {W W' : World} {base e : Nat} {v u : Value} {xs ys : List α}
theorem Own.nil (enc : α → Value) (W : World) (base e : Nat) : Own enc W base e (.slice none 0 0) [] := own_nil W base e 1
theorem Own.rdE (h : Own enc W base e v xs) (d : α) : RdE enc d W v xs := by
  obtain ⟨A, c, e1, hc, hr⟩ := own_reads_of_le (d := d) h
  exact ⟨A, c, e1, hc, hr⟩
theorem Own.rd {k : IntKind} {v : Value} {xs : List Int} (h : Own (Value.int k) W base e v xs) : Rd W k v xs := Own.rdE h 0
theorem Own.move (h : Own enc W base e v xs) (hm : ∀ k, v.ownBlock = some k → W'.heap[k]? = W.heap[k]?) : Own enc W' base e v xs := own_move h hm
theorem Own.lt (h : Own enc W base e v xs) {k : Nat} (hk : v.ownBlock = some k) : k < W.heap.size := own_lt h k hk
theorem Own.ge (h : Own enc W base e v xs) {k : Nat} (hk : v.ownBlock = some k) : base ≤ k := own_base h k hk
theorem Own.below (h : Own enc W base e v xs) (hb : Below W.heap.size W W') : Own enc W' base e v xs := h.move fun k hk => hb.block k (h.lt hk)
theorem Own.weaken {b : Nat} (h : Own enc W base e v xs) (hb : b ≤ base) : Own enc W b e v xs := own_weaken h hb
theorem Own.of_R {h1 : ∀ x, (enc x).oneCell' = true} {ok : Nat → Prop} (h : (Kd.scalar enc h1).R e W base ok v xs) : Own enc W base e v xs := Kd.own_of_R h
/-- Its block is none that holds another type. -/
theorem Own.ne {g t : Nat} {cs : Array Value} (h : Own enc W base e v xs) (hg : W.heap[g]? = some (.cells cs t (0, 0))) (hne : e ≠ t) : v.ownBlock ≠ some g := fun hk => by
  obtain ⟨c, hc⟩ := own_typed h g hk
  rw [hg] at hc
  injection hc with hc
  injection hc with _ hc
  exact hne hc.symm
theorem Own.rdE' (h : Own enc W base e v xs) (d : α) : ∃ A c, v = .slice A xs.length c ∧ xs.length ≤ c ∧ xs.length ≤ 9223372036854775807 ∧ ReadsOf enc d W A xs.length xs := by
  obtain ⟨A, c, e1, hc, hr⟩ := h.rdE d
  exact ⟨A, c, e1, hc, hr.2.1, hr⟩
theorem RdE.move (h : RdE enc d W v xs) (hm : ∀ A : Addr, (∃ n c, v = .slice (some A) n c ∧ 0 < xs.length) → W'.heap[A.block]? = W.heap[A.block]?) : RdE enc d W' v xs := by
  obtain ⟨A, c, rfl, hc, h1, h2, h3⟩ := h
  refine ⟨A, c, rfl, hc, h1, h2, fun hn => ?_⟩
  obtain ⟨ad, rfl, hcell⟩ := h3 hn
  refine ⟨ad, rfl, fun j hj => ?_⟩
  have hb := hm ad ⟨_, _, rfl, hn⟩
  have := hcell j hj
  simp only [World.cell?, add_block] at this ⊢
  rw [hb]; exact this
theorem RdE.below (h : RdE enc d W v xs) (hb : Below W.heap.size W W') : RdE enc d W' v xs := by
  obtain ⟨A, c, e1, hc, hr⟩ := h
  exact ⟨A, c, e1, hc, hr.below hb⟩
end
/-- append: what is read, behind what is the call's own. -/
theorem app_run {P : Program} {α : Type} (enc : α → Value) (d : α) (h1 : ∀ x, (enc x).oneCell' = true) (t ty e : TypeId) (z : Value) (bytes : Nat) (ht : P.underlying t = some (.slice e)) (hinfo : (P.info? e).map (fun i => (i.zero, i.size, i.bytes)) = some (some z, 1, bytes)) (hz : z.cells.size = 1) (hb0 : 0 < bytes)
    {W : World} {base : Nat} {v u : Value} {xs ys : List α} (HO : Own enc W base e v xs) (HR : RdE enc d W u ys) (hbase : base ≤ W.heap.size) (hl : (xs.length + ys.length) * bytes ≤ 140737488355328) :
    ∃ v1 w1, (Builtin.append_ #[t, t] ty #[v, u]).run P W = .ok v1 w1 ∧ Own enc w1 base e v1 (xs ++ ys) ∧ W.grownBy w1 v.ownBlock ∧ (v1.ownBlock = v.ownBlock ∨ ∃ b, v1.ownBlock = some b ∧ W.heap.size ≤ b) := by
  obtain ⟨A, c, rfl, hc, HR⟩ := HR
  obtain ⟨i0, hi, hzz⟩ := Option.map_eq_some_iff.1 hinfo
  simp only [Prod.mk.injEq] at hzz
  obtain ⟨hz0, hz1, hz2⟩ := hzz
  have hlen : xs.length + ys.length ≤ 140737488355328 := Nat.le_trans (Nat.le_mul_of_pos_right _ hb0) hl
  rcases A with _ | ad
  · have h0 : ys.length = 0 := by
      rcases Nat.eq_zero_or_pos ys.length with h0 | h0
      · exact h0
      · obtain ⟨ad, h, _⟩ := HR.2.2 h0
        cases h
    obtain rfl : ys = [] := List.eq_nil_of_length_eq_zero h0
    refine ⟨v, W, ?_, by simpa using HO, World.grownBy.refl W _, .inl rfl⟩
    rcases HO.2 with ⟨rfl, hn⟩ | ⟨g, cap, cur, rfl, _, _, hnc, _⟩
    · simp [Builtin.append_, run_underlying ht, sizeOf, typeInfo, hi, Builtin.lenOf, Builtin.firstCells]
    · simp [Builtin.append_, run_underlying ht, sizeOf, typeInfo, hi, Builtin.lenOf, Builtin.firstCells, hnc, storeCells]
  · have hcells : ∀ j u, (encs enc ys)[j]? = some u → W.cell? (ad.add j) = some u := by
      intro j u hu
      have hj : j < ys.length := by
        rcases Nat.lt_or_ge j ys.length with h | h
        · exact h
        · simp [encs, List.getElem?_eq_none h] at hu
      obtain ⟨ad', h', hc⟩ := HR.2.2 (by omega)
      injection h' with h'
      subst h'
      rw [encs_get (d := d) ys j hj] at hu
      rw [← hu]
      exact hc j (by omega)
    obtain ⟨v1, w1, hr, h2, h3, _, h5⟩ := run_append_own_at (P := P) W base t ty e i0 z 1 bytes ht hi hz0 hz1 hz2 hz (by omega) v xs.length (encs enc xs) HO ad ys.length c (encs enc ys) (by simp [encs]) hcells
      (by intro u hu; simp only [encs, List.mem_map] at hu; obtain ⟨q, _, rfl⟩ := hu; exact h1 q) (by simp only [maxLen]; omega) hl hbase
    refine ⟨v1, w1, hr, ?_, h3, ?_⟩
    · unfold Own; simpa [encs] using h2
    · rcases h5 with h5 | h5
      · exact .inl h5
      · exact .inr ⟨_, h5, Nat.le_refl _⟩
theorem lit_rdE {α : Type} (enc : α → Value) (d : α) (W : World) (e : TypeId) (xs : List α) (hm : xs.length ≤ 9223372036854775807) : RdE enc d (W.alloc (.cells (encs enc xs).toArray e)) (.slice (some ⟨W.heap.size, 0, none⟩) xs.length xs.length) xs :=
  Own.rdE (own_lit_of W 0 e xs (Nat.zero_le _) hm) d
/-! ### What a call keeps: all blocks that were there but g and row. -/
theorem kb_of_below {w w' : World} (h : Below w.heap.size w w') (g : Nat) (row : Option Nat) : KeepBut w w' g row := KeepBut.of_below h g row
theorem kb_blk {w w' : World} {g : Nat} {row : Option Nat} (h : KeepBut w w' g row) {b : Nat} {o : Obj} (hb : w.heap[b]? = some o) (h1 : b ≠ g) (h2 : row ≠ some b) : w'.heap[b]? = some o := h.blk hb h1 (fun e => h2 e.symm)
end Go.Proofs.Ytigdchfjcfljjaa
end
section
/- What a call keeps: every block that was there but those of S. -/
namespace Go.Proofs.Ytigdchfjcfljjaa
open Go.RowKit Go.Proofs.YtigdchfjcfljjaaW.PrintWords Go.Proofs.YtigdchfjcfljjaaW.PrintLast Go.Proofs.YtigdchfjcfljjaaW.PrintMore
structure Kp (S : Nat → Prop) (w w' : World) : Prop where
  os : w'.os = w.os
  tape : w'.tape = w.tape
  output : w'.output = w.output
  size : w.heap.size ≤ w'.heap.size
  block : ∀ k, k < w.heap.size → ¬ S k → w'.heap[k]? = w.heap[k]?
section
variable {S S1 : Nat → Prop} {w w0 w1 w2 : World}
theorem Kp.refl (S : Nat → Prop) (w : World) : Kp S w w := ⟨rfl, rfl, rfl, Nat.le_refl _, fun _ _ _ => rfl⟩
theorem Kp.of_below (h : Below w.heap.size w w1) (S : Nat → Prop) : Kp S w w1 := ⟨h.os, h.tape, h.output, h.size, fun k hk _ => h.block k hk⟩
theorem Kp.to_below (h : Kp S w w1) (hS : ∀ k, S k → w.heap.size ≤ k) : Below w.heap.size w w1 := ⟨h.os, h.tape, h.output, h.size, fun k hk => h.block k hk (fun hs => by have := hS k hs; omega)⟩
theorem Kp.trans (h : Kp S w w1) (h1 : Kp S1 w1 w2) (hS : ∀ k, S1 k → S k ∨ w.heap.size ≤ k) : Kp S w w2 :=
  ⟨h1.os.trans h.os, h1.tape.trans h.tape, h1.output.trans h.output, Nat.le_trans h.size h1.size, fun k hk hn => (h1.block k (Nat.lt_of_lt_of_le hk h.size) (fun hs => (hS k hs).elim hn (fun hh => by omega))).trans (h.block k hk hn)⟩
theorem Kp.mono (h : Kp S w w1) (hS : ∀ k, S k → S1 k) : Kp S1 w w1 := ⟨h.os, h.tape, h.output, h.size, fun k hk hn => h.block k hk (fun hs => hn (hS k hs))⟩
theorem Kp.of_grown {row : Option Nat} (h : w.grownBy w1 row) : Kp (fun k => row = some k) w w1 := ⟨h.os, h.tape, h.output, h.size, fun k hk hn => h.block k hk (fun e => hn e.symm)⟩
theorem Kp.set (w : World) (p : Addr) (u : Value) : Kp (fun k => k = p.block) w (w.setCell p u) := ⟨rfl, rfl, rfl, by simp [World.setCell], fun k _ hn => Below.heap_setCell w p u k (fun e => hn e)⟩
theorem Kp.drew (h : Kp S w w1) : Kp S w w1.drew := ⟨h.os, h.tape, h.output, h.size, h.block⟩
theorem Kp.drewN (h : Kp S w w1) (n : Nat) : Kp S w (w1.drewN n) := h.trans (Kp.of_below (w := w1) (w1 := w1.drewN n) (pw_below_drewN (Below.refl w1.heap.size w1) n) (fun _ => False)) (fun _ hk => hk.elim)
theorem Kp.below (h : Kp S w w1) (hb : Below w1.heap.size w1 w2) : Kp S w w2 := h.trans (Kp.of_below hb (fun _ => False)) (fun _ hk => hk.elim)
theorem Kp.alloc (h : Kp S w w1) (o : Obj) : Kp S w (w1.alloc o) := h.below (below_alloc (Below.refl _ _) o)
/-- Behind a start from which on all is new. -/
theorem Kp.from (h0 : Below w0.heap.size w0 w) (h : Kp S w w1) (hS : ∀ k, S k → w0.heap.size ≤ k) : Below w0.heap.size w0 w1 :=
  ⟨h.os.trans h0.os, h.tape.trans h0.tape, h.output.trans h0.output, Nat.le_trans h0.size h.size, fun k hk => (h.block k (Nat.lt_of_lt_of_le hk h0.size) (fun hs => by have := hS k hs; omega)).trans (h0.block k hk)⟩
theorem Kp.blk {b : Nat} {o : Obj} (h : Kp S w w1) (hb : w.heap[b]? = some o) (hn : ¬ S b) : w1.heap[b]? = some o := (h.block b (blk_lt hb) hn).trans hb
theorem Kp.own {α : Type} {enc : α → Value} {base e : Nat} {v : Value} {xs : List α} (h : Kp S w w1) (ho : Own enc w base e v xs) (hn : ∀ k, v.ownBlock = some k → ¬ S k) : Own enc w1 base e v xs :=
  ho.move fun k hk => h.block k (ho.lt hk) (hn k hk)
theorem blk_cell0 {w : World} {g t : Nat} {v : Value} (h : w.heap[g]? = some (.cells #[v] t (0, 0))) : w.cell? ⟨g, 0, none⟩ = some v := blk_cell h 0
end
section
variable {P : Program} {ops : Array Oper} {rest : List Oper} {o : Oper} {a : Act} {Q : Exit → Act → World → Prop} {Kc : Act → World → Prop} {W w1 : World} {v u v1 : Value}
/-- append, by its run: in a region that draws. -/
theorem app_step (hw : Region.wanted o (yielded ops a.tmps) = true) (s x : Operand) {t t' : TypeId} (ho : o.op = .call { callee := .builtin .append, args := #[s, x], argTypes := #[t, t'] }) (hs : a.eval s = v) (hx : a.eval x = u)
    (hrun : (Builtin.append_ #[t, t'] o.type #[v, u]).run P W = .ok v1 w1) (h : Kc (a.put o.dst v1) w1) : if Region.wanted o (yielded ops a.tmps) = true then Oper.wp P o a W Kc Q else Kc (a.put o.dst undef) W := by
  rw [if_pos hw]
  unfold Oper.wp execOp
  simp only [ho, resolve, invoke, builtin, Sem.run_bind, Sem.run_pure, Result.andThen_ok, List.map_toArray, List.map_cons, List.map_nil, hs, hx, hrun]
  exact h
/-- append, by its run: in a plain region. -/
theorem app_list (hgd : o.guard = none) (s x : Operand) {t t' : TypeId} (ho : o.op = .call { callee := .builtin .append, args := #[s, x], argTypes := #[t, t'] }) (hs : a.eval s = v) (hx : a.eval x = u)
    (hrun : (Builtin.append_ #[t, t'] o.type #[v, u]).run P W = .ok v1 w1) (h : wpList P ops Q rest (a.put o.dst v1) w1) : wpList P ops Q (o :: rest) a W := by
  refine wpList_plain hgd fun K hK => ?_
  unfold Oper.wp execOp
  simp only [ho, resolve, invoke, builtin, Sem.run_bind, Sem.run_pure, Result.andThen_ok, List.map_toArray, List.map_cons, List.map_nil, hs, hx, hrun]
  exact hK _ _ h
end
end Go.Proofs.Ytigdchfjcfljjaa
end
section
/- Slices of the call's own that may begin inside their block: read, cut, appended to. -/
namespace Go.Proofs.Ytigdchfjcfljjaa
open Go.RowKit Go.Proofs.YtigdchfjcfljjaaW.PrintWords Go.Proofs.YtigdchfjcfljjaaW.PrintLast Go.Proofs.YtigdchfjcfljjaaW.PrintMore
def OwnO {α : Type} (enc : α → Value) (W : World) (base e : Nat) (v : Value) (xs : List α) : Prop :=
  (v = .slice none 0 0 ∧ xs = []) ∨ ∃ g o cap cur, v = .slice (some ⟨g, o, none⟩) xs.length cap ∧ base ≤ g ∧ W.heap[g]? = some (.cells cur e (0, 0)) ∧ xs.length ≤ cap ∧ cap ≤ 9223372036854775807 ∧ o + cap ≤ cur.size ∧ (cur.toList.drop o).take xs.length = encs enc xs
section
variable {α : Type} {enc : α → Value} {d : α} {W W' : World} {base e : Nat} {v u : Value} {xs ys : List α}
theorem OwnO.nil (enc : α → Value) (W : World) (base e : Nat) : OwnO enc W base e (.slice none 0 0) [] := .inl ⟨rfl, rfl⟩
theorem OwnO.of_own (h : Own enc W base e v xs) : OwnO enc W base e v xs := by
  obtain ⟨hl, h⟩ := h
  rcases h with ⟨rfl, h0⟩ | ⟨g, cap, cur, rfl, hb, hg, hn, hm, hc, ht⟩
  · exact .inl ⟨rfl, List.eq_nil_of_length_eq_zero h0⟩
  · exact .inr ⟨g, 0, cap, cur, rfl, hb, hg, hn, by unfold maxLen at hm; omega, by omega, by simpa using ht⟩
theorem OwnO.move (h : OwnO enc W base e v xs) (hm : ∀ k, v.ownBlock = some k → W'.heap[k]? = W.heap[k]?) : OwnO enc W' base e v xs := by
  rcases h with h | ⟨g, o, cap, cur, rfl, hb, hg, r⟩
  · exact .inl h
  · exact .inr ⟨g, o, cap, cur, rfl, hb, (hm g rfl).trans hg, r⟩
theorem OwnO.lt (h : OwnO enc W base e v xs) {k : Nat} (hk : v.ownBlock = some k) : k < W.heap.size := by
  rcases h with ⟨rfl, _⟩ | ⟨g, o, cap, cur, rfl, hb, hg, r⟩
  · cases hk
  · injection hk with hk
    subst hk
    exact blk_lt hg
theorem OwnO.ge (h : OwnO enc W base e v xs) {k : Nat} (hk : v.ownBlock = some k) : base ≤ k := by
  rcases h with ⟨rfl, _⟩ | ⟨g, o, cap, cur, rfl, hb, hg, r⟩
  · cases hk
  · injection hk with hk
    subst hk
    exact hb
theorem OwnO.below (h : OwnO enc W base e v xs) (hb : Below W.heap.size W W') : OwnO enc W' base e v xs := h.move fun k hk => hb.block k (h.lt hk)
theorem OwnO.weaken {b : Nat} (h : OwnO enc W base e v xs) (hb : b ≤ base) : OwnO enc W b e v xs := by
  rcases h with h | ⟨g, o, cap, cur, rfl, hb', hg, r⟩
  · exact .inl h
  · exact .inr ⟨g, o, cap, cur, rfl, by omega, hg, r⟩
theorem OwnO.ne {g t : Nat} {cs : Array Value} (h : OwnO enc W base e v xs) (hg : W.heap[g]? = some (.cells cs t (0, 0))) (hne : e ≠ t) : v.ownBlock ≠ some g := fun hk => by
  rcases h with ⟨rfl, _⟩ | ⟨g', o, cap, cur, rfl, hb', hg', r⟩
  · cases hk
  · injection hk with hk
    subst hk
    rw [hg] at hg'
    injection hg' with hg'
    injection hg' with _ hg'
    exact hne hg'.symm
theorem OwnO.slice (h : OwnO enc W base e v xs) : ∃ A c, v = .slice A xs.length c := by
  rcases h with ⟨rfl, rfl⟩ | ⟨g, o, cap, cur, rfl, _⟩
  · exact ⟨none, 0, rfl⟩
  · exact ⟨_, _, rfl⟩
theorem OwnO.cells {g o n cap : Nat} (h : OwnO enc W base e (.slice (some ⟨g, o, none⟩) n cap) xs) (d : α) (j : Nat) (hj : j < xs.length) : W.cell? ((⟨g, o, none⟩ : Addr).add j) = some (enc (xs.getD j d)) := by
  rcases h with ⟨h, _⟩ | ⟨g', o', cap', cur, h, hb, hg, hn, hm, hs, ht⟩
  · cases h
  · simp only [Value.slice.injEq, Option.some.injEq, Addr.mk.injEq] at h
    obtain ⟨⟨rfl, rfl, _⟩, _, rfl⟩ := h
    rw [Addr.add_lit]
    have := congrArg (fun l => l[j]?) ht
    simp only [List.getElem?_take_of_lt hj, List.getElem?_drop, encs, List.getElem?_map, List.getElem?_eq_getElem hj, Option.map_some] at this
    simp only [World.cell?, hg]
    rw [List.getD_eq_getElem?_getD, List.getElem?_eq_getElem hj]
    simpa using this
theorem OwnO.rdE (h : OwnO enc W base e v xs) (d : α) : RdE enc d W v xs := by
  rcases h with ⟨rfl, rfl⟩ | ⟨g, o, cap, cur, rfl, hb, hg, hn, hm, hs, ht⟩
  · exact ⟨none, 0, rfl, Nat.le_refl _, rfl, by simp, fun h => by simp at h⟩
  · exact ⟨_, _, rfl, hn, rfl, by omega, fun _ => ⟨_, rfl, fun j hj => OwnO.cells (W := W) (.inr ⟨g, o, cap, cur, rfl, hb, hg, hn, hm, hs, ht⟩) d j hj⟩⟩
theorem OwnO.rd {k : IntKind} {v : Value} {xs : List Int} (h : OwnO (Value.int k) W base e v xs) : Rd W k v xs := OwnO.rdE h 0
end
/-- append: what is read, behind what is the call's own. -/
theorem app_runO {P : Program} {α : Type} (enc : α → Value) (d : α) (h1 : ∀ x, (enc x).oneCell' = true) (t ty e : TypeId) (z : Value) (bytes : Nat) (ht : P.underlying t = some (.slice e)) (hinfo : (P.info? e).map (fun i => (i.zero, i.size, i.bytes)) = some (some z, 1, bytes)) (hz : z.cells.size = 1) (hb0 : 0 < bytes)
    {W : World} {base : Nat} {v u : Value} {xs ys : List α} (HO : OwnO enc W base e v xs) (HR : RdE enc d W u ys) (hbase : base ≤ W.heap.size) (hl : (xs.length + ys.length) * bytes ≤ 140737488355328) :
    ∃ v1 w1, (Builtin.append_ #[t, t] ty #[v, u]).run P W = .ok v1 w1 ∧ OwnO enc w1 base e v1 (xs ++ ys) ∧ W.grownBy w1 v.ownBlock ∧ (v1.ownBlock = v.ownBlock ∨ ∃ b, v1.ownBlock = some b ∧ W.heap.size ≤ b) := by
  rcases HO with ⟨rfl, rfl⟩ | ⟨g, o, cap, cur, rfl, hb, hg, hn, hm, hs, htk⟩
  · obtain ⟨v1, w1, a, b, c, d'⟩ := app_run (P := P) enc d h1 t ty e z bytes ht hinfo hz hb0 (Own.nil enc W base e) HR hbase hl
    exact ⟨v1, w1, a, .of_own b, c, d'⟩
  · have HO : OwnO enc W base e (.slice (some ⟨g, o, none⟩) xs.length cap) xs := .inr ⟨g, o, cap, cur, rfl, hb, hg, hn, hm, hs, htk⟩
    obtain ⟨A, c, rfl, hc, HR⟩ := HR
    obtain ⟨i, hi, hzz⟩ := Option.map_eq_some_iff.1 hinfo
    simp only [Prod.mk.injEq] at hzz
    obtain ⟨hz0, hz1, hz2⟩ := hzz
    have hlen : xs.length + ys.length ≤ 140737488355328 := Nat.le_trans (Nat.le_mul_of_pos_right _ hb0) hl
    rcases A with _ | ad
    · have h0 : ys.length = 0 := by
        rcases Nat.eq_zero_or_pos ys.length with h0 | h0
        · exact h0
        · obtain ⟨ad, h, _⟩ := HR.2.2 h0
          cases h
      obtain rfl : ys = [] := List.eq_nil_of_length_eq_zero h0
      refine ⟨_, W, ?_, by simpa using HO, World.grownBy.refl W _, .inl rfl⟩
      simp [Builtin.append_, run_underlying ht, sizeOf, typeInfo, hi, Builtin.lenOf, Builtin.firstCells, hn, storeCells]
    · have hcells : ∀ j u, (encs enc ys)[j]? = some u → W.cell? (ad.add j) = some u := by
        intro j u hu
        have hj : j < ys.length := by
          rcases Nat.lt_or_ge j ys.length with h | h
          · exact h
          · simp [encs, List.getElem?_eq_none h] at hu
        obtain ⟨ad', h', hc⟩ := HR.2.2 (by omega)
        injection h' with h'
        subst h'
        rw [encs_get (d := d) ys j hj] at hu
        rw [← hu]
        exact hc j (by omega)
      have hone : ∀ u ∈ encs enc ys, u.oneCell' = true := by intro u hu; simp only [encs, List.mem_map] at hu; obtain ⟨q, _, rfl⟩ := hu; exact h1 q
      have hly : (encs enc ys).length = ys.length := by simp [encs]
      have hlx : (encs enc xs).length = xs.length := by simp [encs]
      by_cases hroom : xs.length + ys.length ≤ cap
      · have hfc := run_firstCells_some (P := P) W i.size ys.length ad ys.length c (encs enc ys) (by rw [hz1, hly]; omega) hcells
        have hst := run_storeCells_at P g (o + xs.length) e (encs enc ys) 0 cur W hg (by rw [hly]; omega) hone
        simp only [Nat.add_zero] at hst
        rw [hz1] at hfc
        have hcl : cur.toList.length = cur.size := Array.length_toList
        have hon : o + xs.length ≤ cur.toList.length := by omega
        have e2 : (List.take (o + xs.length) cur.toList).length = o + xs.length := by rw [List.length_take]; omega
        refine ⟨.slice (some ⟨g, o, none⟩) (xs.length + ys.length) cap, W.setRow g (cur.toList.take (o + xs.length) ++ encs enc ys ++ cur.toList.drop (o + xs.length + (encs enc ys).length)).toArray, ?_, .inr ⟨g, o, cap, (cur.toList.take (o + xs.length) ++ encs enc ys ++ cur.toList.drop (o + xs.length + (encs enc ys).length)).toArray, by rw [List.length_append], hb, setRow_heap W g cur _ e _ hg, by rw [List.length_append]; exact hroom, hm, ?_, ?_⟩, ⟨rfl, rfl, rfl, by simp, fun k _ hk => setRow_other W g k _ (fun e => hk (by simp [Value.ownBlock, e]))⟩, .inl rfl⟩
        · simp [Builtin.append_, run_underlying ht, sizeOf, typeInfo, hi, Builtin.lenOf, hroom, hfc, Addr.add_lit, hz1, hst]
        · simp only [List.size_toArray, List.length_append, List.length_take, List.length_drop, Array.length_toList, hly]
          omega
        · have e1 : (List.take (o + xs.length) cur.toList).drop o = encs enc xs := by rw [List.drop_take, Nat.add_sub_cancel_left, htk]
          simp only [List.append_assoc]
          rw [List.drop_append_of_le_length (by rw [e2]; omega), e1, ← List.append_assoc, List.take_append_of_le_length (by rw [List.length_append, List.length_append, hly, hlx]; omega), List.take_of_length_le (by rw [List.length_append, List.length_append, hly, hlx]; omega), encs, encs, encs, List.map_append]
      · obtain ⟨v', w', hr, hO, hg'⟩ := run_append_arg_grows (P := P) W t ty e i z 1 bytes ht hi hz0 hz1 hz2 hz (by omega) ⟨g, o, none⟩ xs.length cap (encs enc xs) (by rw [hlx]; omega)
          (fun j u hu => by
            have hj : j < xs.length := by rw [← hlx]; exact (List.getElem?_eq_some_iff.1 hu).1
            rw [encs_get (d := d) xs j hj] at hu
            rw [← hu]
            exact HO.cells d j hj)
          ad ys.length c (encs enc ys) (by rw [hly]; omega) hcells (by omega) (by simp only [maxLen]; omega) hl
        have hO' : Own enc w' W.heap.size e v' (xs ++ ys) := by unfold Own; simpa [encs] using hO
        have hO2 := OwnO.of_own hO'
        refine ⟨v', w', hr, hO2.weaken hbase, ⟨hg'.os, hg'.tape, hg'.output, hg'.size, fun k hk _ => hg'.block k hk (by simp)⟩, ?_⟩
        cases hv : v'.ownBlock with
        | none =>
          exfalso
          rcases hO2 with ⟨rfl, h0⟩ | ⟨g1, o1, c1, cur1, rfl, _⟩
          · have := congrArg List.length h0
            rw [List.length_append, List.length_nil] at this
            omega
          · cases hv
        | some b => exact .inr ⟨b, rfl, hO'.ge hv⟩
end Go.Proofs.Ytigdchfjcfljjaa
end
section
/- append, by its run: one element, some, a slice: at any type, at any offset. A world gets a name. -/
namespace Go.Proofs.Ytigdchfjcfljjaa
open Go.RowKit Go.Proofs.YtigdchfjcfljjaaW.PrintWords Go.Proofs.YtigdchfjcfljjaaW.PrintLast Go.Proofs.YtigdchfjcfljjaaW.PrintMore
theorem at_w {P : Program} {n : Nat} {a : Array Value} {W : World} {Q : Ending → World → Prop} (h : ∀ wx, wx = W → Calls P n a wx Q) : Calls P n a W Q := h W rfl
/-- append: some elements, laid into a block ahead of it. -/
theorem app_lits {P : Program} {α : Type} {enc : α → Value} {d : α} (h1 : ∀ x, (enc x).oneCell' = true) {t ty e : TypeId} {z : Value} {bytes : Nat} (ht : P.underlying t = some (.slice e)) (hinfo : (P.info? e).map (fun i => (i.zero, i.size, i.bytes)) = some (some z, 1, bytes)) (hz : z.cells.size = 1) (hb0 : 0 < bytes)
    {W : World} {base : Nat} {v : Value} {xs : List α} (ys : List α) {cs : Array Value} (hcs : cs = (encs enc ys).toArray) {k m : Nat} (HO : OwnO enc W base e v xs) (hk : xs.length = k) (hm : ys.length = m) (hbase : base ≤ W.heap.size) (hl : (k + m) * bytes ≤ 140737488355328) :
    ∃ A1 c1 w1, (Builtin.append_ #[t, t] ty #[v, .slice (some ⟨W.heap.size, 0, none⟩) m m]).run P (W.alloc (.cells cs e)) = .ok (.slice A1 (k + m) c1) w1 ∧ OwnO enc w1 base e (.slice A1 (k + m) c1) (xs ++ ys) ∧ Kp (fun b => v.ownBlock = some b) W w1 ∧ ((Value.slice A1 (k + m) c1).ownBlock = v.ownBlock ∨ ∃ b, (Value.slice A1 (k + m) c1).ownBlock = some b ∧ W.heap.size ≤ b) := by
  subst hcs
  subst hk
  subst hm
  have hlm : (xs.length + ys.length) ≤ 140737488355328 := Nat.le_trans (Nat.le_mul_of_pos_right _ hb0) hl
  have hL : RdE enc d (W.alloc (.cells (encs enc ys).toArray e)) (.slice (some ⟨W.heap.size, 0, none⟩) ys.length ys.length) ys := lit_rdE enc d W e ys (by omega)
  obtain ⟨v1, w1, hr, hO, hg, hat⟩ := app_runO (P := P) enc d h1 t ty e z bytes ht hinfo hz hb0 (HO.below (below_alloc (Below.refl _ _) (.cells (encs enc ys).toArray e))) hL (by simp; omega) hl
  obtain ⟨A1, c1, rfl⟩ : ∃ A c, v1 = .slice A (xs.length + ys.length) c := by
    obtain ⟨A, c, e1, _⟩ := hO.rdE d
    exact ⟨A, c, by rw [e1, List.length_append]⟩
  refine ⟨A1, c1, w1, hr, hO, ?_, ?_⟩
  · exact (Kp.of_below (below_alloc (Below.refl _ _) _) _).trans (Kp.of_grown hg) (fun k hk => .inl hk)
  · rcases hat with h | ⟨b, h, hb⟩
    · exact .inl h
    · exact .inr ⟨b, h, by simp at hb; omega⟩
/-- append: a slice that reads. -/
theorem app_rd {P : Program} {α : Type} {enc : α → Value} {d : α} (h1 : ∀ x, (enc x).oneCell' = true) {t ty e : TypeId} {z : Value} {bytes : Nat} (ht : P.underlying t = some (.slice e)) (hinfo : (P.info? e).map (fun i => (i.zero, i.size, i.bytes)) = some (some z, 1, bytes)) (hz : z.cells.size = 1) (hb0 : 0 < bytes)
    {W : World} {base : Nat} {v u : Value} {xs ys : List α} {k m : Nat} (HO : OwnO enc W base e v xs) (HR : RdE enc d W u ys) (hk : xs.length = k) (hm : ys.length = m) (hbase : base ≤ W.heap.size) (hl : (k + m) * bytes ≤ 140737488355328) :
    ∃ A1 c1 w1, (Builtin.append_ #[t, t] ty #[v, u]).run P W = .ok (.slice A1 (k + m) c1) w1 ∧ OwnO enc w1 base e (.slice A1 (k + m) c1) (xs ++ ys) ∧ Kp (fun b => v.ownBlock = some b) W w1 ∧ ((Value.slice A1 (k + m) c1).ownBlock = v.ownBlock ∨ ∃ b, (Value.slice A1 (k + m) c1).ownBlock = some b ∧ W.heap.size ≤ b) := by
  subst hk
  subst hm
  obtain ⟨v1, w1, hr, hO, hg, hat⟩ := app_runO (P := P) enc d h1 t ty e z bytes ht hinfo hz hb0 HO HR hbase hl
  obtain ⟨A1, c1, rfl⟩ : ∃ A c, v1 = .slice A (xs.length + ys.length) c := by
    obtain ⟨A, c, e1, _⟩ := hO.rdE d
    exact ⟨A, c, by rw [e1, List.length_append]⟩
  exact ⟨A1, c1, w1, hr, hO, Kp.of_grown hg, hat⟩
theorem OwnO.sl {α : Type} {enc : α → Value} {W : World} {base e : Nat} {v : Value} {xs : List α} (h : OwnO enc W base e v xs) {k : Nat} (hk : xs.length = k) : ∃ A c, v = .slice A k c ∧ k ≤ c ∧ k ≤ 9223372036854775807 := by
  subst hk
  rcases h with ⟨rfl, rfl⟩ | ⟨g, o, cap, cur, rfl, hb, hg, hn, hm, _⟩
  · exact ⟨none, 0, rfl, Nat.le_refl _, by simp⟩
  · exact ⟨_, _, rfl, hn, by omega⟩
/-- An element of a row, as the walk's load asks for it. -/
theorem rdE_at {α : Type} {enc : α → Value} {d : α} {w : World} {A : Option Addr} {n c : Nat} {xs : List α} (h : RdE enc d w (.slice A n c) xs) (i : Nat) (hi : i < xs.length) : ∃ ad, A = some ad ∧ w.cell? (ad.add i) = some (enc (xs.getD i d)) := by
  obtain ⟨A', c', e, _, _, _, hr⟩ := h
  simp only [Value.slice.injEq] at e
  obtain ⟨rfl, _, _⟩ := e
  obtain ⟨ad, e, hc⟩ := hr (by omega)
  exact ⟨ad, e, hc i hi⟩
theorem OwnO.kp {α : Type} {enc : α → Value} {S : Nat → Prop} {W W1 : World} {base e : Nat} {v : Value} {xs : List α} (h : OwnO enc W base e v xs) (hk : Kp S W W1) (hn : ∀ k, v.ownBlock = some k → ¬ S k) : OwnO enc W1 base e v xs := h.move fun k hb => hk.block k (h.lt hb) (hn k hb)
/-- Rows of different types lie in different blocks. -/
theorem OwnO.apart {α β : Type} {enc : α → Value} {enc' : β → Value} {W : World} {base base' e e' : Nat} {v v' : Value} {xs : List α} {ys : List β} (h : OwnO enc W base e v xs) (h' : OwnO enc' W base' e' v' ys) (hne : e ≠ e') (k : Nat) (hk : v.ownBlock = some k) : ¬ v'.ownBlock = some k := fun hk' => by
  rcases h with ⟨rfl, _⟩ | ⟨g, o, cap, cur, rfl, hb, hg, r⟩
  · cases hk
  · injection hk with hk
    subst hk
    exact h'.ne hg (Ne.symm hne) hk'
abbrev encN (n : Nat) : Value := .int .u64 (n : Int)
theorem oneN : ∀ x : Nat, (encN x).oneCell' = true := fun _ => rfl
end Go.Proofs.Ytigdchfjcfljjaa
end
section
/- append of zeros: append(s, make([]byte, n)...). -/
namespace Go.Proofs.Ytigdchfjcfljjaa
open Go.RowKit Go.Proofs.YtigdchfjcfljjaaW.PrintWords Go.Proofs.YtigdchfjcfljjaaW.PrintLast Go.Proofs.YtigdchfjcfljjaaW.PrintMore
theorem zero_cells (n : Nat) : (Builtin.zeroCells (Value.int .u8 0).cells n).toList = encs (Value.int .u8) (List.replicate n (0 : Int)) := by
  apply List.ext_getElem
  · simp [Builtin.zeroCells, encs, Value.cells]
  · intro i h1 h2
    simp [Builtin.zeroCells, encs, Value.cells, Nat.mod_one]
theorem app_zeros {W : World} {base : Nat} {v : Value} {xs : List Int} {k : Nat} (n : Nat) (HO : OwnO (Value.int .u8) W base 5 v xs) (hk : xs.length = k) (hbase : base ≤ W.heap.size) (h0 : 0 < n) (hl : k + n ≤ 1000000) :
    ∃ A1 c1 w1, (Builtin.append_ #[22, 3] 22 #[v, .int .i64 (n : Int)]).run Try.prog W = .ok (.slice A1 (k + n) c1) w1 ∧ OwnO (Value.int .u8) w1 base 5 (.slice A1 (k + n) c1) (xs ++ List.replicate n 0) ∧ Kp (fun b => v.ownBlock = some b) W w1 ∧
      ((Value.slice A1 (k + n) c1).ownBlock = v.ownBlock ∨ ∃ b, (Value.slice A1 (k + n) c1).ownBlock = some b ∧ W.heap.size ≤ b) := by
  subst hk
  have hinfo := infoU8
  obtain ⟨i, hi, hzz⟩ := Option.map_eq_some_iff.1 hinfo
  simp only [Prod.mk.injEq] at hzz
  obtain ⟨hz0, hz1, hz2⟩ := hzz
  have ht := Try.underlying22
  have htn := Try.underlying3
  have hw : IntKind.i64.wrap (n : Int) = n := by rw [IntKind.wrap_i64]; omega
  have hneg : ¬ ((n : Int) < 0) := by omega
  have hnk : n ≠ 0 := by omega
  have hns : ¬ (n * i.size = 0) := Nat.mul_ne_zero hnk (by omega)
  have h48i : ¬ (281474976710656 < (n : Int) * (i.bytes : Int)) := by rw [hz2]; omega
  have hze := zero_cells n
  have hzl : (Builtin.zeroCells (Value.int .u8 0).cells n).size = n := by rw [size_zeroCells]; simp [Value.cells]
  have grow : ∀ (p : Option Addr) (c : Nat) (hold : (Builtin.firstCells i.size xs.length (.slice p xs.length c)).run Try.prog W.drew = .ok (encs (Value.int .u8) xs).toArray W.drew) (hg : c < xs.length + n) (hr : (Builtin.append_ #[22, 3] 22 #[.slice p xs.length c, .int .i64 (n : Int)]).run Try.prog W =
      .ok (.slice (some ⟨W.heap.size, 0, none⟩) (xs.length + n) (grownCap W (xs.length + n) c 5)) (W.drew.alloc (.cells ((encs (Value.int .u8) xs).toArray ++ Builtin.zeroCells (Value.int .u8 0).cells n ++ Builtin.zeroCells (Value.int .u8 0).cells (grownCap W (xs.length + n) c 5 - (xs.length + n))) 5))),
      ∃ A1 c1 w1, (Builtin.append_ #[22, 3] 22 #[.slice p xs.length c, .int .i64 (n : Int)]).run Try.prog W = .ok (.slice A1 (xs.length + n) c1) w1 ∧ OwnO (Value.int .u8) w1 base 5 (.slice A1 (xs.length + n) c1) (xs ++ List.replicate n 0) ∧ Kp (fun b => (Value.slice p xs.length c).ownBlock = some b) W w1 ∧
      ((Value.slice A1 (xs.length + n) c1).ownBlock = (Value.slice p xs.length c).ownBlock ∨ ∃ b, (Value.slice A1 (xs.length + n) c1).ownBlock = some b ∧ W.heap.size ≤ b) := by
    intro p c hold hg hr
    have hge := grownCap_ge W (xs.length + n) c 5
    have hcm := grownCap_le_maxLen W (xs.length + n) c 5 (by unfold maxLen; omega)
    unfold maxLen at hcm
    refine ⟨_, _, _, hr, .inr ⟨W.heap.size, 0, _, _, by rw [List.length_append, List.length_replicate], hbase, heap_alloc_new W.drew _, by rw [List.length_append, List.length_replicate]; exact hge, hcm, ?_, ?_⟩, ?_, .inr ⟨_, rfl, Nat.le_refl _⟩⟩
    · simp only [Array.size_append, List.size_toArray, size_zeroCells, encs, List.length_map]
      simp [Value.cells]
      omega
    · rw [Array.toList_append, Array.toList_append, hze, List.drop_zero, List.toList_toArray, List.take_append_of_le_length (by simp [encs]), List.take_of_length_le (by simp [encs])]
      simp [encs]
    · exact (Kp.of_below (below_drew (Below.refl _ W)) _).trans (Kp.of_below (below_alloc (Below.refl _ W.drew) _) _) (fun k hk => .inl hk)
  rcases HO with ⟨rfl, rfl⟩ | ⟨g, o, cap, cur, rfl, hb, hg, hn, hm, hs, htk⟩
  · have hr := Lib.run_append_nil_zeros (P := Try.prog) W 22 3 22 5 i (.int .u8 0) .i64 .i64 ht htn hi hz0 n h0 (by omega) (by omega) (by rw [hz2]; omega)
    have := grow none 0 (by simpa [encs] using run_firstCells_none (P := Try.prog) W.drew i.size 0 0 0) (by simp; omega) (by simpa [encs] using hr)
    simpa using this
  · by_cases hroom : xs.length + n ≤ cap
    · have hst := run_storeCells_at Try.prog g (o + xs.length) 5 (encs (Value.int .u8) (List.replicate n 0)) 0 cur W hg (by simp [encs]; omega) (fun u hu => by simp only [encs, List.mem_map] at hu; obtain ⟨q, _, rfl⟩ := hu; rfl)
      simp only [Nat.add_zero] at hst
      rw [← hze] at hst
      have hlx : (encs (Value.int .u8) xs).length = xs.length := by simp [encs]
      have hzl2 : (Builtin.zeroCells (Value.int .u8 0).cells n).toList.length = n := by rw [Array.length_toList]; exact hzl
      have hcl : cur.toList.length = cur.size := Array.length_toList
      have e2 : (List.take (o + xs.length) cur.toList).length = o + xs.length := by rw [List.length_take]; omega
      refine ⟨some ⟨g, o, none⟩, cap, W.setRow g (cur.toList.take (o + xs.length) ++ (Builtin.zeroCells (Value.int .u8 0).cells n).toList ++ cur.toList.drop (o + xs.length + (Builtin.zeroCells (Value.int .u8 0).cells n).toList.length)).toArray, ?_, .inr ⟨g, o, cap, _, by rw [List.length_append, List.length_replicate], hb, setRow_heap W g cur _ _ _ hg, by rw [List.length_append, List.length_replicate]; exact hroom, hm, ?_, ?_⟩, ?_, .inl rfl⟩
      · simp [Builtin.append_, run_underlying ht, run_underlying htn, sizeOf, typeInfo, zeroValue, hi, hz0, asInt, asIntOf, hw, hneg, hns, h48i, hroom, Addr.add_lit, hz1, hnk]
        simp at hst
        rw [hst]
        rfl
      · simp only [List.size_toArray, List.length_append, List.length_take, List.length_drop, hzl2, hcl]
        omega
      · have e1 : (List.take (o + xs.length) cur.toList).drop o = encs (Value.int .u8) xs := by rw [List.drop_take, Nat.add_sub_cancel_left, htk]
        simp only [List.append_assoc, List.toList_toArray]
        rw [List.drop_append_of_le_length (by rw [e2]; omega), e1, ← List.append_assoc, List.take_append_of_le_length (by rw [List.length_append, List.length_append, List.length_replicate, hzl2, hlx]; omega), List.take_of_length_le (by rw [List.length_append, List.length_append, List.length_replicate, hzl2, hlx]; omega), hze, encs, encs, encs, List.map_append]
      · exact ⟨rfl, rfl, rfl, by simp [World.setRow], fun k hk hne => setRow_other W g k _ (fun e => hne (by subst e; rfl))⟩
    · have HO : OwnO (Value.int .u8) W base 5 (.slice (some ⟨g, o, none⟩) xs.length cap) xs := .inr ⟨g, o, cap, cur, rfl, hb, hg, hn, hm, hs, htk⟩
      have hold : (Builtin.firstCells i.size xs.length (.slice (some ⟨g, o, none⟩) xs.length cap)).run Try.prog W.drew = .ok (encs (Value.int .u8) xs).toArray W.drew := by
        rw [hz1]
        refine run_firstCells_some (P := Try.prog) W.drew 1 xs.length ⟨g, o, none⟩ xs.length cap (encs (Value.int .u8) xs) (by simp [encs]) (fun j u hu => ?_)
        have hj : j < xs.length := by simpa [encs] using (List.getElem?_eq_some_iff.1 hu).1
        rw [encs_get (d := (0 : Int)) xs j hj] at hu
        rw [← hu]
        simpa using HO.cells (0 : Int) j hj
      have hby : Builtin.nextslicecap (xs.length + n) cap * i.bytes ≤ 281474976710656 := by
        have := growslice_fits (need := xs.length + n) (bytes := i.bytes) (by omega : cap < xs.length + n) (by rw [hz2]; omega)
        exact this
      have hr := Lib.run_append_grow_zeros (P := Try.prog) W 22 3 22 5 i (.int .u8 0) .i64 .i64 ht htn hi hz0 (some ⟨g, o, none⟩) xs.length cap (encs (Value.int .u8) xs) hold n h0 (by omega) (by omega) (by omega) (by rw [hz2]; omega) hby
      exact grow (some ⟨g, o, none⟩) cap hold (by omega) hr
end Go.Proofs.Ytigdchfjcfljjaa
end
section
/- The builtin copy as a step; splices of rows of numbers. -/
namespace Go.Proofs.Ytigdchfjcfljjaa
open Go.RowKit Go.Proofs.YtigdchfjcfljjaaW.PrintWords Go.Proofs.YtigdchfjcfljjaaW.PrintLast Go.Proofs.YtigdchfjcfljjaaW.PrintMore
theorem splice_nums (k : IntKind) (L : List Int) (off : Nat) (cs : List Int) : splice (nums k L) off (nums k cs) = nums k (splice L off cs) := by
  simp [splice, nums, List.map_take, List.map_drop]
theorem rd_slice {w : World} {k : IntKind} {v : Value} {xs : List Int} {n : Nat} (h : Rd w k v xs) (hn : xs.length = n) (h0 : 0 < n) : ∃ ad c, v = .slice (some ad) n c ∧ ∀ i, i < n → w.cell? (ad.add i) = some (.int k (xs.getD i 0)) := by
  obtain ⟨A, c, rfl, hc, hr⟩ := h
  subst hn
  obtain ⟨ad, rfl, hcell⟩ := hr.2.2 h0
  exact ⟨ad, c, rfl, hcell⟩
theorem kp_setRow (w : World) (g : Nat) (cs : Array Value) : Kp (fun k => k = g) w (w.setRow g cs) :=
  ⟨rfl, rfl, rfl, by simp [World.setRow], fun k hk hne => setRow_other w g k cs hne⟩
end Go.Proofs.Ytigdchfjcfljjaa
end
section
/- Plain facts on numbers as bytes, the least one first. -/
namespace Go.Proofs.Ytigdchfjcfljjaa
open Go.RowKit
/-- k bytes of n. -/
def leB (n : Int) : Nat → List Int
  | 0 => []
  | k + 1 => leB n k ++ [n / 256 ^ k % 256]
theorem leB_len (n : Int) : ∀ k, (leB n k).length = k
  | 0 => rfl
  | k + 1 => by simp [leB, leB_len n k]
theorem leB_isB (n : Int) : ∀ k, isB (leB n k)
  | 0 => fun x hx => by simp [leB] at hx
  | k + 1 => (leB_isB n k).app (fun x hx => by simp at hx; subst hx; omega)
theorem leB_cons (n : Int) : ∀ k, leB n (k + 1) = n % 256 :: leB (n / 256) k
  | 0 => by simp [leB]
  | k + 1 => by
    rw [leB, leB_cons n k, leB]
    simp only [List.cons_append, List.cons.injEq, true_and, List.append_cancel_left_eq]
    rw [Int.ediv_ediv_of_nonneg (by omega), Int.pow_succ, Int.mul_comm]
    exact ⟨rfl, trivial⟩
/-- How many bytes a width asks for. -/
def leW (w : Int) : Nat := (min (max w 0) 8).toNat
/-- The number that bytes tell. -/
def leN : List Int → Int
  | [] => 0
  | b :: r => b + 256 * leN r
theorem leN_bound : ∀ {l : List Int}, isB l → 0 ≤ leN l ∧ leN l < 256 ^ l.length
  | [], _ => by simp [leN]
  | b :: r, h => by
    have ih := leN_bound (l := r) (fun x hx => h x (by simp [hx]))
    have hb := h b (by simp)
    simp only [leN, List.length_cons, Int.pow_succ]
    generalize (256 : Int) ^ r.length = p at *
    omega
theorem leB_leN : ∀ {l : List Int}, isB l → leB (leN l) l.length = l
  | [], _ => rfl
  | b :: r, h => by
    have ih := leB_leN (l := r) (fun x hx => h x (by simp [hx]))
    have hb := h b (by simp)
    rw [List.length_cons, leB_cons, leN]
    rw [show (b + 256 * leN r) % 256 = b by omega, show (b + 256 * leN r) / 256 = leN r by omega, ih]
theorem leN_leB : ∀ (k : Nat) (n : Int), 0 ≤ n → leN (leB n k) = n % 256 ^ k
  | 0, n, _ => by simp [leB, leN]
  | k + 1, n, h => by
    rw [leB_cons, leN, leN_leB k (n / 256) (by omega), Int.pow_succ]
    have hp : (0 : Int) < 256 ^ k := Int.pow_pos (by omega)
    generalize (256 : Int) ^ k = p at *
    rw [Int.mul_comm p 256]
    have e1 : n % (256 * p) = n - 256 * p * (n / (256 * p)) := by have := Int.mul_ediv_add_emod n (256 * p); omega
    have e2 : n / 256 % p = n / 256 - p * (n / 256 / p) := by have := Int.mul_ediv_add_emod (n / 256) p; omega
    rw [e1, e2, Int.ediv_ediv_of_nonneg (by omega), Int.mul_sub, Int.mul_assoc]
    omega
theorem leN_snoc : ∀ (l : List Int) (b : Int), leN (l ++ [b]) = leN l + 256 ^ l.length * b
  | [], b => by simp [leN]
  | a :: l, b => by
    simp only [List.cons_append, leN, leN_snoc l b, List.length_cons, Int.pow_succ]
    rw [Int.mul_add, Int.mul_comm (256 ^ l.length) 256, Int.mul_assoc]
    omega
/-- Does such a width stand there? -/
def fitsB (n a w : Int) : Bool := decide ((w = 1 ∨ w = 2 ∨ w = 4 ∨ w = 8) ∧ 0 ≤ a ∧ a ≤ n ∧ w ≤ n - a)
def getN (l : List Int) (a w : Int) : Int := if fitsB l.length a w = true then leN ((l.drop a.toNat).take w.toNat) else 0
theorem fits_yes {n a w : Int} (h : fitsB n a w = true) : (w = 1 ∨ w = 2 ∨ w = 4 ∨ w = 8) ∧ 0 ≤ a ∧ a ≤ n ∧ w ≤ n - a := by simpa [fitsB] using h
/-- The next multiple of eight. -/
def alignZ (k : Int) : Int := if k ≤ 0 then 0 else (k + 7) / 8 * 8
theorem take_snoc {l : List Int} {i : Nat} (h : i < l.length) : l.take (i + 1) = l.take i ++ [l.getD i 0] := by
  rw [List.take_succ_eq_append_getElem h, List.getD_eq_getElem?_getD, List.getElem?_eq_getElem h]; rfl
theorem getD_drop (l : List Int) (a i : Nat) : (l.drop a).getD i 0 = l.getD (a + i) 0 := by
  simp [List.getD_eq_getElem?_getD, List.getElem?_drop]
theorem drop_cons' {l : List Int} {i : Nat} (h : i < l.length) : l.drop i = l.getD i 0 :: l.drop (i + 1) := by
  rw [List.drop_eq_getElem_cons h, List.getD_eq_getElem?_getD, List.getElem?_eq_getElem h]; rfl
end Go.Proofs.Ytigdchfjcfljjaa
end
section
/- Contracts of package le, and of its reference, over this translation. -/
namespace Go.Proofs.Ytigdchfjcfljjaa
open Go.RowKit Go.Proofs.YtigdchfjcfljjaaW.PrintWords Go.Proofs.YtigdchfjcfljjaaW.PrintLast Go.Proofs.YtigdchfjcfljjaaW.PrintMore
attribute [local go_sem] max2_int min2_int max_two min_two max_three min_three max_four min_four
theorem mk8 (w : World) : (Instr.makeSlice 22 (.int .i64 0) (.int .i64 8)).run Try.prog w = .ok (.slice (some ⟨w.heap.size, 0, none⟩) 0 8) (w.alloc (.cells #[.int .u8 0, .int .u8 0, .int .u8 0, .int .u8 0, .int .u8 0, .int .u8 0, .int .u8 0, .int .u8 0] 5)) := by kernel_rfl
set_option maxHeartbeats 8000000 in
set_option maxRecDepth 100000 in
theorem le_Bytes_calls (n width : Int) (w : World) (h0 : 0 ≤ n) (h1 : n ≤ 18446744073709551615) :
    Calls Try.prog 87 #[.int .u64 n, .int .i64 width] w fun e w' => ∃ v0_ : Value, e = .returned (v0_) ∧ Kd.R (Kd.int .u8) 5 w' w.heap.size (fun _ => True) v0_ (leB n (leW width)) ∧ Below w.heap.size w w' := by
  have hmk := mk8
  obtain ⟨M, hM⟩ : ∃ M, (if width < 0 then 0 else width) = M := ⟨_, rfl⟩
  obtain ⟨B, hB⟩ : ∃ B, (if 8 < M then 8 else M) = B := ⟨_, rfl⟩
  have hW : Aside0 (B = (leW width : Int)) := ⟨by unfold leW; rw [← hB, ← hM]; split <;> split <;> omega⟩
  have hB0 : 0 ≤ B := by rw [hW.out]; omega
  have hB8 : B ≤ 8 := by rw [hW.out]; unfold leW; omega
  have HN := Aside0.mk h0
  go_enter Try.func87, Try.ntmps87
  go_wp2
  go_loopw [0, 5, 10] (fun v0 v5 v10 w' => ∃ k : Nat, (k : Int) ≤ B ∧ v10 = .int .i64 k ∧ v0 = .int .u64 (n / 256 ^ k) ∧ Aside0 (Kd.R (Kd.int .u8) 5 w' w.heap.size (fun _ => True) v5 (leB n k)) ∧ Aside0 (Below w.heap.size w w')) (fun _ _ v10 _ => 8 - (intOf v10).toNat)
  case atStart => exact ⟨0, by omega, by simp, by simp, ⟨R_cap w _ 5 _ 8 (by simp) rfl (by omega)⟩, ⟨by apply below_alloc; exact Below.refl _ _⟩⟩
  case round =>
    obtain ⟨k, hk, rfl, rfl, HO, HB⟩ := hrel
    have hx0 : 0 ≤ n / 256 ^ k := Int.ediv_nonneg HN.out (Int.pow_nonneg (by omega))
    have hx1 : n / 256 ^ k ≤ 18446744073709551615 := Int.le_trans (Int.ediv_le_self _ HN.out) h1
    by_cases c : (k : Int) < B
    · have HL := Aside0.mk (leB_len n k)
      obtain ⟨y, hy⟩ : ∃ y, n / 256 ^ k = y := ⟨_, rfl⟩
      have HY := Aside0.mk hy
      rw [hy] at hx0 hx1
      clear hy
      rw [HY.out]
      go_wp2_with (first | ((with_reducible refine gate_builtin (b := .append) (xs := #[.tmp 12, .tmp 15]) rfl ?_); at_builtin; refine Kd.R_append (Kd.int .u8) (w0 := w) w.heap.size rfl (.tmp 12) (.tmp 15) 22 5 (.int .u8 0) 1 rfl Try.underlying22 infoU8 rfl (by decide) (by omega) u5 (leB n k) (y % 256) [.int .u8 (y % 256)] (fun _ => True) (fun _ => False) rfl rfl ?aP (fun _ hk => hk.elim) ?aF ?aO ?aB ?aS ?aL ?_; (case aP => exact rfl); (case aB => exact (by (repeat (first | (with_reducible first | exact HB.out | apply below_alloc | apply pw_below_drewN | apply below_drew1) | exact HB.out)))); (case aF => exact (fun _ _ => trivial)); (case aO => exact (by ((with_reducible repeat (first | apply Kd.R_alloc | apply Kd.R_drewN | apply Kd.R_drew)); exact HO.out))); (case aS => exact (below_size (by (repeat (first | (with_reducible first | exact HB.out | apply below_alloc | apply pw_below_drewN | apply below_drew1) | exact HB.out))))); (case aL => (rw [HL.out]; omega)); intro v6 w6 ho hb hg hat; have n0_ := Aside0.mk (hb); have n1_ := Aside0.mk (ho); clear HB; clear HO; have HB := n0_; have HO6 := n1_; clear n0_ n1_; clear ho hb hg hat))
      go_roundw
      case rel => exact ⟨k + 1, by omega, by go_num, by rw [← div_step n k y HY.out], ⟨by rw [leB, HY.out]; exact HO6.out⟩, ⟨HB.out⟩⟩
      case measure => simp [intOf]; omega
    · go_wp2
      go_ret
      have e : k = leW width := by have := hW.out; omega
      exact ⟨_, rfl, by rw [← e]; exact HO.out, HB.out⟩
set_option maxHeartbeats 8000000 in
set_option maxRecDepth 100000 in
theorem ref_Bytes_calls (n width : Int) (w : World) (h0 : 0 ≤ n) (h1 : n ≤ 18446744073709551615) :
    Calls Try.prog 113 #[.int .u64 n, .int .i64 width] w fun e w' => ∃ v0_ : Value, e = .returned (v0_) ∧ Kd.R (Kd.int .u8) 5 w' w.heap.size (fun _ => True) v0_ (leB n (leW width)) ∧ Below w.heap.size w w' := by
  have HN := Aside0.mk h0
  go_enter Try.func113, Try.ntmps113
  go_wp2
  go_loopw [0, 5, 6] (fun v0 v5 v6 w' => ∃ k : Nat, k ≤ leW width ∧ v6 = .int .i64 k ∧ v0 = .int .u64 (n / 256 ^ k) ∧ Aside0 (Kd.R (Kd.int .u8) 5 w' w.heap.size (fun _ => True) v5 (leB n k)) ∧ Aside0 (Below w.heap.size w w')) (fun _ _ v6 _ => 8 - (intOf v6).toNat)
  case atStart => exact ⟨0, by omega, by simp, by simp, ⟨Kd.R_nil _ _ _ _ _⟩, ⟨Below.refl _ _⟩⟩
  case round =>
    obtain ⟨k, hk, rfl, rfl, HO, HB⟩ := hrel
    have hx0 : 0 ≤ n / 256 ^ k := Int.ediv_nonneg HN.out (Int.pow_nonneg (by omega))
    have hx1 : n / 256 ^ k ≤ 18446744073709551615 := Int.le_trans (Int.ediv_le_self _ HN.out) h1
    have HL := Aside0.mk (leB_len n k)
    obtain ⟨y, hy⟩ : ∃ y, n / 256 ^ k = y := ⟨_, rfl⟩
    have HY := Aside0.mk hy
    rw [hy] at hx0 hx1
    clear hy
    rw [HY.out]
    by_cases c1 : (k : Int) < width
    · by_cases c2 : (k : Int) < 8
      · have HK := Aside0.mk (show k + 1 ≤ leW width by unfold leW; omega)
        clear hk
        go_wp2_with (first | ((with_reducible refine gate_builtin (b := .append) (xs := #[.tmp 16, .tmp 20]) rfl ?_); at_builtin; refine Kd.R_append (Kd.int .u8) (w0 := w) w.heap.size rfl (.tmp 16) (.tmp 20) 22 5 (.int .u8 0) 1 rfl Try.underlying22 infoU8 rfl (by decide) (by omega) u5 (leB n k) (y % 256) [.int .u8 (y % 256)] (fun _ => True) (fun _ => False) rfl rfl ?aP (fun _ hk => hk.elim) ?aF ?aO ?aB ?aS ?aL ?_; (case aP => exact rfl); (case aB => exact (by (repeat (first | (with_reducible first | exact HB.out | apply below_alloc | apply pw_below_drewN | apply below_drew1) | exact HB.out)))); (case aF => exact (fun _ _ => trivial)); (case aO => exact (by ((with_reducible repeat (first | apply Kd.R_alloc | apply Kd.R_drewN | apply Kd.R_drew)); exact HO.out))); (case aS => exact (below_size (by (repeat (first | (with_reducible first | exact HB.out | apply below_alloc | apply pw_below_drewN | apply below_drew1) | exact HB.out))))); (case aL => (rw [HL.out]; omega)); intro v6 w6 ho hb hg hat; have n0_ := Aside0.mk (hb); have n1_ := Aside0.mk (ho); clear HB; clear HO; have HB := n0_; have HO6 := n1_; clear n0_ n1_; clear ho hb hg hat))
        go_roundw
        case rel => exact ⟨k + 1, HK.out, by go_num, by rw [← div_step n k y HY.out], ⟨by rw [leB, HY.out]; exact HO6.out⟩, ⟨HB.out⟩⟩
        case measure => simp [intOf]; omega
      · have e := Aside0.mk (show k = leW width by unfold leW at *; omega)
        clear hk
        go_wp2
        go_ret
        exact ⟨_, rfl, by rw [← e.out]; exact HO.out, HB.out⟩
    · have e := Aside0.mk (show k = leW width by unfold leW at *; omega)
      clear hk
      go_wp2
      go_ret
      exact ⟨_, rfl, by rw [← e.out]; exact HO.out, HB.out⟩
set_option maxHeartbeats 8000000 in
set_option maxRecDepth 100000 in
theorem Same_calls (v0 v1 : Value) (l0 l1 : List Int) (w : World) (hr0 : Rd w .u8 v0 l0) (hr1 : Rd w .u8 v1 l1) (h0 : isB l0) (h1 : isB l1) :
    Calls Try.prog 19 #[v0, v1] w fun e w' => e = .returned (.bool (decide (l0 = l1))) ∧ Below w.heap.size w w' := by
  obtain ⟨A0, c0, rfl, hc0, hr0⟩ := hr0
  obtain ⟨A1, c1, rfl, hc1, hr1⟩ := hr1
  have hcv0 := string_of_reads (P := Try.prog) (c := c0) Try.underlying22 Try.underlying5 Try.underlying9 hr0
  have hcv1 := string_of_reads (P := Try.prog) (c := c1) Try.underlying22 Try.underlying5 Try.underlying9 hr1
  have hs := same_iff h0 h1
  have HR0 := Aside0.mk hr0
  have HR1 := Aside0.mk hr1
  clear hr0 hr1 h0 h1
  go_enter Try.func19, Try.ntmps19
  go_wp2
  go_ret
  exact ⟨rfl, Below.refl _ _⟩
set_option maxHeartbeats 8000000 in
set_option maxRecDepth 100000 in
theorem le_Align_calls (k : Int) (w : World) (h1 : k ≤ 4611686018427387904) :
    Calls Try.prog 107 #[.int .i64 k] w fun e w' => e = .returned (.int .i64 (alignZ k)) ∧ Below w.heap.size w w' := by
  have h7 := and7
  by_cases c : k ≤ 0
  · go_enter Try.func107, Try.ntmps107
    go_wp2
    go_ret
    exact ⟨by rw [alignZ, if_pos c]; rfl, Below.refl _ _⟩
  · have HE := Aside0.mk (show alignZ k = k + (-(k % 8)) % 8 by rw [alignZ, if_neg c]; omega)
    go_enter Try.func107, Try.ntmps107
    go_wp2
    go_ret
    exact ⟨by rw [HE.out]; rfl, Below.refl _ _⟩
end Go.Proofs.Ytigdchfjcfljjaa
end
section
/- Contracts of package le's reading, and of its reference, over this translation. -/
namespace Go.Proofs.Ytigdchfjcfljjaa
open Go.RowKit Go.Proofs.YtigdchfjcfljjaaW.PrintWords Go.Proofs.YtigdchfjcfljjaaW.PrintLast Go.Proofs.YtigdchfjcfljjaaW.PrintMore
attribute [local go_sem] max2_int min2_int max_two min_two max_three min_three max_four min_four
theorem fits_no {n a w : Int} (h : ¬ ((w = 1 ∨ w = 2 ∨ w = 4 ∨ w = 8) ∧ 0 ≤ a ∧ a ≤ n ∧ w ≤ n - a)) : fitsB n a w = false := by simp only [fitsB]; exact decide_eq_false h
theorem fits_ok {n a w : Int} (h : (w = 1 ∨ w = 2 ∨ w = 4 ∨ w = 8) ∧ 0 ≤ a ∧ a ≤ n ∧ w ≤ n - a) : fitsB n a w = true := by simp only [fitsB]; exact decide_eq_true h
set_option maxHeartbeats 8000000 in
set_option maxRecDepth 100000 in
theorem le_fits_calls (v : Value) (l : List Int) (a width : Int) (w : World) (hr : Rd w .u8 v l) :
    Calls Try.prog 142 #[v, .int .i64 a, .int .i64 width] w fun e w' => e = .returned (.bool (fitsB l.length a width)) ∧ Below w.heap.size w w' := by
  obtain ⟨A, c, rfl, hc, hr⟩ := hr
  have hm : l.length ≤ 9223372036854775807 := hr.2.1
  have HR := Aside0.mk hr
  clear hr
  have HNO := fun h => Aside0.mk (fits_no (n := l.length) (a := a) (w := width) h)
  have HOK := fun h => Aside0.mk (fits_ok (n := l.length) (a := a) (w := width) h)
  by_cases h0 : width = 1 ∨ width = 2 ∨ width = 4 ∨ width = 8
  · by_cases h1 : 0 ≤ a
    · by_cases h2 : a ≤ (l.length : Int)
      · by_cases h3 : width ≤ (l.length : Int) - a
        · have H := HOK ⟨h0, h1, h2, h3⟩
          clear HNO HOK
          rcases h0 with rfl | rfl | rfl | rfl
          all_goals
            go_enter Try.func142, Try.ntmps142
            go_wp2
            go_ret
            exact ⟨by rw [H.out]; rfl, Below.refl _ _⟩
        · have H := HNO (fun h => h3 h.2.2.2)
          clear HNO HOK
          rcases h0 with rfl | rfl | rfl | rfl
          all_goals
            go_enter Try.func142, Try.ntmps142
            go_wp2
            go_ret
            exact ⟨by rw [H.out]; rfl, Below.refl _ _⟩
      · have H := HNO (fun h => h2 h.2.2.1)
        clear HNO HOK
        rcases h0 with rfl | rfl | rfl | rfl
        all_goals
          go_enter Try.func142, Try.ntmps142
          go_wp2
          go_ret
          exact ⟨by rw [H.out]; rfl, Below.refl _ _⟩
    · have H := HNO (fun h => h1 h.2.1)
      clear HNO HOK
      rcases h0 with rfl | rfl | rfl | rfl
      all_goals
        go_enter Try.func142, Try.ntmps142
        go_wp2
        go_ret
        exact ⟨by rw [H.out]; rfl, Below.refl _ _⟩
  · have H := HNO (fun h => h0 h.1)
    clear HNO HOK
    have n1 : (width == 1) = false := by simp; omega
    have n2 : (width == 2) = false := by simp; omega
    have n4 : (width == 4) = false := by simp; omega
    have n8 : (width == 8) = false := by simp; omega
    clear h0
    go_enter Try.func142, Try.ntmps142
    go_wp2
    go_ret
    exact ⟨by rw [H.out]; rfl, Below.refl _ _⟩
/-- The number of the last j of W bytes from a on. -/
def tailN (l : List Int) (a W j : Nat) : Int := leN ((l.drop (a + (W - j))).take j)
theorem tailN_step (l : List Int) (a W j : Nat) (hj : j < W) (hl : a + W ≤ l.length) : tailN l a W (j + 1) = l.getD (a + (W - 1 - j)) 0 + 256 * tailN l a W j := by
  unfold tailN
  rw [show W - (j + 1) = W - 1 - j by omega, drop_cons' (show a + (W - 1 - j) < l.length by omega), List.take_succ_cons, leN, show a + (W - 1 - j) + 1 = a + (W - j) by omega]
theorem pow256_le : ∀ {j : Nat}, j ≤ 8 → (256 : Int) ^ j ≤ 18446744073709551616 := by decide
theorem pow256_7 : ∀ {j : Nat}, j ≤ 7 → (256 : Int) ^ j ≤ 72057594037927936 := by decide
theorem tailN_bound (l : List Int) (hb : isB l) (a W j : Nat) (hj : j ≤ 7) : 0 ≤ tailN l a W j ∧ tailN l a W j ≤ 72057594037927935 := by
  have h := leN_bound (l := (l.drop (a + (W - j))).take j) ((hb.drop _).take _)
  have h2 : ((l.drop (a + (W - j))).take j).length ≤ j := List.length_take_le _ _
  have h3 := pow256_7 (show ((l.drop (a + (W - j))).take j).length ≤ 7 by omega)
  exact ⟨h.1, by have := h.2; unfold tailN; omega⟩
theorem or_byte (x b : Int) (h0 : 0 ≤ x) (h1 : x ≤ 72057594037927935) (hb : 0 ≤ b ∧ b ≤ 255) : Go.bits .or .u64 (x * 256) b = b + 256 * x := by
  have := or_u64 x b 8 h0 (by omega) hb.1 (by omega) (by omega)
  rw [show (2 : Int) ^ 8 = 256 from rfl] at this
  omega
set_option maxHeartbeats 8000000 in
set_option maxRecDepth 100000 in
theorem le_Get_calls (v : Value) (l : List Int) (a width : Int) (w : World) (hr : Rd w .u8 v l) (hb : isB l) :
    Calls Try.prog 88 #[v, .int .i64 a, .int .i64 width] w fun e w' => e = .returned (.tuple #[.int .u64 (getN l a width), .bool (fitsB l.length a width)]) ∧ Below w.heap.size w w' := by
  have HV := Aside0.mk hr
  obtain ⟨A, c, rfl, hc, hr⟩ := hr
  have hm : l.length ≤ 9223372036854775807 := hr.2.1
  have HR := Aside0.mk hr
  clear hr
  have HIB := Aside0.mk hb
  clear hb
  cases hf : fitsB l.length a width with
  | false =>
    have HG := Aside0.mk (show getN l a width = 0 by rw [getN, hf]; rfl)
    have HF := Aside0.mk hf
    clear hf
    go_enter Try.func88, Try.ntmps88
    go_wp2_with fail
    refine (le_fits_calls _ l a width _ HV.out).mono ?_
    rintro e w1 ⟨rfl, hb⟩
    have HB1 := Aside0.mk hb
    clear hb
    rw [HF.out]
    go_wp2_with fail
    go_ret2
    exact ⟨by rw [HG.out]; rfl, HB1.out⟩
  | true =>
    obtain ⟨h0, h1, h2, h3⟩ := fits_yes hf
    obtain ⟨p, rfl⟩ := Int.eq_ofNat_of_zero_le h1
    obtain ⟨W, rfl⟩ := Int.eq_ofNat_of_zero_le (show 0 ≤ width by omega)
    have hW : W ≤ 8 := by omega
    have hW0 : 1 ≤ W := by omega
    have hpl : p + W ≤ l.length := by omega
    have HG := Aside0.mk (show getN l p W = tailN l p W W by rw [getN, hf, if_pos rfl, tailN]; simp)
    have HF := Aside0.mk hf
    clear hf h0 h1 h2 h3
    go_enter Try.func88, Try.ntmps88
    go_wp2_with fail
    refine (le_fits_calls _ l p W _ HV.out).mono ?_
    rintro e w1 ⟨rfl, hb⟩
    have HB1 := Aside0.mk hb
    clear hb
    rw [HF.out]
    go_wp2_with fail
    have HR1 := Aside0.mk (HR.out.below HB1.out)
    go_loop [8, 9] (fun v8 v9 => ∃ j : Nat, j ≤ W ∧ v9 = .int .i64 ((W : Int) - 1 - j) ∧ v8 = .int .u64 (tailN l p W j)) (fun _ v9 => ((intOf v9) + 1).toNat)
    case atStart => exact ⟨0, by omega, by simp, by simp [tailN, leN]⟩
    case round =>
      obtain ⟨j, hj, rfl, rfl⟩ := hrel
      by_cases c1 : j < W
      · obtain ⟨x, hx⟩ : ∃ x, tailN l p W j = x := ⟨_, rfl⟩
        obtain ⟨i, hi⟩ : ∃ i : Int, (W : Int) - 1 - j = i := ⟨_, rfl⟩
        obtain ⟨b, hbb⟩ : ∃ b, l.getD (p + (W - 1 - j)) 0 = b := ⟨_, rfl⟩
        obtain ⟨ad, e, hcell⟩ := rd_at HR1.out (p + (W - 1 - j)) (by omega)
        rw [hbb] at hcell
        have hb0 := HIB.out.getD (p + (W - 1 - j))
        rw [hbb] at hb0
        have hxb := tailN_bound l HIB.out p W j (by omega)
        rw [hx] at hxb
        have hor := or_byte x b hxb.1 hxb.2 hb0
        have hidx : (p : Int) + i = ((p + (W - 1 - j) : Nat) : Int) := by omega
        have HN := Aside0.mk (show tailN l p W (j + 1) = b + 256 * x by rw [tailN_step l p W j c1 hpl, hbb, hx])
        have HI := Aside0.mk hi
        have HX := Aside0.mk hx
        have hi0 : 0 ≤ i := by omega
        have hi1 : i ≤ 7 := by omega
        obtain ⟨hb0, hb1⟩ := hb0
        obtain ⟨hx0, hx1⟩ := hxb
        clear hi hx hbb
        rw [HI.out, HX.out]
        cases e
        go_wp2
        go_round
        case rel => exact ⟨j + 1, by omega, by have := HI.out; exact congrArg (Value.int .i64) (by omega), by rw [HN.out]⟩
        case measure => have := HI.out; simp [intOf]; omega
      · have HJ := Aside0.mk (show j = W by omega)
        have hn : ¬ (0 ≤ (W : Int) - 1 - j) := by omega
        have hn2 : decide (0 ≤ (W : Int) - 1 - j) = false := decide_eq_false hn
        go_wp2
        go_ret2
        exact ⟨by rw [HG.out, HJ.out]; rfl, HB1.out⟩
/-- 256 to the power of i, in 64 bits. -/
def sc (i : Nat) : Int := (256 ^ i) % 18446744073709551616
theorem sc_all : ∀ {i : Nat}, i ≤ 7 → (sc i = 256 ^ i ∧ 1 ≤ sc i ∧ sc i ≤ 72057594037927936 ∧ IntKind.u64.wrap (sc i * 256) = sc (i + 1)) := by decide +kernel
theorem headN_step (l : List Int) (p i : Nat) (h : p + i < l.length) : leN ((l.drop p).take (i + 1)) = leN ((l.drop p).take i) + 256 ^ i * l.getD (p + i) 0 := by
  rw [take_snoc (by rw [List.length_drop]; omega), leN_snoc, getD_drop, List.length_take, List.length_drop, Nat.min_eq_left (by omega)]
theorem ref_step (x s b y : Int) (i : Nat) (hi : i ≤ 7) (hx : 0 ≤ x) (hx2 : x < 256 ^ i) (hs : s = 256 ^ i) (hb : 0 ≤ b ∧ b ≤ 255) : IntKind.u64.wrap (s * b) = s * b ∧ 0 ≤ s * b ∧ x + s * b ≤ 18446744073709551615 := by
  have h8 := pow256_le (show i + 1 ≤ 8 by omega)
  rw [Int.pow_succ] at h8
  subst hs
  have hp : (0 : Int) < 256 ^ i := Int.pow_pos (by omega)
  have h1 : (256 : Int) ^ i * b ≤ 256 ^ i * 255 := Int.mul_le_mul_of_nonneg_left hb.2 (by omega)
  have h2 : 0 ≤ (256 : Int) ^ i * b := Int.mul_nonneg (by omega) hb.1
  generalize (256 : Int) ^ i = P at *
  generalize P * b = q at *
  refine ⟨?_, h2, by omega⟩
  rw [IntKind.wrap_u64, Int.emod_eq_of_lt h2 (by omega)]
set_option maxHeartbeats 8000000 in
set_option maxRecDepth 100000 in
theorem ref_Get_calls (v : Value) (l : List Int) (a width : Int) (w : World) (hr : Rd w .u8 v l) (hb : isB l) :
    Calls Try.prog 89 #[v, .int .i64 a, .int .i64 width] w fun e w' => e = .returned (.tuple #[.int .u64 (getN l a width), .bool (fitsB l.length a width)]) ∧ Below w.heap.size w w' := by
  obtain ⟨A, c, rfl, hc, hr⟩ := hr
  have hm : l.length ≤ 9223372036854775807 := hr.2.1
  have HR := Aside0.mk hr
  clear hr
  have HIB := Aside0.mk hb
  clear hb
  have HNO : ∀ h, Aside0 (fitsB l.length a width = false ∧ getN l a width = 0) := fun h => Aside0.mk ⟨fits_no (n := l.length) (a := a) (w := width) h, by rw [getN, fits_no h]; rfl⟩
  by_cases h0 : width = 1 ∨ width = 2 ∨ width = 4 ∨ width = 8
  · by_cases h1 : 0 ≤ a
    · by_cases h2 : a ≤ (l.length : Int)
      · by_cases h3 : width ≤ (l.length : Int) - a
        · have HF := Aside0.mk (fits_ok (n := l.length) (a := a) (w := width) ⟨h0, h1, h2, h3⟩)
          clear HNO
          obtain ⟨p, rfl⟩ := Int.eq_ofNat_of_zero_le h1
          obtain ⟨W, rfl⟩ := Int.eq_ofNat_of_zero_le (show 0 ≤ width by omega)
          have hW : W ≤ 8 := by omega
          have hpl : p + W ≤ l.length := by omega
          have HG := Aside0.mk (show getN l p W = leN ((l.drop p).take W) by rw [getN, HF.out, if_pos rfl]; simp)
          have hq : Aside0 (W = 1 ∨ W = 2 ∨ W = 4 ∨ W = 8) := ⟨by omega⟩
          have key : ∀ (b1 b2 b4 b8 : Bool), ((W : Int) == 1) = b1 → ((W : Int) == 2) = b2 → ((W : Int) == 4) = b4 → ((W : Int) == 8) = b8 → (b1 && !b2 && !b4 && !b8 || !b1 && b2 && !b4 && !b8 || !b1 && !b2 && b4 && !b8 || !b1 && !b2 && !b4 && b8) = true →
              Calls Try.prog 89 #[.slice A l.length c, .int .i64 p, .int .i64 W] w fun e w' => e = .returned (.tuple #[.int .u64 (getN l p W), .bool (fitsB l.length p W)]) ∧ Below w.heap.size w w' := by
            intro b1 b2 b4 b8 e1 e2 e4 e8 hor
            have e1' : ((W : Int) != 1) = !b1 := by rw [bne, e1]
            have e2' : ((W : Int) != 2) = !b2 := by rw [bne, e2]
            have e4' : ((W : Int) != 4) = !b4 := by rw [bne, e4]
            have e8' : ((W : Int) != 8) = !b8 := by rw [bne, e8]
            clear e1 e2 e4 e8 h0
            cases b1 <;> cases b2 <;> cases b4 <;> cases b8 <;> first | (exact absurd hor (by decide)) | skip
            all_goals
              clear hor
              simp only [Bool.not_true, Bool.not_false] at e1' e2' e4' e8'
              go_enter Try.func89, Try.ntmps89
              go_wp2
              go_loop [8, 9, 10] (fun v8 v9 v10 => ∃ i : Nat, i ≤ W ∧ v10 = .int .i64 i ∧ v9 = .int .u64 (sc i) ∧ v8 = .int .u64 (leN ((l.drop p).take i))) (fun _ _ v10 => W - (intOf v10).toNat)
              case atStart => exact ⟨0, by omega, rfl, by rw [show sc 0 = 1 from by decide +kernel], by simp [leN]⟩
              case round =>
                obtain ⟨i, hi, rfl, rfl, rfl⟩ := hrel
                by_cases c1 : i < W
                · obtain ⟨x, hx⟩ : ∃ x, leN ((l.drop p).take i) = x := ⟨_, rfl⟩
                  obtain ⟨s, hs⟩ : ∃ s, sc i = s := ⟨_, rfl⟩
                  obtain ⟨b, hbb⟩ : ∃ b, l.getD (p + i) 0 = b := ⟨_, rfl⟩
                  obtain ⟨s2, hs2⟩ : ∃ s, sc (i + 1) = s := ⟨_, rfl⟩
                  obtain ⟨ad, e, hcell⟩ := rd_at HR.out (p + i) (by omega)
                  rw [hbb] at hcell
                  have hb0 := HIB.out.getD (p + i)
                  rw [hbb] at hb0
                  have hsc := sc_all (show i ≤ 7 by omega)
                  rw [hs, hs2] at hsc
                  obtain ⟨hs0, hs1, hs3, hsw⟩ := hsc
                  have hxb := leN_bound (l := (l.drop p).take i) ((HIB.out.drop _).take _)
                  rw [hx, List.length_take, List.length_drop, Nat.min_eq_left (by omega)] at hxb
                  have hst := ref_step x s b 0 i (by omega) hxb.1 hxb.2 hs0 hb0
                  obtain ⟨t, ht⟩ : ∃ t, s * b = t := ⟨_, rfl⟩
                  rw [ht] at hst
                  obtain ⟨hw1, ht0, ht1⟩ := hst
                  have hw2 : IntKind.u64.wrap (s * b) = t := by rw [ht]; exact hw1
                  have HN := Aside0.mk (show leN ((l.drop p).take (i + 1)) = x + t by rw [headN_step l p i (by omega), hx, hbb, ← hs0, ht])
                  have HS := Aside0.mk hs
                  have HS2 := Aside0.mk hs2
                  have HX := Aside0.mk hx
                  have hx0 := hxb.1
                  obtain ⟨hb0, hb1⟩ := hb0
                  clear hs hs2 hx hxb hs0 hw1 ht hbb
                  rw [HS.out, HX.out]
                  cases e
                  go_wp2
                  go_round
                  case rel => exact ⟨i + 1, by omega, by go_num, by rw [HS2.out], by rw [HN.out]⟩
                  case measure => simp [intOf]; omega
                · have HJ := Aside0.mk (show i = W by omega)
                  go_wp2
                  go_ret2
                  exact ⟨by rw [HG.out, HF.out, HJ.out]; rfl, Below.refl _ _⟩
          exact key _ _ _ _ rfl rfl rfl rfl (by rcases hq.out with rfl | rfl | rfl | rfl <;> rfl)
        · have H := HNO (fun h => h3 h.2.2.2)
          clear HNO
          rcases h0 with rfl | rfl | rfl | rfl
          all_goals
            go_enter Try.func89, Try.ntmps89
            go_wp2
            go_ret2
            exact ⟨by rw [H.out.1, H.out.2]; rfl, Below.refl _ _⟩
      · have H := HNO (fun h => h2 h.2.2.1)
        clear HNO
        rcases h0 with rfl | rfl | rfl | rfl
        all_goals
          go_enter Try.func89, Try.ntmps89
          go_wp2
          go_ret2
          exact ⟨by rw [H.out.1, H.out.2]; rfl, Below.refl _ _⟩
    · have H := HNO (fun h => h1 h.2.1)
      clear HNO
      rcases h0 with rfl | rfl | rfl | rfl
      all_goals
        go_enter Try.func89, Try.ntmps89
        go_wp2
        go_ret2
        exact ⟨by rw [H.out.1, H.out.2]; rfl, Below.refl _ _⟩
  · have H := HNO (fun h => h0 h.1)
    clear HNO
    have n1 : (width != 1) = true := by simp; omega
    have n2 : (width != 2) = true := by simp; omega
    have n4 : (width != 4) = true := by simp; omega
    have n8 : (width != 8) = true := by simp; omega
    clear h0
    go_enter Try.func89, Try.ntmps89
    go_wp2
    go_ret2
    exact ⟨by rw [H.out.1, H.out.2]; rfl, Below.refl _ _⟩
theorem getN_bound (l : List Int) (hb : isB l) (a w : Int) : 0 ≤ getN l a w ∧ getN l a w ≤ 18446744073709551615 := by
  unfold getN
  split
  · rename_i h
    obtain ⟨h0, h1, h2, h3⟩ := fits_yes h
    have h := leN_bound (l := (l.drop a.toNat).take w.toNat) ((hb.drop _).take _)
    have h4 : ((l.drop a.toNat).take w.toNat).length ≤ w.toNat := List.length_take_le _ _
    have h5 := pow256_le (show ((l.drop a.toNat).take w.toNat).length ≤ 8 by omega)
    omega
  · omega
theorem getN_bytes (l : List Int) (hb : isB l) (a w : Int) (h : fitsB l.length a w = true) : leB (getN l a w) (leW w) = (l.drop a.toNat).take w.toNat := by
  obtain ⟨h0, h1, h2, h3⟩ := fits_yes h
  have h4 := leB_leN (l := (l.drop a.toNat).take w.toNat) ((hb.drop _).take _)
  rw [List.length_take, List.length_drop, Nat.min_eq_left (by omega)] at h4
  rw [getN, if_pos h, show leW w = w.toNat by unfold leW; omega, h4]
theorem Rd.mid {w : World} {k : IntKind} {v : Value} {xs : List Int} (h : Rd w k v xs) : ∃ A c, v = .slice A xs.length c ∧ xs.length ≤ c ∧ xs.length ≤ 9223372036854775807 ∧ ReadsInt w k A xs.length xs := by
  obtain ⟨A, c, e, hc, hr⟩ := h
  exact ⟨A, c, e, hc, hr.2.1, hr⟩
end Go.Proofs.Ytigdchfjcfljjaa
end
section
/- A block that is filled, element by element. -/
namespace Go.Proofs.Ytigdchfjcfljjaa
open Go.RowKit Go.Proofs.YtigdchfjcfljjaaW.PrintWords Go.Proofs.YtigdchfjcfljjaaW.PrintLast Go.Proofs.YtigdchfjcfljjaaW.PrintMore
theorem own_blk {W : World} {base g : Nat} {e : TypeId} {k : IntKind} {xs : List Int} (h : W.heap[g]? = some (.cells (nums k xs).toArray e (0, 0))) (hb : base ≤ g) (hm : xs.length ≤ 9223372036854775807) : Own (Value.int k) W base e (.slice (some ⟨g, 0, none⟩) xs.length xs.length) xs :=
  ⟨by simp [encs], .inr ⟨g, xs.length, (nums k xs).toArray, rfl, hb, h, Nat.le_refl _, by simpa [maxLen] using hm, by simp [nums], by simp [nums, encs, List.take_of_length_le]⟩⟩
/-- What stands in a made slice when i elements are filled in. -/
def fillL (f : Nat → Int) (k i : Nat) : List Int := (List.range i).map f ++ List.replicate (k - i) 0
theorem fillL_len (f : Nat → Int) (k i : Nat) (h : i ≤ k) : (fillL f k i).length = k := by simp [fillL]; omega
theorem fillL_set (f : Nat → Int) (k i : Nat) (h : i < k) {x : Int} (hx : f i = x) : (fillL f k i).set i x = fillL f k (i + 1) := by
  subst hx
  unfold fillL
  rw [List.set_append_right _ _ (by simp), List.range_succ, List.map_append, List.length_map, List.length_range, Nat.sub_self]
  obtain ⟨m, hm⟩ : ∃ m, k - i = m + 1 := ⟨k - i - 1, by omega⟩
  rw [hm, List.replicate_succ, show k - (i + 1) = m by omega]
  simp
theorem nums_set (k : IntKind) (l : List Int) (i : Nat) (x : Int) : (nums k l).toArray.setIfInBounds i (.int k x) = (nums k (l.set i x)).toArray := by simp [nums, List.map_set]
theorem made_fill (k : IntKind) (f : Nat → Int) (n : Nat) : madeCells #[.int k 0] n = (nums k (fillL f n 0)).toArray := by
  apply Array.toList_inj.1
  rw [toList_madeCells_one]
  simp [fillL, nums]
end Go.Proofs.Ytigdchfjcfljjaa
end
section
/- make: a row of zeros. -/
namespace Go.Proofs.Ytigdchfjcfljjaa
open Go.RowKit Go.Proofs.YtigdchfjcfljjaaW.PrintWords Go.Proofs.YtigdchfjcfljjaaW.PrintLast Go.Proofs.YtigdchfjcfljjaaW.PrintMore
end Go.Proofs.Ytigdchfjcfljjaa
end
section
/- Images: what stands in memory; copies into rows of a call's own; slices.Clone. -/
namespace Go.Proofs.Ytigdchfjcfljjaa
open Go.RowKit Go.Proofs.YtigdchfjcfljjaaW.PrintWords Go.Proofs.YtigdchfjcfljjaaW.PrintLast Go.Proofs.YtigdchfjcfljjaaW.PrintMore
attribute [local go_sem] max2_int min2_int max_two min_two max_three min_three max_four min_four
/-- A header's numbers. -/
structure Hd where
  id : Int
  key : Int
  data : Int
  fields : Int
  made : Int
/-- The blocks of F, and what was made on the way. -/
def ext (F : Nat → Prop) (W W' : World) : Nat → Prop := fun k => F k ∨ (W.heap.size ≤ k ∧ k < W'.heap.size)
def imA (H : Hd) (vb : Value) (lim fr : Int) (vw : Value) : Array Value := #[.int .u64 H.id, .int .u64 H.key, .int .i64 H.data, .int .i64 H.fields, .int .u64 H.made, vb, .int .i64 lim, .int .i64 fr, vw]
/-- An image of the program's: header, bytes, limit, old end, words that were set. -/
def Im (W : World) (g base : Nat) (H : Hd) (B : List Int) (lim fr : Int) (ws : List Int) (F : Nat → Prop) (vb vw : Value) : Prop :=
  W.heap[g]? = some (.cells (imA H vb lim fr vw) 177 (0, 0)) ∧ OwnO (Value.int .u8) W base 5 vb B ∧ OwnO (Value.int .i64) W base 3 vw ws ∧ F g ∧ (∀ k, vb.ownBlock = some k → F k) ∧ (∀ k, vw.ownBlock = some k → F k) ∧ (∀ k, F k → base ≤ k ∧ k < W.heap.size)
section
variable {W W' : World} {g base : Nat} {H : Hd} {B ws : List Int} {lim fr : Int} {F S : Nat → Prop} {vb vw : Value}
theorem Im.move (h : Im W g base H B lim fr ws F vb vw) (hm : ∀ k, F k → W'.heap[k]? = W.heap[k]?) (hs : W.heap.size ≤ W'.heap.size) : Im W' g base H B lim fr ws F vb vw := by
  obtain ⟨h1, h2, h3, h4, h5, h6, h7⟩ := h
  exact ⟨(hm g h4).trans h1, h2.move (fun k hk => hm k (h5 k hk)), h3.move (fun k hk => hm k (h6 k hk)), h4, h5, h6, fun k hk => ⟨(h7 k hk).1, Nat.lt_of_lt_of_le (h7 k hk).2 hs⟩⟩
theorem Im.below (h : Im W g base H B lim fr ws F vb vw) (hb : Below W.heap.size W W') : Im W' g base H B lim fr ws F vb vw := h.move (fun k hk => hb.block k (h.2.2.2.2.2.2 k hk).2) hb.size
theorem Im.kp (h : Im W g base H B lim fr ws F vb vw) (hk : Kp S W W') (hn : ∀ k, F k → ¬ S k) : Im W' g base H B lim fr ws F vb vw := h.move (fun k hf => hk.block k (h.2.2.2.2.2.2 k hf).2 (hn k hf)) hk.size
theorem Im.blk (h : Im W g base H B lim fr ws F vb vw) : W.heap[g]? = some (.cells (imA H vb lim fr vw) 177 (0, 0)) := h.1
theorem Im.b (h : Im W g base H B lim fr ws F vb vw) : OwnO (Value.int .u8) W base 5 vb B := h.2.1
theorem Im.w (h : Im W g base H B lim fr ws F vb vw) : OwnO (Value.int .i64) W base 3 vw ws := h.2.2.1
theorem Im.lt (h : Im W g base H B lim fr ws F vb vw) {k : Nat} (hk : F k) : k < W.heap.size := (h.2.2.2.2.2.2 k hk).2
theorem Im.ge (h : Im W g base H B lim fr ws F vb vw) {k : Nat} (hk : F k) : base ≤ k := (h.2.2.2.2.2.2 k hk).1
theorem Im.g_lt (h : Im W g base H B lim fr ws F vb vw) : g < W.heap.size := h.lt h.2.2.2.1
theorem Im.bs (h : Im W g base H B lim fr ws F vb vw) : base ≤ W.heap.size := Nat.le_trans (h.ge h.2.2.2.1) (Nat.le_of_lt h.g_lt)
theorem Im.b_ne (h : Im W g base H B lim fr ws F vb vw) : vb.ownBlock ≠ some g := h.b.ne h.blk (by decide)
theorem Im.w_ne (h : Im W g base H B lim fr ws F vb vw) : vw.ownBlock ≠ some g := h.w.ne h.blk (by decide)
end
/-- What an operation leaves of an image. -/
def ImS (W W' : World) (g base : Nat) (H : Hd) (B : List Int) (lim fr : Int) (ws : List Int) (F : Nat → Prop) : Prop := (∃ vb vw, Im W' g base H B lim fr ws (ext F W W') vb vw) ∧ Kp F W W'
theorem ImS.same {W W' : World} {g base : Nat} {H : Hd} {B ws : List Int} {lim fr : Int} {F : Nat → Prop} {vb vw : Value} (h : Im W g base H B lim fr ws F vb vw) (hb : Below W.heap.size W W') : ImS W W' g base H B lim fr ws F := by
  obtain ⟨h1, h2, h3, h4, h5, h6, h7⟩ := h.below hb
  have hbase := h.bs
  exact ⟨⟨vb, vw, h1, h2, h3, .inl h4, fun k hk => .inl (h5 k hk), fun k hk => .inl (h6 k hk), fun k hk => hk.elim (h7 k) (fun hh => ⟨Nat.le_trans hbase hh.1, hh.2⟩)⟩, Kp.of_below hb _⟩
/-- copy: some numbers into a row of the call's own, at a place of it. -/
theorem copyO_step {P : Program} {ops : Array Oper} {o : Oper} {a : Act} {w : World} {Kc : Act → World → Prop} {Q : Exit → Act → World → Prop} (hw : Region.wanted o (yielded ops a.tmps) = true) (d s : Operand) {dT sT : TypeId}
    (ho : o.op = .call { callee := .builtin .copy, args := #[d, s], argTypes := #[dT, sT] }) {elem : TypeId} (hu : P.underlying dT = some (.slice elem)) (hsz : (P.info? elem).map (·.size) = some 1)
    {g off j dLen dCap nn cc base t : Nat} {ad : Addr} {n sLen sCap : Nat} {k : IntKind} {L : List Int} (HO : OwnO (Value.int k) w base t (.slice (some ⟨g, off, none⟩) nn cc) L) (hd : a.eval d = .slice (some ⟨g, off + j, none⟩) dLen dCap) (hs : a.eval s = .slice (some ad) sLen sCap) (cs : List Int)
    (hc : cs.length = n) (hn : n = Nat.min sLen dLen) (hsrc : ∀ i, i < n → w.cell? (ad.add i) = some (.int k (cs.getD i 0))) (hfit : j + n ≤ nn)
    (h : ∀ w', OwnO (Value.int k) w' base t (.slice (some ⟨g, off, none⟩) nn cc) (splice L j cs) → Kp (fun b => b = g) w w' → Kc (a.put o.dst (goInt n)) w') : if Region.wanted o (yielded ops a.tmps) = true then Oper.wp P o a w Kc Q else Kc (a.put o.dst undef) w := by
  rw [if_pos hw]
  rcases HO with ⟨hv, _⟩ | ⟨g', o', cap, cur, hv, hb, hg, hln, hm, hsz2, htk⟩
  · cases hv
  · simp only [Value.slice.injEq, Option.some.injEq, Addr.mk.injEq] at hv
    obtain ⟨⟨rfl, rfl, _⟩, rfl, rfl⟩ := hv
    have hcl : cur.toList.length = cur.size := Array.length_toList
    have e : (nums k cs).length = n := by simp [nums, hc]
    have hrun := run_copy_row (P := P) w dT sT o.type elem g (off + j) dLen dCap ad sLen sCap cur t (nums k cs) hu hsz hg (by rw [e]; exact hn) (fun i v hj => by
      simp only [nums, List.getElem?_map] at hj
      cases e : cs[i]? with
      | none => rw [e] at hj; cases hj
      | some x =>
        rw [e] at hj
        injection hj with hj
        have hjn : i < cs.length := (List.getElem?_eq_some_iff.1 e).1
        rw [hsrc i (by omega), List.getD_eq_getElem?_getD, e, ← hj]; rfl) (by rw [e]; omega) (fun v hv => by simp only [nums, List.mem_map] at hv; obtain ⟨z, _, rfl⟩ := hv; rfl)
    unfold Oper.wp
    simp [execOp, ho, resolve, invoke, builtin, hd, hs, hrun, Result.andThen]
    rw [e]
    refine h (w.setRow g (List.take (off + j) cur.toList ++ (nums k cs ++ List.drop (off + j + n) cur.toList)).toArray) ?_ (kp_setRow _ _ _)
    have hsl : (splice L j cs).length = L.length := by simp [splice]; omega
    have hg2 := setRow_heap w g cur (cur.toList.take (off + j) ++ (nums k cs ++ cur.toList.drop (off + j + n))).toArray _ (0, 0) hg
    refine .inr ⟨g, off, cc, _, by rw [hsl], hb, hg2, by rw [hsl]; exact hln, hm, ?_, ?_⟩
    · simp only [List.size_toArray, List.length_append, List.length_take, List.length_drop, e, hcl]; omega
    · rw [List.toList_toArray, hsl]
      have l1 : (List.take (off + j) cur.toList).length = off + j := by rw [List.length_take]; omega
      have hL : encs (Value.int k) L = (cur.toList.drop off).take L.length := htk.symm
      have hx : (List.take (off + j) cur.toList).drop off = (encs (Value.int k) L).take j := by
        rw [hL, List.take_take, Nat.min_eq_left (by omega), List.drop_take, Nat.add_sub_cancel_left]
      have hy : ((List.drop (off + j + n) cur.toList)).take (L.length - (j + n)) = (encs (Value.int k) L).drop (j + n) := by
        rw [hL, List.drop_take, List.drop_drop, ← Nat.add_assoc]
      have e3 : encs (Value.int k) (L.take j ++ (cs ++ L.drop (j + cs.length))) = (encs (Value.int k) L).take j ++ (nums k cs ++ (encs (Value.int k) L).drop (j + n)) := by simp only [encs, nums, List.map_append, List.map_take, List.map_drop, hc]
      rw [List.drop_append_of_le_length (by omega), hx, splice, e3]
      have l2 : ((encs (Value.int k) L).take j).length = j := by rw [List.length_take]; simp [encs]; omega
      rw [List.take_append, l2, List.take_of_length_le (show ((encs (Value.int k) L).take j).length ≤ L.length by omega), List.take_append, e, List.take_of_length_le (show (nums k cs).length ≤ L.length - j by omega), Nat.sub_sub, hy]
set_option maxHeartbeats 8000000 in
set_option maxRecDepth 100000 in
theorem Clone_calls (v : Value) (l : List Int) (w : World) (hr : Rd w .u8 v l) (hl : l.length ≤ 140737488355000) :
    Calls Try.prog 117 #[v] w fun e w' => ∃ v', e = .returned v' ∧ OwnO (Value.int .u8) w' w.heap.size 5 v' l ∧ Below w.heap.size w w' := by
  obtain ⟨A, c, rfl, hc, hrd⟩ := id hr
  cases A with
  | none =>
    have h0 : l = [] := by
      rcases Nat.eq_zero_or_pos l.length with h0 | h0
      · exact List.length_eq_zero_iff.1 h0
      · obtain ⟨ad, h, _⟩ := hrd.2.2 h0
        cases h
    subst h0
    clear hr hrd
    have hnil : ∀ W : World, (binOp .eql 22 (.slice none 0 c) (.slice none 0 0)).run Try.prog W = .ok (.bool true) W := fun W => by simpa using Lib.run_eql_slice_nil (P := Try.prog) W 22 5 none 0 c 0 0 Try.underlying22
    go_enter Try.func117, Try.ntmps117
    go_wp2_with fail
    go_ret
    exact ⟨_, rfl, OwnO.nil _ _ _ _, Below.refl _ _⟩
  | some ad =>
    have HO : OwnO (Value.int .u8) (w.alloc (.cells #[] 5)) w.heap.size 5 (.slice (some ⟨w.heap.size, 0, none⟩) 0 0) [] := OwnO.of_own (own_lit_of (enc := Value.int .u8) w w.heap.size 5 [] (Nat.le_refl _) (by simp))
    obtain ⟨A1, c1, w1, h1, h2, h3, _⟩ := app_rd (P := Try.prog) (d := (0 : Int)) (fun x => rfl) (t := 22) (ty := 22) Try.underlying22 infoU8 rfl (by omega) HO (rdE_int.2 (hr.below (below_alloc (Below.refl _ _) (.cells #[] 5)))) (k := 0) (m := l.length) rfl rfl (by simp) (by omega)
    rw [Nat.zero_add] at h1 h2
    rw [List.nil_append] at h2
    have H1 := Aside0.mk h1
    have H2 := Aside0.mk h2
    have H3 := Aside0.mk (Kp.from (below_alloc (Below.refl w.heap.size w) (.cells #[] 5)) h3 (fun b hb => HO.ge hb))
    clear h1 h2 h3 HO hr hrd
    have hnil : ∀ W : World, (binOp .eql 22 (.slice (some ad) l.length c) (.slice none 0 0)).run Try.prog W = .ok (.bool false) W := fun W => by simpa using Lib.run_eql_slice_nil (P := Try.prog) W 22 5 (some ad) l.length c 0 0 Try.underlying22
    go_enter Try.func117, Try.ntmps117
    go_wp2_with (first | ((with_reducible refine gate_builtin (b := .append) (xs := #[.tmp 5, .tmp 6]) rfl ?_); at_builtin; refine app_list rfl (.tmp 5) (.tmp 6) rfl rfl rfl H1.out ?_))
    go_ret
    exact ⟨_, rfl, H2.out, H3.out⟩
end Go.Proofs.Ytigdchfjcfljjaa
end
section
/- LeNumbers: what is read is what the reference reads, and it is written as it stands. -/
namespace Go.Proofs.Ytigdchfjcfljjaa
open Go.RowKit Go.Proofs.YtigdchfjcfljjaaW.PrintWords Go.Proofs.YtigdchfjcfljjaaW.PrintLast Go.Proofs.YtigdchfjcfljjaaW.PrintMore
attribute [local go_sem] max2_int min2_int max_two min_two max_three min_three max_four min_four
/-- v[a:b] reads as that part. -/
theorem Rd.cut (t e : TypeId) {k : IntKind} {i : TypeInfo} (ht : Try.prog.underlying t = some (.slice e)) (hi : Try.prog.info? e = some i) (hsz : i.size = 1) {w0 : World} {v : Value} {xs : List Int} (h : Rd w0 k v xs) (a b : Int) (h0 : 0 ≤ a) (h1 : a ≤ b) (hm : b ≤ xs.length) :
    ∃ v', (∀ W : World, (Instr.slice t v (some (.int .i64 a)) (some (.int .i64 b)) none).run Try.prog W = .ok v' W) ∧ (∀ w : World, Rd w k v xs → Rd w k v' ((xs.take b.toNat).drop a.toNat)) := by
  obtain ⟨A, c, rfl, hc, _⟩ := h
  obtain ⟨A', h2, h3, h4⟩ := print_mid_int (P := Try.prog) (k := k) t e ht hi hsz A c xs a b h0 h1 hm hc
  refine ⟨_, h2, fun w hw => ?_⟩
  obtain ⟨A2, c2, e2, _, hr⟩ := hw
  simp only [Value.slice.injEq] at e2
  obtain ⟨rfl, _, rfl⟩ := e2
  exact ⟨A', _, rfl, h4, h3 w hr⟩
theorem infoU8' : ∃ i, Try.prog.info? 5 = some i ∧ i.size = 1 := by
  obtain ⟨i, hi, h⟩ := Option.map_eq_some_iff.1 infoU8
  simp only [Prod.mk.injEq] at h
  exact ⟨i, hi, h.2.1⟩
theorem wf_isB {xs : List Int} (h : ∀ x ∈ xs, (Lit.int .u8 x).wf = true) : isB xs := fun x hx => bounds_u8 (h x hx)
end Go.Proofs.Ytigdchfjcfljjaa
end
section
/- Contracts of le.Writer over this translation: a block that holds a slice of the call's own. -/
namespace Go.Proofs.Ytigdchfjcfljjaa
open Go.RowKit Go.Proofs.YtigdchfjcfljjaaW.PrintWords Go.Proofs.YtigdchfjcfljjaaW.PrintLast Go.Proofs.YtigdchfjcfljjaaW.PrintMore
attribute [local go_sem] max2_int min2_int max_two min_two max_three min_three max_four min_four
/-- Block g is a writer that holds v, the bytes l, a row from block base on. -/
def WrV (W : World) (g base : Nat) (v : Value) (l : List Int) : Prop := W.heap[g]? = some (.cells #[v] 159 (0, 0)) ∧ Own (Value.int .u8) W base 5 v l
/-- What a writer's call does: it holds l' then; else only its row has changed. -/
def WrS (w w' : World) (g base : Nat) (v : Value) (l' : List Int) : Prop :=
  ∃ v', WrV w' g base v' l' ∧ Kp (fun k => k = g ∨ v.ownBlock = some k) w w' ∧ (v'.ownBlock = v.ownBlock ∨ ∃ b, v'.ownBlock = some b ∧ w.heap.size ≤ b)
theorem WrV.ne {W : World} {g base : Nat} {v : Value} {l : List Int} (h : WrV W g base v l) : v.ownBlock ≠ some g := h.2.ne h.1 (by decide)
theorem WrV.below {W W1 : World} {g base : Nat} {v : Value} {l : List Int} (h : WrV W g base v l) (hb : Below W.heap.size W W1) : WrV W1 g base v l := ⟨blk_below h.1 hb, h.2.below hb⟩
theorem WrV.kp {W W1 : World} {g base : Nat} {v : Value} {l : List Int} {S : Nat → Prop} (h : WrV W g base v l) (hk : Kp S W W1) (h1 : ¬ S g) (h2 : ∀ k, v.ownBlock = some k → ¬ S k) : WrV W1 g base v l := ⟨hk.blk h.1 h1, hk.own h.2 h2⟩
theorem WrS.refl {w : World} {g base : Nat} {v : Value} {l : List Int} (h : WrV w g base v l) : WrS w w g base v l := ⟨v, h, Kp.refl _ _, .inl rfl⟩
theorem WrS.trans {w w1 w2 : World} {g base : Nat} {v v1 : Value} {l2 : List Int} (hk : Kp (fun k => k = g ∨ v.ownBlock = some k) w w1) (ha : v1.ownBlock = v.ownBlock ∨ ∃ b, v1.ownBlock = some b ∧ w.heap.size ≤ b) (h2 : WrS w1 w2 g base v1 l2) : WrS w w2 g base v l2 := by
  obtain ⟨v2, hv2, hk2, ha2⟩ := h2
  refine ⟨v2, hv2, hk.trans hk2 (fun k hs => ?_), ?_⟩
  · rcases hs with rfl | hs
    · exact .inl (.inl rfl)
    · rcases ha with ha | ⟨b, ha, hb⟩
      · exact .inl (.inr (ha ▸ hs))
      · rw [ha] at hs; injection hs with hs; exact .inr (by omega)
  · rcases ha2 with ha2 | ⟨b, ha2, hb⟩
    · rw [ha2]; exact ha
    · exact .inr ⟨b, ha2, Nat.le_trans hk.size hb⟩
theorem WrS.below {w w1 w2 : World} {g base : Nat} {v : Value} {l : List Int} (h : WrS w w1 g base v l) (hb : Below w1.heap.size w1 w2) : WrS w w2 g base v l := by
  obtain ⟨v2, hv2, hk2, ha2⟩ := h
  exact ⟨v2, hv2.below hb, hk2.below hb, ha2⟩
/-- The last step of a writer's call: its row is appended to, and stored. -/
theorem WrS.stored {w w3 w4 : World} {g base : Nat} {v v4 : Value} {l l' : List Int} (h : WrV w g base v l) (hb : Below w.heap.size w w3) (hO : Own (Value.int .u8) w4 base 5 v4 l') (hg : w3.grownBy w4 v.ownBlock) (hat : v4.ownBlock = v.ownBlock ∨ ∃ b, v4.ownBlock = some b ∧ w3.heap.size ≤ b) :
    WrS w (w4.setCell ⟨g, 0, none⟩ v4) g base v l' := by
  have h3 := h.below hb
  have h4 : w4.heap[g]? = some (.cells #[v] 159 (0, 0)) := blk_grown h3.1 hg (fun e => h3.ne e.symm)
  have hne : v4.ownBlock ≠ some g := hO.ne h4 (by decide)
  refine ⟨v4, ⟨by simpa using blk_set h4 0 v4, hO.move (fun k hk => Below.heap_setCell w4 _ _ k (fun e => hne (by rw [hk, e])))⟩, ?_, ?_⟩
  · exact ((Kp.of_below hb _).trans (Kp.of_grown hg) (fun k hk => .inl (.inr hk))).trans (Kp.set w4 _ _) (fun k hk => .inl (.inl hk))
  · rcases hat with hat | ⟨b, hat, hle⟩
    · exact .inl hat
    · exact .inr ⟨b, hat, Nat.le_trans hb.size hle⟩
theorem oneU8 : ∀ x : Int, (Value.int .u8 x).oneCell' = true := fun _ => rfl
set_option maxHeartbeats 8000000 in
set_option maxRecDepth 100000 in
theorem Writer_Num_calls (n width : Int) (w : World) (g base : Nat) (v : Value) (l : List Int) (h : WrV w g base v l) (hbase : base ≤ w.heap.size) (hl : l.length ≤ 140737488355000) (h0 : 0 ≤ n) (h1 : n ≤ 18446744073709551615) :
    Calls Try.prog 94 #[.pointer (some ⟨g, 0, none⟩), .int .u64 n, .int .i64 width] w fun e w' => e = .returned (.tuple #[]) ∧ WrS w w' g base v (l ++ leB n (leW width)) := by
  have HH := Aside0.mk h
  have hc := blk_cell0 h.1
  have HL := Aside0.mk hl
  clear h hl
  go_enter Try.func94, Try.ntmps94
  go_wp2_with fail
  refine start_ (n := 12) (S := fun w' => w'.cell? ⟨g, 0, none⟩ = some v) (ds := [11]) #[false,false,false,false,false,false,false,false,false,false,false,false] (by kernel_rfl) rfl rfl (hc) (fun hHeld => ?_)
  refine pure_ (i := 0) (N := some 6) (v := ?_) (a' := ?_) #[true,false,false,false,false,false,false,false,false,false,false,false] rfl rfl (by kernel_rfl) (fun _ _ _ h => h) (Or.inl ⟨by rfl, ?_⟩) ?_ ?_
  rotate_left
  · intro w'
    go_simp
    with_reducible rfl
  rotate_left
  · simp only [Act.put, List.setIfInBounds_toArray, List.set_cons_zero, List.set_cons_succ, i64_w, i32_w]
    rfl
  refine pure_ (i := 1) (N := some 7) (v := ?_) (a' := ?_) #[true,true,false,false,false,false,false,false,false,false,false,false] rfl rfl (by kernel_rfl) (fun _ _ _ h => h) (Or.inl ⟨by rfl, ?_⟩) ?_ ?_
  rotate_left
  · intro w'
    go_simp
    with_reducible rfl
  rotate_left
  · simp only [Act.put, List.setIfInBounds_toArray, List.set_cons_zero, List.set_cons_succ, i64_w, i32_w]
    rfl
  refine pure_ (i := 2) (N := some 8) (v := ?_) (a' := ?_) #[true,true,true,false,false,false,false,false,false,false,false,false] rfl rfl (by kernel_rfl) (fun _ _ _ h => h) (Or.inl ⟨by rfl, ?_⟩) ?_ ?_
  rotate_left
  · intro w'
    go_simp
    with_reducible rfl
  rotate_left
  · simp only [Act.put, List.setIfInBounds_toArray, List.set_cons_zero, List.set_cons_succ, i64_w, i32_w]
    rfl
  refine pure_ (i := 3) (N := some 9) (v := ?_) (a' := ?_) #[true,true,true,true,false,false,false,false,false,false,false,false] rfl rfl (by kernel_rfl) (fun _ _ _ h => h) (Or.inl ⟨by rfl, ?_⟩) ?_ ?_
  rotate_left
  · intro w'
    go_simp
    with_reducible rfl
  rotate_left
  · simp only [Act.put, List.setIfInBounds_toArray, List.set_cons_zero, List.set_cons_succ, i64_w, i32_w]
    rfl
  refine pure_ (i := 5) (N := some 11) (v := ?_) (a' := ?_) #[true,true,true,true,false,true,false,false,false,false,false,false] rfl rfl (by kernel_rfl) (fun _ _ _ h => h) (Or.inl ⟨by rfl, ?_⟩) ?_ ?_
  rotate_left
  · intro w'
    go_simp
    with_reducible rfl
  rotate_left
  · simp only [Act.put, List.setIfInBounds_toArray, List.set_cons_zero, List.set_cons_succ, i64_w, i32_w]
    rfl
  refine pure_ (i := 6) (N := some 12) (v := ?_) (a' := ?_) #[true,true,true,true,false,true,true,false,false,false,false,false] rfl rfl (by kernel_rfl) (fun _ _ _ h => h) (Or.inl ⟨by rfl, ?_⟩) ?_ ?_
  rotate_left
  · intro w'
    go_simp
    with_reducible rfl
  rotate_left
  · simp only [Act.put, List.setIfInBounds_toArray, List.set_cons_zero, List.set_cons_succ, i64_w, i32_w]
    rfl
  refine take_ (i := 4) (N := some 10) (v := ?_) (a' := ?_) #[true,true,true,true,true,true,true,false,false,false,false,false] rfl rfl (by kernel_rfl) (fun _ _ _ h => h) (Or.inl ⟨by rfl, ?_⟩) hHeld ?_ ?_
  rotate_left
  · intro w' s0
    go_simp
    with_reducible rfl
  rotate_left
  · simp only [Act.put, List.setIfInBounds_toArray, List.set_cons_zero, List.set_cons_succ, i64_w, i32_w]
    rfl
  refine one_ (i := 7) (N := some 13) #[true,true,true,true,true,true,true,true,false,false,false,false] rfl rfl (by kernel_rfl) (by decide) (fun K hK => ?_)
  refine goes_ Try.func87 (by kernel_rfl) rfl #[.int .u64 n, .int .i64 width] (by rfl) rfl rfl (by (try simp only [List.map_toArray, List.map_cons, List.map_nil]); first | done | rfl) ?_
  with_reducible refine (le_Bytes_calls n width _ h0 h1).mono ?_
  rintro e w3 ⟨v3, rfl, hR3, hb3⟩
  refine ⟨_, rfl, ?_⟩
  have h3 := HH.out.below (below_step (below_drew (Below.refl _ _)) hb3)
  have hc3 := blk_cell0 h3.1
  obtain ⟨v4, w4, hrun4, hO4, hg4, hat4⟩ := app_run (P := Try.prog) (Value.int .u8) (0 : Int) oneU8 22 22 5 (.int .u8 0) 1 Try.underlying22 infoU8 rfl (by omega) h3.2 (Own.rdE (Own.of_R hR3) 0) (Nat.le_trans hbase (below_step (below_drew (Below.refl _ _)) hb3).size) (by have := HL.out; rw [leB_len]; unfold leW; omega)
  obtain ⟨A4, c4, e4⟩ := own_slice hO4
  subst e4
  have h4 : w4.heap[g]? = some (.cells #[v] 159 (0, 0)) := blk_grown h3.1 hg4 (fun e => h3.ne e.symm)
  have hc4 := blk_cell0 h4
  have hf4 := blk_frozen h4 0
  have HF := Aside0.mk (WrS.stored HH.out (below_step (below_drew (Below.refl _ _)) hb3) hO4 hg4 hat4)
  clear h3 h4 hO4 hg4 hat4 hR3
  have HR4 := Aside0.mk hrun4
  clear hrun4
  refine hK.out _ _ (hc3) (fun hHeld => ?_)
  clear hK K
  refine norm_ (a' := ?_) ?_ ?_
  rotate_left
  · show Act.put _ (some 13) _ = _
    simp only [Act.put, List.setIfInBounds_toArray, List.set_cons_zero, List.set_cons_succ, i64_w, i32_w]
    rfl
  refine one_ (i := 8) (N := some 14) #[true,true,true,true,true,true,true,true,true,false,false,false] rfl rfl (by kernel_rfl) (by decide) (fun K hK => ?_)
  refine app_step (by rfl) (.tmp 10) (.tmp 13) rfl rfl rfl HR4.out ?_
  refine hK.out _ _ (hc4) (fun hHeld => ?_)
  clear hK K
  refine norm_ (a' := ?_) ?_ ?_
  rotate_left
  · show Act.put _ (some 14) _ = _
    simp only [Act.put, List.setIfInBounds_toArray, List.set_cons_zero, List.set_cons_succ, i64_w, i32_w]
    rfl
  refine pure_ (i := 9) (N := some 15) (v := ?_) (a' := ?_) #[true,true,true,true,true,true,true,true,true,true,false,false] rfl rfl (by kernel_rfl) (fun _ _ _ h => h) (Or.inl ⟨by rfl, ?_⟩) ?_ ?_
  rotate_left
  · intro w'
    go_simp
    with_reducible rfl
  rotate_left
  · simp only [Act.put, List.setIfInBounds_toArray, List.set_cons_zero, List.set_cons_succ, i64_w, i32_w]
    rfl
  refine pure_ (i := 10) (N := some 16) (v := ?_) (a' := ?_) #[true,true,true,true,true,true,true,true,true,true,true,false] rfl rfl (by kernel_rfl) (fun _ _ _ h => h) (Or.inl ⟨by rfl, ?_⟩) ?_ ?_
  rotate_left
  · intro w'
    go_simp
    with_reducible rfl
  rotate_left
  · simp only [Act.put, List.setIfInBounds_toArray, List.set_cons_zero, List.set_cons_succ, i64_w, i32_w]
    rfl
  refine last_ (i := 11) (N := none) #[true,true,true,true,true,true,true,true,true,true,true,true] rfl rfl (by kernel_rfl) (by decide) (fun K hK => ?_)
  refine skip_ (w1 := ?_) (by rfl) rfl ?_ ?_
  rotate_left
  · go_simp
    rfl
  refine hK.out _ _ ?_
  clear hK K
  refine done_ (by kernel_rfl) ?_
  go_wp2_with fail
  go_end0
  exact ⟨rfl, by rw [← List.length_append]; exact HF.out⟩
theorem app8 {W : World} {base : Nat} {v u : Value} {xs ys : List Int} (HO : Own (Value.int .u8) W base 5 v xs) (HR : Rd W .u8 u ys) (hbase : base ≤ W.heap.size) (hl : xs.length + ys.length ≤ 140737488355328) :
    ∃ A1 c1 w1, (Builtin.append_ #[22, 22] 22 #[v, u]).run Try.prog W = .ok (.slice A1 (xs ++ ys).length c1) w1 ∧ Own (Value.int .u8) w1 base 5 (.slice A1 (xs ++ ys).length c1) (xs ++ ys) ∧ W.grownBy w1 v.ownBlock ∧ ((Value.slice A1 (xs ++ ys).length c1).ownBlock = v.ownBlock ∨ ∃ b, (Value.slice A1 (xs ++ ys).length c1).ownBlock = some b ∧ W.heap.size ≤ b) := by
  obtain ⟨v1, w1, hr, hO, hg, hat⟩ := app_run (P := Try.prog) (Value.int .u8) (0 : Int) oneU8 22 22 5 (.int .u8 0) 1 Try.underlying22 infoU8 rfl (by omega) HO HR hbase (by omega)
  obtain ⟨A1, c1, rfl⟩ := own_slice hO
  exact ⟨A1, c1, w1, hr, hO, hg, hat⟩
set_option maxHeartbeats 8000000 in
set_option maxRecDepth 100000 in
theorem Writer_Raw_calls (u : Value) (m : List Int) (w : World) (g base : Nat) (v : Value) (l : List Int) (h : WrV w g base v l) (hr : Rd w .u8 u m) (hbase : base ≤ w.heap.size) (hl : l.length + m.length ≤ 140737488355328) :
    Calls Try.prog 101 #[.pointer (some ⟨g, 0, none⟩), u] w fun e w' => e = .returned (.tuple #[]) ∧ WrS w w' g base v (l ++ m) := by
  have hc := blk_cell0 h.1
  obtain ⟨A4, c4, w4, hrun4, hO4, hg4, hat4⟩ := app8 h.2 hr hbase hl
  have h4 : w4.heap[g]? = some (.cells #[v] 159 (0, 0)) := blk_grown h.1 hg4 (fun e => h.ne e.symm)
  have hc4 := blk_cell0 h4
  have hf4 := blk_frozen h4 0
  have HF := Aside0.mk (WrS.stored h (Below.refl _ _) hO4 hg4 hat4)
  have HR4 := Aside0.mk hrun4
  obtain ⟨n, hn⟩ : ∃ n, (l ++ m).length = n := ⟨_, rfl⟩
  rw [hn] at HF HR4
  clear h hr h4 hO4 hg4 hat4 hrun4 hl hn
  go_enter Try.func101, Try.ntmps101
  go_wp2_with (first | ((with_reducible refine gate_builtin (b := .append) (xs := #[.tmp 8, .tmp 9]) rfl ?_); at_builtin; refine app_list rfl (.tmp 8) (.tmp 9) rfl rfl rfl HR4.out ?_))
  go_end0
  exact ⟨rfl, HF.out⟩
theorem WrV.len {W : World} {g base : Nat} {v : Value} {l : List Int} (h : WrV W g base v l) : ∃ A c, v = .slice A l.length c := own_slice h.2
set_option maxHeartbeats 8000000 in
set_option maxRecDepth 100000 in
theorem Clone8_calls (u : Value) (m : List Int) (w : World) (hr : Rd w .u8 u m) (hl : m.length ≤ 140737488355328) :
    Calls Try.prog 117 #[u] w fun e w' => ∃ v, e = .returned v ∧ Own (Value.int .u8) w' w.heap.size 5 v m ∧ Below w.heap.size w w' := by
  obtain ⟨A, c, rfl, hc, hr⟩ := hr
  have he := Lib.run_eql_slice_nil (P := Try.prog) w 22 5 A m.length c 0 0 Try.underlying22
  cases A with
  | none =>
    have hm : m = [] := by
      rcases Nat.eq_zero_or_pos m.length with h0 | h0
      · exact List.eq_nil_of_length_eq_zero h0
      · obtain ⟨ad, h, _⟩ := hr.2.2 h0; cases h
    have HM := Aside0.mk hm
    clear hr hm
    go_enter Try.func117, Try.ntmps117
    go_wp2
    go_ret
    exact ⟨_, rfl, by rw [HM.out]; exact Own.nil _ _ _ _, Below.refl _ _⟩
  | some ad =>
    have hO0 : Own (Value.int .u8) (w.alloc (.cells #[] 5)) w.heap.size 5 (.slice (some ⟨w.heap.size, 0, none⟩) 0 0) [] := own_lit w w.heap.size 5 .u8 [] (Nat.le_refl _) (by simp)
    have hR0 : Rd (w.alloc (.cells #[] 5)) .u8 (.slice (some ad) m.length c) m := Rd.below ⟨_, _, rfl, hc, hr⟩ (below_alloc (Below.refl _ _) _)
    obtain ⟨A4, c4, w4, hrun4, hO4, hg4, hat4⟩ := app8 hO0 hR0 (by simp) (by simpa using hl)
    have HB := Aside0.mk (Kp.to_below ((Kp.of_below (below_alloc (Below.refl w.heap.size w) (.cells #[] 5)) (fun k => k = w.heap.size)).trans (Kp.of_grown hg4) (fun k hk => by simp [Value.ownBlock] at hk; exact .inl hk.symm)) (fun k hk => by omega))
    have HO := Aside0.mk hO4
    have HR4 := Aside0.mk hrun4
    clear hO0 hR0 hrun4 hO4 hg4 hat4 hr hl
    simp only [List.nil_append] at HR4 HO
    go_enter Try.func117, Try.ntmps117
    go_wp2_with (first | ((with_reducible refine gate_builtin (b := .append) (xs := #[.tmp 5, .tmp 6]) rfl ?_); at_builtin; refine app_list rfl (.tmp 5) (.tmp 6) rfl rfl rfl HR4.out ?_))
    go_ret
    exact ⟨_, rfl, HO.out, HB.out⟩
set_option maxHeartbeats 8000000 in
set_option maxRecDepth 100000 in
theorem Writer_Done_calls (w : World) (g base : Nat) (v : Value) (l : List Int) (h : WrV w g base v l) (hl : l.length ≤ 140737488355328) :
    Calls Try.prog 96 #[.pointer (some ⟨g, 0, none⟩)] w fun e w' => ∃ v, e = .returned v ∧ Own (Value.int .u8) w' w.heap.size 5 v l ∧ Below w.heap.size w w' := by
  have hc := blk_cell0 h.1
  have HR := Aside0.mk (Own.rd h.2)
  clear h
  go_enter Try.func96, Try.ntmps96
  go_wp2_with fail
  refine (Clone8_calls v l _ HR.out hl).mono ?_
  rintro e w1 ⟨v1, rfl, hO, hb⟩
  have HO := Aside0.mk hO
  have HB := Aside0.mk hb
  clear hO hb
  go_wp2_with fail
  go_ret
  exact ⟨_, rfl, HO.out, HB.out⟩
/-- The bytes of numbers of eight bytes. -/
def words8 : List Int → List Int
  | [] => []
  | n :: r => leB n 8 ++ words8 r
theorem words8_len : ∀ l, (words8 l).length = 8 * l.length
  | [] => rfl
  | n :: r => by simp [words8, leB_len, words8_len r]; omega
theorem words8_snoc : ∀ (l : List Int) (n : Int), words8 (l ++ [n]) = words8 l ++ leB n 8
  | [], n => by simp [words8]
  | a :: l, n => by simp [words8, words8_snoc l n]
def isW (l : List Int) : Prop := ∀ x ∈ l, 0 ≤ x ∧ x ≤ 18446744073709551615
theorem isW.getD {l : List Int} (h : isW l) (i : Nat) : 0 ≤ l.getD i 0 ∧ l.getD i 0 ≤ 18446744073709551615 := by
  rw [List.getD_eq_getElem?_getD]
  cases e : l[i]? with
  | none => simp
  | some x => exact h x (List.mem_of_getElem? e)
set_option maxHeartbeats 8000000 in
set_option maxRecDepth 100000 in
theorem Writer_Words_calls (u : Value) (m : List Int) (hw : isW m) (w : World) (g base : Nat) (v : Value) (l : List Int) (h : WrV w g base v l) (hr : Rd w .u64 u m) (hfar : ∀ (A : Addr) n c, u = .slice (some A) n c → 0 < m.length → A.block ≠ g ∧ v.ownBlock ≠ some A.block) (hbase : base ≤ w.heap.size) (hl : l.length + 8 * m.length ≤ 140737488355000) :
    Calls Try.prog 93 #[.pointer (some ⟨g, 0, none⟩), u] w fun e w' => e = .returned (.tuple #[]) ∧ WrS w w' g base v (l ++ words8 m) := by
  have HH := Aside0.mk h
  have HU := Aside0.mk hr
  obtain ⟨A, c, rfl, hc, hr⟩ := hr
  have hm : m.length ≤ 9223372036854775807 := hr.2.1
  have HR := Aside0.mk hr
  have HW := Aside0.mk hw
  have HFAR := Aside0.mk hfar
  have HLL := Aside0.mk hl
  clear h hr hw hfar hl
  go_enter Try.func93, Try.ntmps93
  go_wp2
  go_loopw [5, 8] (fun v5 v8 w' => ∃ k : Nat, k ≤ m.length ∧ v8 = .int .i64 k ∧ Aside0 (WrS w w' g base v (l ++ words8 (m.take k)))) (fun _ v8 _ => m.length - (intOf v8).toNat)
  case atStart => exact ⟨0, by omega, rfl, ⟨by simpa [words8] using WrS.refl HH.out⟩⟩
  case round =>
    obtain ⟨k, hk, rfl, HS⟩ := hrel
    by_cases c1 : k < m.length
    · obtain ⟨v1, hv1, hk1, ha1⟩ := HS.out
      obtain ⟨ad, e, hcell⟩ := rd_at HR.out k c1
      obtain ⟨n, hn⟩ : ∃ n, m.getD k 0 = n := ⟨_, rfl⟩
      rw [hn] at hcell
      have hn0 := HW.out.getD k
      rw [hn] at hn0
      have hcell2 : wr.cell? (ad.add k) = some (.int .u64 n) := by
        have hf := HFAR.out ad _ _ (by rw [e]) (by omega)
        have := hk1.block ad.block (by have := World.block_lt_of_cell? w _ hcell; rwa [add_block] at this) (fun hh => hh.elim hf.1 hf.2)
        simp only [World.cell?, add_block] at hcell ⊢
        rw [this]; exact hcell
      have HN := Aside0.mk (show words8 (m.take (k + 1)) = words8 (m.take k) ++ leB n 8 by rw [take_snoc c1, hn, words8_snoc])
      have HLN := Aside0.mk (show (l ++ words8 (m.take k)).length ≤ 140737488355000 by have := HLL.out; rw [List.length_append, words8_len, List.length_take]; omega)
      clear hn hcell
      have HV1 := Aside0.mk hv1
      have HK1 := Aside0.mk hk1
      have HA1 := Aside0.mk ha1
      clear hv1 hk1 ha1
      cases e
      go_wp2_with fail
      refine (Writer_Num_calls n 8 _ g base v1 _ HV1.out (Nat.le_trans hbase HK1.out.size) HLN.out hn0.1 hn0.2).mono ?_
      rintro e w2 ⟨rfl, hs2⟩
      have HS2 := Aside0.mk (WrS.trans HK1.out HA1.out hs2)
      clear hs2
      go_wp2_with fail
      go_roundw
      case rel => exact ⟨k + 1, by omega, by go_num, ⟨by rw [HN.out, ← List.append_assoc]; exact HS2.out⟩⟩
      case measure => simp [intOf]; omega
    · have HJ := Aside0.mk (show m.take k = m from List.take_of_length_le (by omega))
      go_wp2
      go_end0
      exact ⟨rfl, by have := HS.out; rwa [HJ.out] at this⟩
/-- How many noughts fill up to the next multiple. -/
def padN (n q : Int) : Nat := if 0 < q then ((q - n % q) % q).toNat else 0
theorem padN_test (n q : Int) (hn : 0 ≤ n) (ht : 0 < q) (k : Nat) (hk : k ≤ padN n q) : (n + k) % q = 0 ↔ k = padN n q := by
  unfold padN at *
  rw [if_pos ht] at *
  have r0 := Int.emod_nonneg n (Int.ne_of_gt ht)
  have r1 := Int.emod_lt_of_pos n ht
  rw [show (n + k) % q = (n % q + k) % q from (Int.emod_add_emod n q k).symm]
  generalize n % q = r at *
  by_cases h : r = 0
  · subst h
    rw [Int.sub_zero, Int.emod_self] at hk ⊢
    have : k = 0 := by simpa using hk
    subst this
    simp
  · have e : (q - r) % q = q - r := Int.emod_eq_of_lt (by omega) (by omega)
    rw [e] at hk ⊢
    by_cases hlt : r + k < q
    · rw [Int.emod_eq_of_lt (by omega) hlt]; omega
    · have : r + k = q := by omega
      rw [this, Int.emod_self]; omega
theorem padN_le (n q : Int) : (padN n q : Int) ≤ max q 0 := by
  unfold padN
  split
  · rename_i h
    have := Int.emod_lt_of_pos (q - n % q) h
    have := Int.emod_nonneg (q - n % q) (Int.ne_of_gt h)
    omega
  · omega
set_option maxHeartbeats 8000000 in
set_option maxRecDepth 100000 in
theorem Writer_Pad_calls (q : Int) (w : World) (g base : Nat) (v : Value) (l : List Int) (h : WrV w g base v l) (hbase : base ≤ w.heap.size) (hl : l.length + padN l.length q ≤ 140737488355000) :
    Calls Try.prog 97 #[.pointer (some ⟨g, 0, none⟩), .int .i64 q] w fun e w' => e = .returned (.tuple #[]) ∧ WrS w w' g base v (l ++ List.replicate (padN l.length q) 0) := by
  have HH := Aside0.mk h
  have HLL := Aside0.mk hl
  clear h hl
  obtain ⟨p, hp⟩ : ∃ p, padN l.length q = p := ⟨_, rfl⟩
  have HP := Aside0.mk hp
  clear hp
  go_enter Try.func97, Try.ntmps97
  go_wp2
  go_loopg [] p (fun kq w' => ∃ k : Nat, k + kq = p ∧ Aside0 (WrS w w' g base v (l ++ List.replicate k 0))) 
  case atStart => exact ⟨0, by omega, ⟨by simpa using WrS.refl HH.out⟩⟩
  case round =>
    obtain ⟨k, hk, HS⟩ := hrel
    obtain ⟨v1, hv1, hk1, ha1⟩ := HS.out
    obtain ⟨A1, c1, e1⟩ := hv1.len
    have hcell := blk_cell0 hv1.1
    rw [e1, List.length_append, List.length_replicate] at hcell
    have HLEN := Aside0.mk (show (l ++ List.replicate k (0 : Int)).length ≤ 140737488355000 by have := HLL.out; rw [HP.out] at this; simp; omega)
    have HKP := Aside0.mk (show k ≤ p by omega)
    have HKK := Aside0.mk hk
    clear hk
    by_cases hq : 0 < q
    · have HT := Aside0.mk (padN_test l.length q (by omega) hq k (by rw [HP.out]; exact HKP.out))
      rw [HP.out] at HT
      have hne : ¬ q = 0 := by omega
      by_cases ck : k = p
      · have ht : (((l.length : Int) + k) % q != 0) = false := by rw [bne_eq_false_iff_eq]; exact HT.out.2 ck
        have HCK := Aside0.mk ck
        subst e1
        clear hv1 hk1 ha1 ck
        go_wp2
        go_end0
        exact ⟨rfl, by rw [HP.out, ← HCK.out]; exact HS.out⟩
      · have ht : (((l.length : Int) + k) % q != 0) = true := by rw [bne_iff_ne]; exact fun e => ck (HT.out.1 e)
        have hO1 := (hv1.below (below_alloc (Below.refl _ _) (.cells #[.int .u8 0] 5))).2
        have hL := Rd.lit wr .u8 5 [0] (by simp)
        obtain ⟨A4, c4, w4, hrun4, hO4, hg4, hat4⟩ := app8 hO1 hL (by have := hk1.size; simp; omega) (by have := HLEN.out; simp; simp at this; omega)
        have h4 : w4.heap[g]? = some (.cells #[v1] 159 (0, 0)) := blk_grown (hv1.below (below_alloc (Below.refl _ _) (.cells #[.int .u8 0] 5))).1 hg4 (fun e => hv1.ne e.symm)
        have hc4 := blk_cell0 h4
        have hf4 := blk_frozen h4 0
        have HF := Aside0.mk (WrS.trans hk1 ha1 (WrS.stored hv1 (below_alloc (Below.refl _ _) _) hO4 hg4 hat4))
        have HR4 := Aside0.mk hrun4
        obtain ⟨n, hn⟩ : ∃ n, (l ++ List.replicate k (0 : Int) ++ [0]).length = n := ⟨_, rfl⟩
        rw [hn] at HF HR4
        have HREP := Aside0.mk (show l ++ List.replicate (k + 1) (0 : Int) = l ++ List.replicate k 0 ++ [0] by rw [List.replicate_succ', List.append_assoc])
        have HCK := Aside0.mk (show k + 1 ≤ p by have := HKP.out; omega)
        clear hv1 hk1 ha1 ck hO1 hL hrun4 hO4 hg4 hat4 h4 hn
        subst e1
        rw [List.length_append, List.length_replicate] at HR4 hc4
        go_wp2_with (first | ((with_reducible refine gate_builtin (b := .append) (xs := #[.tmp 20, .tmp 21]) rfl ?_); at_builtin; refine app_list rfl (.tmp 20) (.tmp 21) rfl rfl rfl HR4.out ?_))
        go_roundg (p - (k + 1))
        case measure => have := HCK.out; have := HKK.out; omega
        case rel => exact ⟨k + 1, by have := HCK.out; omega, ⟨by rw [HREP.out]; exact HF.out⟩⟩
    · have hp0 : p = 0 := by rw [← HP.out, padN, if_neg hq]
      have HCK := Aside0.mk (show k = p by have := HKP.out; omega)
      subst e1
      clear hv1 hk1 ha1 hp0
      go_wp2
      go_end0
      exact ⟨rfl, by rw [HP.out, ← HCK.out]; exact HS.out⟩
theorem words8_isB : ∀ l, isB (words8 l)
  | [] => fun x hx => by simp [words8] at hx
  | n :: r => (leB_isB n 8).app (words8_isB r)
theorem Rd.reads {w w1 : World} {k : IntKind} {A : Option Addr} {c : Nat} {xs : List Int} (h : Rd w k (.slice A xs.length c) xs) (hb : Below w.heap.size w w1) : ReadsInt w1 k A xs.length xs := by
  obtain ⟨A2, c2, e, _, hr⟩ := h
  simp only [Value.slice.injEq] at e
  obtain ⟨rfl, _, _⟩ := e
  exact hr.below hb
theorem rd_old {w : World} {k : IntKind} {u : Value} {xs : List Int} (h : Rd w k u xs) {A : Addr} {n c : Nat} (e : u = .slice (some A) n c) (hpos : 0 < xs.length) : A.block < w.heap.size := by
  obtain ⟨A2, c2, e2, _, hr⟩ := h
  rw [e] at e2
  simp only [Value.slice.injEq] at e2
  obtain ⟨rfl, _, _⟩ := e2
  obtain ⟨ad, e3, hc⟩ := hr.2.2 hpos
  simp only [Option.some.injEq] at e3
  subst e3
  have := World.block_lt_of_cell? w _ (hc 0 hpos)
  rwa [add_block] at this
end Go.Proofs.Ytigdchfjcfljjaa
end
section
/- Contracts of le.Reader over this translation: a block of three cells: the bytes, the place, whether it went wrong. -/
namespace Go.Proofs.Ytigdchfjcfljjaa
open Go.RowKit Go.Proofs.YtigdchfjcfljjaaW.PrintWords Go.Proofs.YtigdchfjcfljjaaW.PrintLast Go.Proofs.YtigdchfjcfljjaaW.PrintMore
attribute [local go_sem] max2_int min2_int max_two min_two max_three min_three max_four min_four
def RrV (W : World) (g : Nat) (v : Value) (a : Int) (bad : Bool) : Prop := W.heap[g]? = some (.cells #[v, .int .i64 a, .bool bad] 200 (0, 0))
theorem RrV.c0 {W : World} {g : Nat} {v : Value} {a : Int} {bad : Bool} (h : RrV W g v a bad) : W.cell? ⟨g, 0, none⟩ = some v := blk_cell h 0
theorem RrV.c1 {W : World} {g : Nat} {v : Value} {a : Int} {bad : Bool} (h : RrV W g v a bad) : W.cell? ⟨g, 1, none⟩ = some (.int .i64 a) := blk_cell h 1
theorem RrV.c2 {W : World} {g : Nat} {v : Value} {a : Int} {bad : Bool} (h : RrV W g v a bad) : W.cell? ⟨g, 2, none⟩ = some (.bool bad) := blk_cell h 2
theorem RrV.below {W W1 : World} {g : Nat} {v : Value} {a : Int} {bad : Bool} (h : RrV W g v a bad) (hb : Below W.heap.size W W1) : RrV W1 g v a bad := blk_below h hb
theorem RrV.s1 {W : World} {g : Nat} {v : Value} {a : Int} {bad : Bool} (h : RrV W g v a bad) (b : Int) : RrV (W.setCell ⟨g, 1, none⟩ (.int .i64 b)) g v b bad := by have := blk_set h 1 (.int .i64 b); simpa [RrV] using this
theorem RrV.s2 {W : World} {g : Nat} {v : Value} {a : Int} {bad : Bool} (h : RrV W g v a bad) (b : Bool) : RrV (W.setCell ⟨g, 2, none⟩ (.bool b)) g v a b := by have := blk_set h 2 (.bool b); simpa [RrV] using this
theorem Rd.kp {w w1 : World} {k : IntKind} {u : Value} {xs : List Int} {S : Nat → Prop} (h : Rd w k u xs) (hk : Kp S w w1) (hS : ∀ (A : Addr) n c, u = .slice (some A) n c → 0 < xs.length → ¬ S A.block) : Rd w1 k u xs :=
  RdE.move (enc := Value.int k) (d := (0 : Int)) h (fun A ⟨n, c, e, hp⟩ => hk.block _ (rd_old h e hp) (hS A n c e hp))
/-- All is there: so many bytes may be taken. -/
def rOk (bad : Bool) (n a w : Int) : Bool := !bad && fitsB n a w
set_option maxHeartbeats 8000000 in
set_option maxRecDepth 100000 in
theorem le_Read_calls (v : Value) (l : List Int) (a : Int) (w : World) (hr : Rd w .u8 v l) (hl : (l.length : Int) ≤ 9223372036854775807) :
    Calls Try.prog 103 #[v, .int .i64 a] w fun e w' => e = .returned (.pointer (some ⟨w.heap.size, 0, none⟩)) ∧ Below w.heap.size w w' ∧ (if 0 ≤ a ∧ a ≤ (l.length : Int) then RrV w' w.heap.size v a false else RrV w' w.heap.size (.slice none 0 0) 0 true) := by
  obtain ⟨A, c, e, hc, hm, hr⟩ := hr.mid
  clear hr
  subst e
  by_cases c1 : a < 0
  · have H := Aside0.mk (show ¬ (0 ≤ a ∧ a ≤ (l.length : Int)) by omega)
    go_enter Try.func103, Try.ntmps103
    go_wp2
    go_ret
    exact ⟨rfl, below_alloc (Below.refl _ _) _, by first | exact blk_new _ _ | (rw [if_neg H.out]; exact blk_new _ _)⟩
  · by_cases c2 : (l.length : Int) < a
    · have H := Aside0.mk (show ¬ (0 ≤ a ∧ a ≤ (l.length : Int)) by omega)
      go_enter Try.func103, Try.ntmps103
      go_wp2
      go_ret
      exact ⟨rfl, below_alloc (Below.refl _ _) _, by first | exact blk_new _ _ | (rw [if_neg H.out]; exact blk_new _ _)⟩
    · have H := Aside0.mk (show (0 ≤ a ∧ a ≤ (l.length : Int)) by omega)
      go_enter Try.func103, Try.ntmps103
      go_wp2
      go_ret
      exact ⟨rfl, below_alloc (Below.refl _ _) _, by first | exact blk_new _ _ | (rw [if_pos H.out]; exact blk_new _ _)⟩
/-- What one number's taking makes of the place and the mark. -/
def RrN (w w' : World) (g : Nat) (v : Value) (l : List Int) (a : Int) (bad : Bool) (width : Int) : Prop := RrV w' g v (bif rOk bad l.length a width then a + width else a) (!(rOk bad l.length a width)) ∧ Kp (fun k => k = g) w w'
set_option maxHeartbeats 8000000 in
set_option maxRecDepth 100000 in
theorem Reader_Num_calls (width : Int) (w : World) (g : Nat) (v : Value) (l : List Int) (a : Int) (bad : Bool) (h : RrV w g v a bad) (hr : Rd w .u8 v l) (hb : isB l) :
    Calls Try.prog 144 #[.pointer (some ⟨g, 0, none⟩), .int .i64 width] w fun e w' => e = .returned (.int .u64 (bif rOk bad l.length a width then getN l a width else 0)) ∧ RrN w w' g v l a bad width := by
  have HH := Aside0.mk h
  have HV := Aside0.mk hr
  have HIB := Aside0.mk hb
  have hc0 := h.c0
  have hc1 := h.c1
  have hm : l.length ≤ 9223372036854775807 := by obtain ⟨_, _, _, _, hm, _⟩ := hr.mid; exact hm
  clear h hr hb
  cases hf : fitsB l.length a width with
  | false =>
    have HF := Aside0.mk hf
    have HO := Aside0.mk (show rOk bad l.length a width = false by simp [rOk, hf])
    clear hf
    go_enter Try.func144, Try.ntmps144
    go_wp2_with fail
    refine start_ (n := 15) (S := fun w' => w'.cell? ⟨g, 0, none⟩ = some v ∧ w'.cell? ⟨g, 1, none⟩ = some (.int .i64 a)) (ds := []) #[false,false,false,false,false,false,false,false,false,false,false,false,false,false,false] (by kernel_rfl) rfl rfl ⟨hc0, hc1⟩ (fun hHeld => ?_)
    refine pure_ (i := 0) (N := some 8) (v := ?_) (a' := ?_) #[true,false,false,false,false,false,false,false,false,false,false,false,false,false,false] rfl rfl (by kernel_rfl) (fun _ _ _ h => h) (Or.inl ⟨by rfl, ?_⟩) ?_ ?_
    rotate_left
    · intro w'
      go_simp
      with_reducible rfl
    rotate_left
    · simp only [Act.put, List.setIfInBounds_toArray, List.set_cons_zero, List.set_cons_succ, i64_w, i32_w]
      rfl
    refine pure_ (i := 1) (N := some 9) (v := ?_) (a' := ?_) #[true,true,false,false,false,false,false,false,false,false,false,false,false,false,false] rfl rfl (by kernel_rfl) (fun _ _ _ h => h) (Or.inl ⟨by rfl, ?_⟩) ?_ ?_
    rotate_left
    · intro w'
      go_simp
      with_reducible rfl
    rotate_left
    · simp only [Act.put, List.setIfInBounds_toArray, List.set_cons_zero, List.set_cons_succ, i64_w, i32_w]
      rfl
    refine pure_ (i := 2) (N := some 10) (v := ?_) (a' := ?_) #[true,true,true,false,false,false,false,false,false,false,false,false,false,false,false] rfl rfl (by kernel_rfl) (fun _ _ _ h => h) (Or.inl ⟨by rfl, ?_⟩) ?_ ?_
    rotate_left
    · intro w'
      go_simp
      with_reducible rfl
    rotate_left
    · simp only [Act.put, List.setIfInBounds_toArray, List.set_cons_zero, List.set_cons_succ, i64_w, i32_w]
      rfl
    refine pure_ (i := 4) (N := some 12) (v := ?_) (a' := ?_) #[true,true,true,false,true,false,false,false,false,false,false,false,false,false,false] rfl rfl (by kernel_rfl) (fun _ _ _ h => h) (Or.inl ⟨by rfl, ?_⟩) ?_ ?_
    rotate_left
    · intro w'
      go_simp
      with_reducible rfl
    rotate_left
    · simp only [Act.put, List.setIfInBounds_toArray, List.set_cons_zero, List.set_cons_succ, i64_w, i32_w]
      rfl
    refine pure_ (i := 5) (N := some 13) (v := ?_) (a' := ?_) #[true,true,true,false,true,true,false,false,false,false,false,false,false,false,false] rfl rfl (by kernel_rfl) (fun _ _ _ h => h) (Or.inl ⟨by rfl, ?_⟩) ?_ ?_
    rotate_left
    · intro w'
      go_simp
      with_reducible rfl
    rotate_left
    · simp only [Act.put, List.setIfInBounds_toArray, List.set_cons_zero, List.set_cons_succ, i64_w, i32_w]
      rfl
    refine pure_ (i := 6) (N := some 14) (v := ?_) (a' := ?_) #[true,true,true,false,true,true,true,false,false,false,false,false,false,false,false] rfl rfl (by kernel_rfl) (fun _ _ _ h => h) (Or.inl ⟨by rfl, ?_⟩) ?_ ?_
    rotate_left
    · intro w'
      go_simp
      with_reducible rfl
    rotate_left
    · simp only [Act.put, List.setIfInBounds_toArray, List.set_cons_zero, List.set_cons_succ, i64_w, i32_w]
      rfl
    refine pure_ (i := 8) (N := some 16) (v := ?_) (a' := ?_) #[true,true,true,false,true,true,true,false,true,false,false,false,false,false,false] rfl rfl (by kernel_rfl) (fun _ _ _ h => h) (Or.inl ⟨by rfl, ?_⟩) ?_ ?_
    rotate_left
    · intro w'
      go_simp
      with_reducible rfl
    rotate_left
    · simp only [Act.put, List.setIfInBounds_toArray, List.set_cons_zero, List.set_cons_succ, i64_w, i32_w]
      rfl
    refine take_ (i := 3) (N := some 11) (v := ?_) (a' := ?_) #[true,true,true,true,true,true,true,false,true,false,false,false,false,false,false] rfl rfl (by kernel_rfl) (fun _ _ _ h => h) (Or.inl ⟨by rfl, ?_⟩) hHeld ?_ ?_
    rotate_left
    · rintro w' ⟨s0, s1⟩
      go_simp
      with_reducible rfl
    rotate_left
    · simp only [Act.put, List.setIfInBounds_toArray, List.set_cons_zero, List.set_cons_succ, i64_w, i32_w]
      rfl
    refine take_ (i := 7) (N := some 15) (v := ?_) (a' := ?_) #[true,true,true,true,true,true,true,true,true,false,false,false,false,false,false] rfl rfl (by kernel_rfl) (fun _ _ _ h => h) (Or.inl ⟨by rfl, ?_⟩) hHeld ?_ ?_
    rotate_left
    · rintro w' ⟨s0, s1⟩
      go_simp
      with_reducible rfl
    rotate_left
    · simp only [Act.put, List.setIfInBounds_toArray, List.set_cons_zero, List.set_cons_succ, i64_w, i32_w]
      rfl
    refine one_ (i := 9) (N := some 17) #[true,true,true,true,true,true,true,true,true,true,false,false,false,false,false] rfl rfl (by kernel_rfl) (by decide) (fun K hK => ?_)
    refine goes_ Try.func88 (by kernel_rfl) rfl #[v, .int .i64 a, .int .i64 width] (by rfl) rfl rfl (by (try simp only [List.map_toArray, List.map_cons, List.map_nil]); first | done | rfl) ?_
    with_reducible refine (le_Get_calls v l a width _ (HV.out.below (below_drew (Below.refl _ _))) HIB.out).mono ?_
    rintro e w3 ⟨rfl, hb3⟩
    refine ⟨_, rfl, ?_⟩
    have h3 := HH.out.below (below_step (below_drew (Below.refl _ _)) hb3)
    have hc30 := h3.c0
    have hc31 := h3.c1
    rw [HF.out]
    refine hK.out _ _ ⟨hc30, hc31⟩ (fun hHeld => ?_)
    clear hK K
    refine norm_ (a' := ?_) ?_ ?_
    rotate_left
    · show Act.put _ (some 17) _ = _
      simp only [Act.put, List.setIfInBounds_toArray, List.set_cons_zero, List.set_cons_succ, i64_w, i32_w]
      rfl
    refine pure_ (i := 10) (N := some 7) (v := ?_) (a' := ?_) #[true,true,true,true,true,true,true,true,true,true,true,false,false,false,false] rfl rfl (by kernel_rfl) (fun _ _ _ h => h) (Or.inl ⟨by rfl, ?_⟩) ?_ ?_
    rotate_left
    · intro w'
      go_simp
      with_reducible rfl
    rotate_left
    · simp only [Act.put, List.setIfInBounds_toArray, List.set_cons_zero, List.set_cons_succ, i64_w, i32_w]
      rfl
    refine pure_ (i := 11) (N := some 18) (v := ?_) (a' := ?_) #[true,true,true,true,true,true,true,true,true,true,true,true,false,false,false] rfl rfl (by kernel_rfl) (fun _ _ _ h => h) (Or.inl ⟨by rfl, ?_⟩) ?_ ?_
    rotate_left
    · intro w'
      go_simp
      with_reducible rfl
    rotate_left
    · simp only [Act.put, List.setIfInBounds_toArray, List.set_cons_zero, List.set_cons_succ, i64_w, i32_w]
      rfl
    refine pure_ (i := 12) (N := some 19) (v := ?_) (a' := ?_) #[true,true,true,true,true,true,true,true,true,true,true,true,true,false,false] rfl rfl (by kernel_rfl) (fun _ _ _ h => h) (Or.inl ⟨by rfl, ?_⟩) ?_ ?_
    rotate_left
    · intro w'
      go_simp
      with_reducible rfl
    rotate_left
    · simp only [Act.put, List.setIfInBounds_toArray, List.set_cons_zero, List.set_cons_succ, i64_w, i32_w]
      rfl
    refine pure_ (i := 13) (N := some 5) (v := ?_) (a' := ?_) #[true,true,true,true,true,true,true,true,true,true,true,true,true,true,false] rfl rfl (by kernel_rfl) (fun _ _ _ h => h) (Or.inl ⟨by rfl, ?_⟩) ?_ ?_
    rotate_left
    · intro w'
      go_simp
      with_reducible rfl
    rotate_left
    · simp only [Act.put, List.setIfInBounds_toArray, List.set_cons_zero, List.set_cons_succ, i64_w, i32_w]
      rfl
    refine pure_ (i := 14) (N := some 6) (v := ?_) (a' := ?_) #[true,true,true,true,true,true,true,true,true,true,true,true,true,true,true] rfl rfl (by kernel_rfl) (fun _ _ _ h => h) (Or.inl ⟨by rfl, ?_⟩) ?_ ?_
    rotate_left
    · intro w'
      go_simp
      with_reducible rfl
    rotate_left
    · simp only [Act.put, List.setIfInBounds_toArray, List.set_cons_zero, List.set_cons_succ, i64_w, i32_w]
      rfl
    refine done_ (by kernel_rfl) ?_
    have HB3 := Aside0.mk (below_step (below_drew (Below.refl _ _)) hb3)
    have hc32 := h3.c2
    have hf2 := blk_frozen h3 2
    have HH3 := Aside0.mk h3
    clear hb3 h3
    cases bad with
    | false =>
      go_wp2_with fail
      go_ret
      exact ⟨by rw [HO.out]; rfl, by rw [RrN, HO.out]; exact ⟨HH3.out.s2 true, (Kp.of_below HB3.out _).trans (Kp.set _ _ _) (fun k hk => .inl hk)⟩⟩
    | true =>
      go_wp2_with fail
      go_ret
      exact ⟨by rw [HO.out]; rfl, by rw [RrN, HO.out]; exact ⟨HH3.out.s2 true, (Kp.of_below HB3.out _).trans (Kp.set _ _ _) (fun k hk => .inl hk)⟩⟩
  | true =>
    have HF := Aside0.mk hf
    obtain ⟨q0, q1, q2, q3⟩ := fits_yes hf
    have hsum : wrap64 (a + width) = a + width := by unfold wrap64; omega
    obtain ⟨n, hn⟩ : ∃ n, getN l a width = n := ⟨_, rfl⟩
    rw [hn]
    have HN := Aside0.mk hn
    clear hf q0 hn
    go_enter Try.func144, Try.ntmps144
    go_wp2_with fail
    refine start_ (n := 15) (S := fun w' => w'.cell? ⟨g, 0, none⟩ = some v ∧ w'.cell? ⟨g, 1, none⟩ = some (.int .i64 a)) (ds := []) #[false,false,false,false,false,false,false,false,false,false,false,false,false,false,false] (by kernel_rfl) rfl rfl ⟨hc0, hc1⟩ (fun hHeld => ?_)
    refine pure_ (i := 0) (N := some 8) (v := ?_) (a' := ?_) #[true,false,false,false,false,false,false,false,false,false,false,false,false,false,false] rfl rfl (by kernel_rfl) (fun _ _ _ h => h) (Or.inl ⟨by rfl, ?_⟩) ?_ ?_
    rotate_left
    · intro w'
      go_simp
      with_reducible rfl
    rotate_left
    · simp only [Act.put, List.setIfInBounds_toArray, List.set_cons_zero, List.set_cons_succ, i64_w, i32_w]
      rfl
    refine pure_ (i := 1) (N := some 9) (v := ?_) (a' := ?_) #[true,true,false,false,false,false,false,false,false,false,false,false,false,false,false] rfl rfl (by kernel_rfl) (fun _ _ _ h => h) (Or.inl ⟨by rfl, ?_⟩) ?_ ?_
    rotate_left
    · intro w'
      go_simp
      with_reducible rfl
    rotate_left
    · simp only [Act.put, List.setIfInBounds_toArray, List.set_cons_zero, List.set_cons_succ, i64_w, i32_w]
      rfl
    refine pure_ (i := 2) (N := some 10) (v := ?_) (a' := ?_) #[true,true,true,false,false,false,false,false,false,false,false,false,false,false,false] rfl rfl (by kernel_rfl) (fun _ _ _ h => h) (Or.inl ⟨by rfl, ?_⟩) ?_ ?_
    rotate_left
    · intro w'
      go_simp
      with_reducible rfl
    rotate_left
    · simp only [Act.put, List.setIfInBounds_toArray, List.set_cons_zero, List.set_cons_succ, i64_w, i32_w]
      rfl
    refine pure_ (i := 4) (N := some 12) (v := ?_) (a' := ?_) #[true,true,true,false,true,false,false,false,false,false,false,false,false,false,false] rfl rfl (by kernel_rfl) (fun _ _ _ h => h) (Or.inl ⟨by rfl, ?_⟩) ?_ ?_
    rotate_left
    · intro w'
      go_simp
      with_reducible rfl
    rotate_left
    · simp only [Act.put, List.setIfInBounds_toArray, List.set_cons_zero, List.set_cons_succ, i64_w, i32_w]
      rfl
    refine pure_ (i := 5) (N := some 13) (v := ?_) (a' := ?_) #[true,true,true,false,true,true,false,false,false,false,false,false,false,false,false] rfl rfl (by kernel_rfl) (fun _ _ _ h => h) (Or.inl ⟨by rfl, ?_⟩) ?_ ?_
    rotate_left
    · intro w'
      go_simp
      with_reducible rfl
    rotate_left
    · simp only [Act.put, List.setIfInBounds_toArray, List.set_cons_zero, List.set_cons_succ, i64_w, i32_w]
      rfl
    refine pure_ (i := 6) (N := some 14) (v := ?_) (a' := ?_) #[true,true,true,false,true,true,true,false,false,false,false,false,false,false,false] rfl rfl (by kernel_rfl) (fun _ _ _ h => h) (Or.inl ⟨by rfl, ?_⟩) ?_ ?_
    rotate_left
    · intro w'
      go_simp
      with_reducible rfl
    rotate_left
    · simp only [Act.put, List.setIfInBounds_toArray, List.set_cons_zero, List.set_cons_succ, i64_w, i32_w]
      rfl
    refine pure_ (i := 8) (N := some 16) (v := ?_) (a' := ?_) #[true,true,true,false,true,true,true,false,true,false,false,false,false,false,false] rfl rfl (by kernel_rfl) (fun _ _ _ h => h) (Or.inl ⟨by rfl, ?_⟩) ?_ ?_
    rotate_left
    · intro w'
      go_simp
      with_reducible rfl
    rotate_left
    · simp only [Act.put, List.setIfInBounds_toArray, List.set_cons_zero, List.set_cons_succ, i64_w, i32_w]
      rfl
    refine take_ (i := 3) (N := some 11) (v := ?_) (a' := ?_) #[true,true,true,true,true,true,true,false,true,false,false,false,false,false,false] rfl rfl (by kernel_rfl) (fun _ _ _ h => h) (Or.inl ⟨by rfl, ?_⟩) hHeld ?_ ?_
    rotate_left
    · rintro w' ⟨s0, s1⟩
      go_simp
      with_reducible rfl
    rotate_left
    · simp only [Act.put, List.setIfInBounds_toArray, List.set_cons_zero, List.set_cons_succ, i64_w, i32_w]
      rfl
    refine take_ (i := 7) (N := some 15) (v := ?_) (a' := ?_) #[true,true,true,true,true,true,true,true,true,false,false,false,false,false,false] rfl rfl (by kernel_rfl) (fun _ _ _ h => h) (Or.inl ⟨by rfl, ?_⟩) hHeld ?_ ?_
    rotate_left
    · rintro w' ⟨s0, s1⟩
      go_simp
      with_reducible rfl
    rotate_left
    · simp only [Act.put, List.setIfInBounds_toArray, List.set_cons_zero, List.set_cons_succ, i64_w, i32_w]
      rfl
    refine one_ (i := 9) (N := some 17) #[true,true,true,true,true,true,true,true,true,true,false,false,false,false,false] rfl rfl (by kernel_rfl) (by decide) (fun K hK => ?_)
    refine goes_ Try.func88 (by kernel_rfl) rfl #[v, .int .i64 a, .int .i64 width] (by rfl) rfl rfl (by (try simp only [List.map_toArray, List.map_cons, List.map_nil]); first | done | rfl) ?_
    with_reducible refine (le_Get_calls v l a width _ (HV.out.below (below_drew (Below.refl _ _))) HIB.out).mono ?_
    rintro e w3 ⟨rfl, hb3⟩
    refine ⟨_, rfl, ?_⟩
    have h3 := HH.out.below (below_step (below_drew (Below.refl _ _)) hb3)
    have hc30 := h3.c0
    have hc31 := h3.c1
    rw [HF.out, HN.out]
    refine hK.out _ _ ⟨hc30, hc31⟩ (fun hHeld => ?_)
    clear hK K
    refine norm_ (a' := ?_) ?_ ?_
    rotate_left
    · show Act.put _ (some 17) _ = _
      simp only [Act.put, List.setIfInBounds_toArray, List.set_cons_zero, List.set_cons_succ, i64_w, i32_w]
      rfl
    refine pure_ (i := 10) (N := some 7) (v := ?_) (a' := ?_) #[true,true,true,true,true,true,true,true,true,true,true,false,false,false,false] rfl rfl (by kernel_rfl) (fun _ _ _ h => h) (Or.inl ⟨by rfl, ?_⟩) ?_ ?_
    rotate_left
    · intro w'
      go_simp
      with_reducible rfl
    rotate_left
    · simp only [Act.put, List.setIfInBounds_toArray, List.set_cons_zero, List.set_cons_succ, i64_w, i32_w]
      rfl
    refine pure_ (i := 11) (N := some 18) (v := ?_) (a' := ?_) #[true,true,true,true,true,true,true,true,true,true,true,true,false,false,false] rfl rfl (by kernel_rfl) (fun _ _ _ h => h) (Or.inl ⟨by rfl, ?_⟩) ?_ ?_
    rotate_left
    · intro w'
      go_simp
      with_reducible rfl
    rotate_left
    · simp only [Act.put, List.setIfInBounds_toArray, List.set_cons_zero, List.set_cons_succ, i64_w, i32_w]
      rfl
    refine pure_ (i := 12) (N := some 19) (v := ?_) (a' := ?_) #[true,true,true,true,true,true,true,true,true,true,true,true,true,false,false] rfl rfl (by kernel_rfl) (fun _ _ _ h => h) (Or.inl ⟨by rfl, ?_⟩) ?_ ?_
    rotate_left
    · intro w'
      go_simp
      with_reducible rfl
    rotate_left
    · simp only [Act.put, List.setIfInBounds_toArray, List.set_cons_zero, List.set_cons_succ, i64_w, i32_w]
      rfl
    refine pure_ (i := 13) (N := some 5) (v := ?_) (a' := ?_) #[true,true,true,true,true,true,true,true,true,true,true,true,true,true,false] rfl rfl (by kernel_rfl) (fun _ _ _ h => h) (Or.inl ⟨by rfl, ?_⟩) ?_ ?_
    rotate_left
    · intro w'
      go_simp
      with_reducible rfl
    rotate_left
    · simp only [Act.put, List.setIfInBounds_toArray, List.set_cons_zero, List.set_cons_succ, i64_w, i32_w]
      rfl
    refine pure_ (i := 14) (N := some 6) (v := ?_) (a' := ?_) #[true,true,true,true,true,true,true,true,true,true,true,true,true,true,true] rfl rfl (by kernel_rfl) (fun _ _ _ h => h) (Or.inl ⟨by rfl, ?_⟩) ?_ ?_
    rotate_left
    · intro w'
      go_simp
      with_reducible rfl
    rotate_left
    · simp only [Act.put, List.setIfInBounds_toArray, List.set_cons_zero, List.set_cons_succ, i64_w, i32_w]
      rfl
    refine done_ (by kernel_rfl) ?_
    have HB3 := Aside0.mk (below_step (below_drew (Below.refl _ _)) hb3)
    have hc31 := h3.c1
    have hc32 := h3.c2
    have hf1 := blk_frozen h3 1
    have hf2 := blk_frozen h3 2
    have HH3 := Aside0.mk h3
    clear hb3 h3
    cases bad with
    | false =>
      have HO := Aside0.mk (show rOk false l.length a width = true by simp [rOk, HF.out])
      go_wp2_with fail
      go_ret
      exact ⟨by rw [HO.out]; rfl, by rw [RrN, HO.out]; exact ⟨HH3.out.s1 _, (Kp.of_below HB3.out _).trans (Kp.set _ _ _) (fun k hk => .inl hk)⟩⟩
    | true =>
      have HO := Aside0.mk (show rOk true l.length a width = false by simp [rOk])
      go_wp2_with fail
      go_ret
      exact ⟨by rw [HO.out]; rfl, by rw [RrN, HO.out]; exact ⟨HH3.out.s2 true, (Kp.of_below HB3.out _).trans (Kp.set _ _ _) (fun k hk => .inl hk)⟩⟩
end Go.Proofs.Ytigdchfjcfljjaa
end
section
/- le.Reader's Words and Raw; the reference's Words. -/
namespace Go.Proofs.Ytigdchfjcfljjaa
open Go.RowKit Go.Proofs.YtigdchfjcfljjaaW.PrintWords Go.Proofs.YtigdchfjcfljjaaW.PrintLast Go.Proofs.YtigdchfjcfljjaaW.PrintMore
attribute [local go_sem] max2_int min2_int max_two min_two max_three min_three max_four min_four
/-- The numbers of eight bytes from a on. -/
def wordsAt (l : List Int) (a : Int) (k : Nat) : List Int := (List.range k).map fun i : Nat => getN l (a + 8 * (i : Int)) 8
theorem wordsAt_len (l : List Int) (a : Int) (k : Nat) : (wordsAt l a k).length = k := by simp [wordsAt]
theorem wordsAt_fill (l : List Int) (a : Int) (k : Nat) : fillL (fun i => getN l (a + 8 * i) 8) k k = wordsAt l a k := by simp [fillL, wordsAt]
theorem wordsAt_isW (l : List Int) (hb : isB l) (a : Int) (k : Nat) : isW (wordsAt l a k) := by
  intro x hx
  simp only [wordsAt, List.mem_map] at hx
  obtain ⟨i, _, rfl⟩ := hx
  exact getN_bound l hb _ _
def wOk (bad : Bool) (n a k : Int) : Bool := !bad && decide (0 ≤ k ∧ k ≤ (n - a) / 8)
theorem infoU64 : (Try.prog.info? 32).map (fun i => (i.zero, i.size, i.bytes)) = some (some (.int .u64 0), 1, 8) := by kernel_rfl
def RrW (w w' : World) (g : Nat) (v : Value) (l : List Int) (a : Int) (bad : Bool) (k : Int) : Prop := RrV w' g v (bif wOk bad l.length a k then a + 8 * k else a) (!(wOk bad l.length a k)) ∧ Kp (fun b => b = g) w w'
set_option maxHeartbeats 8000000 in
set_option maxRecDepth 100000 in
theorem Reader_Words_calls (k : Int) (w : World) (g : Nat) (v : Value) (l : List Int) (a : Int) (bad : Bool) (h : RrV w g v a bad) (hr : Rd w .u8 v l) (hb : isB l) (hfar : ∀ (A : Addr) n c, v = .slice (some A) n c → 0 < l.length → A.block ≠ g) (ha0 : 0 ≤ a) (ha1 : a ≤ (l.length : Int)) (hl : l.length ≤ 140737488355328) :
    Calls Try.prog 104 #[.pointer (some ⟨g, 0, none⟩), .int .i64 k] w fun e w' => ∃ u, e = .returned u ∧ Own (Value.int .u64) w' w.heap.size 32 u (bif wOk bad l.length a k then wordsAt l a k.toNat else []) ∧ RrW w w' g v l a bad k := by
  have HH := Aside0.mk h
  have HV := Aside0.mk hr
  have HIB := Aside0.mk hb
  have HFAR := Aside0.mk hfar
  have hc0 := h.c0
  have hc1 := h.c1
  have hc2 := h.c2
  have hf2 := blk_frozen h 2
  obtain ⟨A, c, ev, hc, hm, hrd⟩ := hr.mid
  clear h hr hb hfar hrd
  subst ev
  obtain ⟨q, hq⟩ : ∃ q : Int, ((l.length : Int) - a) / 8 = q := ⟨_, rfl⟩
  obtain ⟨hq0, hq1, hq2⟩ : 0 ≤ q ∧ a + 8 * q ≤ (l.length : Int) ∧ q ≤ 17592186044416 := by omega
  have hsub : IntKind.i64.wrap ((l.length : Int) - a) = (l.length : Int) - a := by rw [IntKind.wrap_i64]; omega
  have hquo : IntKind.i64.wrap (((l.length : Int) - a).tdiv 8) = q := by rw [Int.tdiv_eq_ediv_of_nonneg (by omega), hq, IntKind.wrap_i64]; omega
  have HQ := Aside0.mk hq
  clear hq
  have HNO : wOk bad l.length a k = false → Aside0 (∀ nq, ∃ u, (.returned (.slice none 0 0) : Ending) = .returned u ∧ Own (Value.int .u64) ((w.drewN nq).setCell ⟨g, 2, none⟩ (.bool true)) w.heap.size 32 u (bif wOk bad l.length a k then wordsAt l a k.toNat else []) ∧ RrW w ((w.drewN nq).setCell ⟨g, 2, none⟩ (.bool true)) g (.slice A l.length c) l a bad k) := fun e => ⟨fun nq => ⟨_, rfl, by rw [e]; exact Own.nil _ _ _ _, by
    rw [RrW, e]
    exact ⟨(HH.out.below (pw_below_drewN (Below.refl _ _) nq)).s2 true, ((Kp.of_below (pw_below_drewN (Below.refl _ _) nq) _).trans (Kp.set _ _ _) (fun k hk => .inl hk))⟩⟩⟩
  cases bad with
  | true =>
    have H := HNO (by simp [wOk])
    clear HNO
    go_enter Try.func104, Try.ntmps104
    go_wp2_with fail
    go_quiet (fail)
    go_wp2_with fail
    go_ret
    exact H.out _
  | false =>
    by_cases c1 : k < 0
    · have H := HNO (by have := HQ.out; simp [wOk]; omega)
      clear HNO
      go_enter Try.func104, Try.ntmps104
      go_wp2_with fail
      go_quiet (fail)
      go_wp2_with fail
      go_ret
      exact H.out _
    · by_cases c2 : q < k
      · have d1 : decide (k < 0) = false := decide_eq_false c1
        have d2 : decide (q < k) = true := decide_eq_true c2
        have H := HNO (by have := HQ.out; simp [wOk]; omega)
        clear HNO
        go_enter Try.func104, Try.ntmps104
        go_wp2_with fail
        go_quiet (fail)
        go_wp2_with fail
        go_ret
        exact H.out _
      · have HO := Aside0.mk (show wOk false l.length a k = true by have := HQ.out; simp [wOk]; omega)
        have d1 : decide (k < 0) = false := decide_eq_false c1
        have d2 : decide (q < k) = false := decide_eq_false c2
        clear HNO
        rw [HO.out]
        simp only [RrW, HO.out]
        obtain ⟨n, rfl⟩ := Int.eq_ofNat_of_zero_le (show 0 ≤ k by omega)
        have hmk := print_make_of (P := Try.prog) 46 32 (.int .u64 0) 8 Try.underlying46 infoU64 rfl (by omega) n (by omega)
        rw [made_fill .u64 (fun i => getN l (a + 8 * i) 8) n] at hmk
        obtain ⟨arr, harr⟩ : ∃ arr, (nums .u64 (fillL (fun i => getN l (a + 8 * i) 8) n 0)).toArray = arr := ⟨_, rfl⟩
        rw [harr] at hmk
        have HARR := Aside0.mk harr
        clear harr
        have hgs : Aside0 (g < w.heap.size) := ⟨blk_lt HH.out⟩
        go_enter Try.func104, Try.ntmps104
        go_wp2_with fail
        go_quiet (fail)
        go_wp2_with fail
        go_loopw [6, 37] (fun v6 v37 w' => ∃ i : Nat, i ≤ n ∧ v37 = .int .i64 i ∧ Aside0 (RrV w' g (.slice A l.length c) (a + 8 * i) false) ∧ Aside0 (Kp (fun b => b = g) w w') ∧ Aside0 (w'.heap[w.heap.size]? = some (.cells (nums .u64 (fillL (fun i => getN l (a + 8 * i) 8) n i)).toArray 32 (0, 0)))) (fun _ v37 _ => n - (intOf v37).toNat)
        case atStart => exact ⟨0, by omega, rfl, ⟨by simpa using (HH.out.below (below_alloc (pw_below_drewN (Below.refl _ _) _) _))⟩, ⟨Kp.of_below (below_alloc (pw_below_drewN (Below.refl _ _) _) _) _⟩, ⟨by rw [HARR.out]; exact blk_new _ _⟩⟩
        case round =>
          obtain ⟨i, hi, rfl, HR1, HK1, HB1⟩ := hrel
          clear hc0 hc1 hc2 hf2
          by_cases c3 : i < n
          · have HF := Aside0.mk (show rOk false l.length (a + 8 * (i : Int)) 8 = true by simp only [rOk, Bool.not_false, Bool.true_and]; exact fits_ok ⟨by omega, by omega, by omega, by omega⟩)
            go_wp2_with fail
            refine (Reader_Num_calls 8 _ g _ l _ false HR1.out (HV.out.kp HK1.out (fun A n c e hp hh => HFAR.out A n c e hp hh)) HIB.out).mono ?_
            rintro e w2 ⟨rfl, hr2, hk2⟩
            rw [HF.out] at hr2 ⊢
            obtain ⟨x, hx⟩ : ∃ x, getN l (a + 8 * (i : Int)) 8 = x := ⟨_, rfl⟩
            have hx0 := getN_bound l HIB.out (a + 8 * (i : Int)) 8
            simp only [cond_true, Bool.not_true, hx] at hr2 hx0 ⊢
            have hb2 := hk2.blk HB1.out (fun e => by have := hgs.out; omega)
            have hfz := blk_frozen hb2 i
            obtain ⟨y, hy⟩ : ∃ y, w2.cell? ⟨w.heap.size, i, none⟩ = some y := ⟨_, (blk_cell hb2 i).trans (Array.getElem?_eq_getElem (by simp [nums, fillL_len _ n i hi]; exact c3))⟩
            have HX := Aside0.mk hx
            have HR2 := Aside0.mk hr2
            have HK2 := Aside0.mk ((HK1.out).trans hk2 (fun k hk => .inl hk))
            have HB2 := Aside0.mk hb2
            clear hr2 hk2 hb2 hx
            go_wp2_with fail
            go_roundw
            case rel =>
              refine ⟨i + 1, by omega, by go_num, ⟨?_⟩, ⟨?_⟩, ⟨?_⟩⟩
              · have h1 : RrV w2 g (.slice A l.length c) (a + 8 * ((i + 1 : Nat) : Int)) false := by have := HR2.out; rw [show a + 8 * (i : Int) + 8 = a + 8 * ((i + 1 : Nat) : Int) by omega] at this; exact this
                exact (Below.heap_setCell w2 _ _ g (by have := hgs.out; simp; omega)).trans h1
              · exact ⟨HK2.out.os, HK2.out.tape, HK2.out.output, by simpa [World.setCell] using HK2.out.size, fun b hb hn => (Below.heap_setCell w2 _ _ b (by simp; omega)).trans (HK2.out.block b hb hn)⟩
              · have := blk_set HB2.out i (.int .u64 x)
                rw [nums_set, fillL_set (fun i => getN l (a + 8 * i) 8) n i c3 HX.out] at this
                exact this
            case measure => simp [intOf]; omega
          · have HI := Aside0.mk (show i = n by omega)
            go_wp2_with fail
            go_ret
            refine ⟨_, rfl, ?_, ?_, HK1.out⟩
            · have := HB1.out
              rw [HI.out, wordsAt_fill] at this
              have h2 := own_blk this (Nat.le_refl _) (by rw [wordsAt_len]; omega)
              rw [wordsAt_len] at h2
              simpa using h2
            · have := HR1.out
              rw [HI.out] at this
              simpa using this
/-- The bytes from a on, so many. -/
def rawAt (l : List Int) (a k : Int) : List Int := (l.take (a + k).toNat).drop a.toNat
theorem rawAt_isB {l : List Int} (h : isB l) (a k : Int) : isB (rawAt l a k) := (h.take _).drop _
theorem rawAt_len (l : List Int) (a k : Int) (h0 : 0 ≤ a) (h1 : 0 ≤ k) (h2 : a + k ≤ l.length) : ((rawAt l a k).length : Int) = k := by simp [rawAt]; omega
def kOk (bad : Bool) (n a k : Int) : Bool := !bad && decide (0 ≤ k ∧ k ≤ n - a)
def RrK (w w' : World) (g : Nat) (v : Value) (l : List Int) (a : Int) (bad : Bool) (k : Int) : Prop := RrV w' g v (bif kOk bad l.length a k then a + k else a) (!(kOk bad l.length a k)) ∧ Kp (fun b => b = g) w w'
set_option maxHeartbeats 8000000 in
set_option maxRecDepth 100000 in
theorem Reader_Raw_calls (k : Int) (w : World) (g : Nat) (v : Value) (l : List Int) (a : Int) (bad : Bool) (h : RrV w g v a bad) (hr : Rd w .u8 v l) (hb : isB l) (ha0 : 0 ≤ a) (ha1 : a ≤ (l.length : Int)) (hl : l.length ≤ 140737488355328) :
    Calls Try.prog 106 #[.pointer (some ⟨g, 0, none⟩), .int .i64 k] w fun e w' => ∃ u, e = .returned u ∧ Own (Value.int .u8) w' w.heap.size 5 u (bif kOk bad l.length a k then rawAt l a k else []) ∧ RrK w w' g v l a bad k := by
  have HH := Aside0.mk h
  have HV := Aside0.mk hr
  have HIB := Aside0.mk hb
  have hc0 := h.c0
  have hc1 := h.c1
  have hc2 := h.c2
  have hf2 := blk_frozen h 2
  obtain ⟨A, c, ev, hc, hm, hrd⟩ := hr.mid
  clear h hr hb hrd
  subst ev
  obtain ⟨q, hq⟩ : ∃ q : Int, (l.length : Int) - a = q := ⟨_, rfl⟩
  obtain ⟨hq0, hq1, hq2⟩ : 0 ≤ q ∧ a + q = (l.length : Int) ∧ q ≤ 140737488355328 := by omega
  have hsub : IntKind.i64.wrap ((l.length : Int) - a) = q := by rw [IntKind.wrap_i64]; omega
  have HQ := Aside0.mk hq
  clear hq
  have HNO : kOk bad l.length a k = false → Aside0 (∀ nq, ∃ u, (.returned (.slice none 0 0) : Ending) = .returned u ∧ Own (Value.int .u8) ((w.drewN nq).setCell ⟨g, 2, none⟩ (.bool true)) w.heap.size 5 u (bif kOk bad l.length a k then rawAt l a k else []) ∧ RrK w ((w.drewN nq).setCell ⟨g, 2, none⟩ (.bool true)) g (.slice A l.length c) l a bad k) := fun e => ⟨fun nq => ⟨_, rfl, by rw [e]; exact Own.nil _ _ _ _, by
    rw [RrK, e]
    exact ⟨(HH.out.below (pw_below_drewN (Below.refl _ _) nq)).s2 true, ((Kp.of_below (pw_below_drewN (Below.refl _ _) nq) _).trans (Kp.set _ _ _) (fun k hk => .inl hk))⟩⟩⟩
  cases bad with
  | true =>
    have H := HNO (by simp [kOk])
    clear HNO
    go_enter Try.func106, Try.ntmps106
    go_wp2_with fail
    go_quiet (fail)
    go_wp2_with fail
    go_ret
    exact H.out _
  | false =>
    by_cases c1 : k < 0
    · have H := HNO (by have := HQ.out; simp [kOk]; omega)
      clear HNO
      go_enter Try.func106, Try.ntmps106
      go_wp2_with fail
      go_quiet (fail)
      go_wp2_with fail
      go_ret
      exact H.out _
    · by_cases c2 : q < k
      · have d1 : decide (k < 0) = false := decide_eq_false c1
        have d2 : decide (q < k) = true := decide_eq_true c2
        have H := HNO (by have := HQ.out; simp [kOk]; omega)
        clear HNO
        go_enter Try.func106, Try.ntmps106
        go_wp2_with fail
        go_quiet (fail)
        go_wp2_with fail
        go_ret
        exact H.out _
      · have HO := Aside0.mk (show kOk false l.length a k = true by have := HQ.out; simp [kOk]; omega)
        have d1 : decide (k < 0) = false := decide_eq_false c1
        have d2 : decide (q < k) = false := decide_eq_false c2
        clear HNO
        rw [HO.out]
        simp only [RrK, HO.out]
        have hsum : wrap64 (a + k) = a + k := by unfold wrap64; omega
        obtain ⟨i5, hi5, hz5⟩ := infoU8'
        obtain ⟨v', hcut, hrd⟩ := Rd.cut 22 5 Try.underlying22 hi5 hz5 HV.out a (a + k) ha0 (by omega) (by omega)
        have HRD := Aside0.mk hrd
        clear hrd hi5 hz5
        have hgs : Aside0 (g < w.heap.size) := ⟨blk_lt HH.out⟩
        have HLL : Aside0 ((rawAt l a k).length ≤ 140737488355328) := ⟨by have := rawAt_len l a k ha0 (by omega) (by omega); omega⟩
        go_enter Try.func106, Try.ntmps106
        go_wp2_with fail
        go_quiet (fail)
        have HB0 := Aside0.mk (pw_below_drewN (Below.refl w.heap.size w) nq)
        have hn0 := (HH.out.below HB0.out).c0
        have hn1 := (HH.out.below HB0.out).c1
        go_wp2_with fail
        refine start_ (n := 17) (S := fun w' => w'.cell? ⟨g, 0, none⟩ = some (.slice A l.length c) ∧ w'.cell? ⟨g, 1, none⟩ = some (.int .i64 a)) (ds := []) #[false,false,false,false,false,false,false,false,false,false,false,false,false,false,false,false,false] (by kernel_rfl) rfl rfl ⟨hn0, hn1⟩ (fun hHeld => ?_)
        refine pure_ (i := 0) (N := some 31) (v := ?_) (a' := ?_) #[true,false,false,false,false,false,false,false,false,false,false,false,false,false,false,false,false] rfl rfl (by kernel_rfl) (fun _ _ _ h => h) (Or.inl ⟨by rfl, ?_⟩) ?_ ?_
        rotate_left
        · intro w'
          go_simp
          with_reducible rfl
        rotate_left
        · simp only [Act.put, List.setIfInBounds_toArray, List.set_cons_zero, List.set_cons_succ, i64_w, i32_w]
          rfl
        refine pure_ (i := 1) (N := some 32) (v := ?_) (a' := ?_) #[true,true,false,false,false,false,false,false,false,false,false,false,false,false,false,false,false] rfl rfl (by kernel_rfl) (fun _ _ _ h => h) (Or.inl ⟨by rfl, ?_⟩) ?_ ?_
        rotate_left
        · intro w'
          go_simp
          with_reducible rfl
        rotate_left
        · simp only [Act.put, List.setIfInBounds_toArray, List.set_cons_zero, List.set_cons_succ, i64_w, i32_w]
          rfl
        refine pure_ (i := 2) (N := some 33) (v := ?_) (a' := ?_) #[true,true,true,false,false,false,false,false,false,false,false,false,false,false,false,false,false] rfl rfl (by kernel_rfl) (fun _ _ _ h => h) (Or.inl ⟨by rfl, ?_⟩) ?_ ?_
        rotate_left
        · intro w'
          go_simp
          with_reducible rfl
        rotate_left
        · simp only [Act.put, List.setIfInBounds_toArray, List.set_cons_zero, List.set_cons_succ, i64_w, i32_w]
          rfl
        refine pure_ (i := 4) (N := some 35) (v := ?_) (a' := ?_) #[true,true,true,false,true,false,false,false,false,false,false,false,false,false,false,false,false] rfl rfl (by kernel_rfl) (fun _ _ _ h => h) (Or.inl ⟨by rfl, ?_⟩) ?_ ?_
        rotate_left
        · intro w'
          go_simp
          with_reducible rfl
        rotate_left
        · simp only [Act.put, List.setIfInBounds_toArray, List.set_cons_zero, List.set_cons_succ, i64_w, i32_w]
          rfl
        refine pure_ (i := 5) (N := some 36) (v := ?_) (a' := ?_) #[true,true,true,false,true,true,false,false,false,false,false,false,false,false,false,false,false] rfl rfl (by kernel_rfl) (fun _ _ _ h => h) (Or.inl ⟨by rfl, ?_⟩) ?_ ?_
        rotate_left
        · intro w'
          go_simp
          with_reducible rfl
        rotate_left
        · simp only [Act.put, List.setIfInBounds_toArray, List.set_cons_zero, List.set_cons_succ, i64_w, i32_w]
          rfl
        refine pure_ (i := 6) (N := some 37) (v := ?_) (a' := ?_) #[true,true,true,false,true,true,true,false,false,false,false,false,false,false,false,false,false] rfl rfl (by kernel_rfl) (fun _ _ _ h => h) (Or.inl ⟨by rfl, ?_⟩) ?_ ?_
        rotate_left
        · intro w'
          go_simp
          with_reducible rfl
        rotate_left
        · simp only [Act.put, List.setIfInBounds_toArray, List.set_cons_zero, List.set_cons_succ, i64_w, i32_w]
          rfl
        refine pure_ (i := 8) (N := some 39) (v := ?_) (a' := ?_) #[true,true,true,false,true,true,true,false,true,false,false,false,false,false,false,false,false] rfl rfl (by kernel_rfl) (fun _ _ _ h => h) (Or.inl ⟨by rfl, ?_⟩) ?_ ?_
        rotate_left
        · intro w'
          go_simp
          with_reducible rfl
        rotate_left
        · simp only [Act.put, List.setIfInBounds_toArray, List.set_cons_zero, List.set_cons_succ, i64_w, i32_w]
          rfl
        refine pure_ (i := 9) (N := some 40) (v := ?_) (a' := ?_) #[true,true,true,false,true,true,true,false,true,true,false,false,false,false,false,false,false] rfl rfl (by kernel_rfl) (fun _ _ _ h => h) (Or.inl ⟨by rfl, ?_⟩) ?_ ?_
        rotate_left
        · intro w'
          go_simp
          with_reducible rfl
        rotate_left
        · simp only [Act.put, List.setIfInBounds_toArray, List.set_cons_zero, List.set_cons_succ, i64_w, i32_w]
          rfl
        refine pure_ (i := 10) (N := some 41) (v := ?_) (a' := ?_) #[true,true,true,false,true,true,true,false,true,true,true,false,false,false,false,false,false] rfl rfl (by kernel_rfl) (fun _ _ _ h => h) (Or.inl ⟨by rfl, ?_⟩) ?_ ?_
        rotate_left
        · intro w'
          go_simp
          with_reducible rfl
        rotate_left
        · simp only [Act.put, List.setIfInBounds_toArray, List.set_cons_zero, List.set_cons_succ, i64_w, i32_w]
          rfl
        refine pure_ (i := 12) (N := some 43) (v := ?_) (a' := ?_) #[true,true,true,false,true,true,true,false,true,true,true,false,true,false,false,false,false] rfl rfl (by kernel_rfl) (fun _ _ _ h => h) (Or.inl ⟨by rfl, ?_⟩) ?_ ?_
        rotate_left
        · intro w'
          go_simp
          with_reducible rfl
        rotate_left
        · simp only [Act.put, List.setIfInBounds_toArray, List.set_cons_zero, List.set_cons_succ, i64_w, i32_w]
          rfl
        refine take_ (i := 3) (N := some 34) (v := ?_) (a' := ?_) #[true,true,true,true,true,true,true,false,true,true,true,false,true,false,false,false,false] rfl rfl (by kernel_rfl) (fun _ _ _ h => h) (Or.inl ⟨by rfl, ?_⟩) hHeld ?_ ?_
        rotate_left
        · rintro w' ⟨s0, s1⟩
          go_simp
          with_reducible rfl
        rotate_left
        · simp only [Act.put, List.setIfInBounds_toArray, List.set_cons_zero, List.set_cons_succ, i64_w, i32_w]
          rfl
        refine take_ (i := 7) (N := some 38) (v := ?_) (a' := ?_) #[true,true,true,true,true,true,true,true,true,true,true,false,true,false,false,false,false] rfl rfl (by kernel_rfl) (fun _ _ _ h => h) (Or.inl ⟨by rfl, ?_⟩) hHeld ?_ ?_
        rotate_left
        · rintro w' ⟨s0, s1⟩
          go_simp
          with_reducible rfl
        rotate_left
        · simp only [Act.put, List.setIfInBounds_toArray, List.set_cons_zero, List.set_cons_succ, i64_w, i32_w]
          rfl
        refine take_ (i := 11) (N := some 42) (v := ?_) (a' := ?_) #[true,true,true,true,true,true,true,true,true,true,true,true,true,false,false,false,false] rfl rfl (by kernel_rfl) (fun _ _ _ h => h) (Or.inl ⟨by rfl, ?_⟩) hHeld ?_ ?_
        rotate_left
        · rintro w' ⟨s0, s1⟩
          go_simp
          with_reducible rfl
        rotate_left
        · simp only [Act.put, List.setIfInBounds_toArray, List.set_cons_zero, List.set_cons_succ, i64_w, i32_w]
          rfl
        refine pure_ (i := 13) (N := some 44) (v := ?_) (a' := ?_) #[true,true,true,true,true,true,true,true,true,true,true,true,true,true,false,false,false] rfl rfl (by kernel_rfl) (fun _ _ _ h => h) (Or.inl ⟨by rfl, ?_⟩) ?_ ?_
        rotate_left
        · intro w'
          go_simp
          with_reducible rfl
        rotate_left
        · simp only [Act.put, List.setIfInBounds_toArray, List.set_cons_zero, List.set_cons_succ, i64_w, i32_w]
          rfl
        refine pure_ (i := 14) (N := some 45) (v := ?_) (a' := ?_) #[true,true,true,true,true,true,true,true,true,true,true,true,true,true,true,false,false] rfl rfl (by kernel_rfl) (fun _ _ _ h => h) (Or.inl ⟨by rfl, ?_⟩) ?_ ?_
        rotate_left
        · intro w'
          go_simp
          with_reducible rfl
        rotate_left
        · simp only [Act.put, List.setIfInBounds_toArray, List.set_cons_zero, List.set_cons_succ, i64_w, i32_w]
          rfl
        refine one_ (i := 15) (N := some 46) #[true,true,true,true,true,true,true,true,true,true,true,true,true,true,true,true,false] rfl rfl (by kernel_rfl) (by decide) (fun K hK => ?_)
        refine goes_ Try.func117 (by kernel_rfl) rfl #[v'] (by rfl) rfl rfl (by (try simp only [List.map_toArray, List.map_cons, List.map_nil]); first | done | rfl) ?_
        with_reducible refine (Clone8_calls v' (rawAt l a k) _ (HRD.out _ (HV.out.below (below_drew HB0.out))) HLL.out).mono ?_
        rintro e w3 ⟨v3, rfl, hO3, hb3⟩
        refine ⟨_, rfl, ?_⟩
        have h3 := HH.out.below (below_step (below_drew HB0.out) hb3)
        have hc30 := h3.c0
        have hc31 := h3.c1
        refine hK.out _ _ ⟨hc30, hc31⟩ (fun hHeld => ?_)
        clear hK K
        refine norm_ (a' := ?_) ?_ ?_
        rotate_left
        · show Act.put _ (some 46) _ = _
          simp only [Act.put, List.setIfInBounds_toArray, List.set_cons_zero, List.set_cons_succ, i64_w, i32_w]
          rfl
        refine pure_ (i := 16) (N := some 5) (v := ?_) (a' := ?_) #[true,true,true,true,true,true,true,true,true,true,true,true,true,true,true,true,true] rfl rfl (by kernel_rfl) (fun _ _ _ h => h) (Or.inl ⟨by rfl, ?_⟩) ?_ ?_
        rotate_left
        · intro w'
          go_simp
          with_reducible rfl
        rotate_left
        · simp only [Act.put, List.setIfInBounds_toArray, List.set_cons_zero, List.set_cons_succ, i64_w, i32_w]
          rfl
        refine done_ (by kernel_rfl) ?_
        have HO3 := Aside0.mk hO3
        have HB3 := Aside0.mk (below_step (below_drew HB0.out) hb3)
        have hz1 := h3.c1
        have hf1 := blk_frozen h3 1
        have HH3 := Aside0.mk h3
        have HG := Aside0.mk (show v3.ownBlock ≠ some g from fun e => by have h1 := hO3.ge e; have h2 := hgs.out; have h3 := (below_drew HB0.out).size; omega)
        have HW := Aside0.mk (below_drew HB0.out).size
        clear hO3 hb3 h3 hn0 hn1 hc0 hc1 hc2 hf2
        go_wp2_with fail
        go_ret
        exact ⟨_, rfl, (HO3.out.weaken HW.out).move (fun b hb => Below.heap_setCell _ _ _ b (fun e => HG.out (by rw [hb, e]))), HH3.out.s1 _, (Kp.of_below HB3.out _).trans (Kp.set _ _ _) (fun k hk => .inl hk)⟩
theorem take_eq_all {l0 l1 : List Int} (h : l0.length = l1.length) (h2 : l0.take l0.length = l1.take l0.length) : l0 = l1 := by
  rw [List.take_length, h, List.take_length] at h2
  exact h2
set_option maxHeartbeats 8000000 in
set_option maxRecDepth 100000 in
theorem ref_Words_calls (v0 v1 : Value) (l0 l1 : List Int) (w : World) (hr0 : Rd w .u64 v0 l0) (hr1 : Rd w .u64 v1 l1) :
    Calls Try.prog 61 #[v0, v1] w fun e w' => e = .returned (.bool (decide (l0 = l1))) ∧ Below w.heap.size w w' := by
  obtain ⟨A0, c0, rfl, hc0, hm0, hr0⟩ := hr0.mid
  obtain ⟨A1, c1, rfl, hc1, hm1, hr1⟩ := hr1.mid
  have HR0 := Aside0.mk hr0
  have HR1 := Aside0.mk hr1
  clear hr0 hr1
  by_cases e1 : l0.length = l1.length
  · have HE := Aside0.mk e1
    obtain ⟨n, hn⟩ : ∃ n, l0.length = n := ⟨_, rfl⟩
    have hn1 : l1.length = n := by omega
    rw [hn] at HR0 hc0 hm0
    rw [hn1] at HR1 hc1 hm1
    rw [hn, hn1]
    have HN := Aside0.mk hn
    have HN1 := Aside0.mk hn1
    clear hn hn1 e1
    go_enter Try.func61, Try.ntmps61
    go_wp2_with fail
    go_loopw [5] (fun v5 w' => ∃ i : Nat, i ≤ n ∧ v5 = .int .i64 i ∧ Aside0 (l0.take i = l1.take i) ∧ Aside0 (Below w.heap.size w w')) (fun v5 _ => n - (intOf v5).toNat)
    case atStart => exact ⟨0, by omega, rfl, ⟨by simp⟩, ⟨Below.refl _ _⟩⟩
    case round =>
      obtain ⟨i, hi, rfl, HT, HB⟩ := hrel
      by_cases c3 : i < n
      · obtain ⟨a0, ea0, hcell0⟩ := rd_at (HR0.out.below HB.out) i c3
        obtain ⟨a1, ea1, hcell1⟩ := rd_at (HR1.out.below HB.out) i c3
        obtain ⟨x, hx⟩ : ∃ x, l0.getD i 0 = x := ⟨_, rfl⟩
        obtain ⟨y, hy⟩ : ∃ y, l1.getD i 0 = y := ⟨_, rfl⟩
        rw [hx] at hcell0
        rw [hy] at hcell1
        have HX := Aside0.mk hx
        have HY := Aside0.mk hy
        clear hx hy
        cases ea0
        cases ea1
        by_cases exy : x = y
        · have HT1 := Aside0.mk (show l0.take (i + 1) = l1.take (i + 1) by rw [take_snoc (by rw [HN.out]; exact c3), take_snoc (by rw [HN1.out]; exact c3), HT.out, HX.out, HY.out, exy])
          subst exy
          go_wp2_with fail
          go_quiet (fail)
          go_wp2_with fail
          go_roundw
          case rel => exact ⟨i + 1, by omega, by go_num, HT1, ⟨pw_below_drewN HB.out _⟩⟩
          case measure => simp [intOf]; omega
        · have hxy : (x != y) = true := by simpa using exy
          have HD := Aside0.mk (show decide (l0 = l1) = false from decide_eq_false (fun e => exy (by rw [← HX.out, ← HY.out, e])))
          go_wp2_with fail
          go_quiet (fail)
          go_wp2_with fail
          go_ret
          exact ⟨by rw [HD.out]; rfl, pw_below_drewN HB.out _⟩
      · have HI := Aside0.mk (show i = n by omega)
        have HD := Aside0.mk (show decide (l0 = l1) = true from decide_eq_true (take_eq_all HE.out (by rw [HN.out, ← HI.out]; exact HT.out)))
        go_wp2_with fail
        go_ret
        exact ⟨by rw [HD.out]; rfl, HB.out⟩
  · have HD := Aside0.mk (show decide (l0 = l1) = false from decide_eq_false (fun e => e1 (by rw [e])))
    have hne : ((l0.length : Int) != (l1.length : Int)) = true := by simp; omega
    clear e1
    go_enter Try.func61, Try.ntmps61
    go_wp2_with fail
    go_ret
    exact ⟨by rw [HD.out]; rfl, Below.refl _ _⟩
end Go.Proofs.Ytigdchfjcfljjaa
end
section
/- What is put down, taken again: small facts. -/
namespace Go.Proofs.Ytigdchfjcfljjaa
open Go.RowKit Go.Proofs.YtigdchfjcfljjaaW.PrintWords Go.Proofs.YtigdchfjcfljjaaW.PrintLast Go.Proofs.YtigdchfjcfljjaaW.PrintMore
attribute [local go_sem] max2_int min2_int max_two min_two max_three min_three max_four min_four
theorem WrS.next {w w1 w2 : World} {g : Nat} {v : Value} {l l' : List Int} (h : WrV w1 g w.heap.size v l) (hb : Below w.heap.size w w1) (hg : w.heap.size ≤ g) (hs : WrS w1 w2 g w.heap.size v l') : ∃ v', WrV w2 g w.heap.size v' l' ∧ Below w.heap.size w w2 := by
  obtain ⟨v', hv, hk, _⟩ := hs
  exact ⟨v', hv, Kp.from hb hk (fun k hh => by rcases hh with rfl | hh; exact hg; exact h.2.ge hh)⟩
theorem words8_isB' : ∀ l, isB (words8 l)
  | [] => fun x hx => by simp [words8] at hx
  | n :: r => (leB_isB n 8).app (words8_isB' r)
theorem raw_back1 (b r : List Int) : rawAt (b ++ r) 0 (b.length : Int) = b := by simp [rawAt]
theorem raw_back2 (b : List Int) (p : Nat) (r : List Int) : rawAt (b ++ List.replicate p (0 : Int) ++ r) (b.length : Int) (p : Int) = List.replicate p 0 := by
  rw [rawAt, show ((b.length : Int) + (p : Int)).toNat = (b ++ List.replicate p (0 : Int)).length by simp; omega, List.take_left]
  simp
/-- The bytes of a constant text. -/
theorem Rd.const (w : World) (k : IntKind) (e : TypeId) (fr : Nat × Nat) (xs : List Int) (hm : xs.length ≤ 9223372036854775807) : Rd (w.alloc (.cells (nums k xs).toArray e fr)) k (.slice (some ⟨w.heap.size, 0, none⟩) xs.length xs.length) xs :=
  ⟨_, _, rfl, Nat.le_refl _, rfl, hm, fun _ => ⟨_, rfl, fun j hj => by
    rw [add_plain, World.cell?_alloc_mark]
    simp [nums, List.getD_eq_getElem?_getD, hj]⟩⟩
theorem WrS.keep {w w1 : World} {g base b t : Nat} {v : Value} {l l' : List Int} {cs : Array Value} (hs : WrS w w1 g base v l') (hv : WrV w g base v l) (hb : w.heap[b]? = some (.cells cs t (0, 0))) (ht : 5 ≠ t) (hg : b ≠ g) : w1.heap[b]? = some (.cells cs t (0, 0)) := by
  obtain ⟨v', _, hk, _⟩ := hs
  exact hk.blk hb (fun hh => by rcases hh with rfl | hh; exact hg rfl; exact hv.2.ne hb ht hh)
end Go.Proofs.Ytigdchfjcfljjaa
end
