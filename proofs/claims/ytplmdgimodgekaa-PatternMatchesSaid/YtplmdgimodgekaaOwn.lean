/- Slices of one-cell values that are the call's own: read, appended to, kept. A block's content. What a call keeps. -/
import Derived.Test.YtplmdgimodgekaaRd
namespace Go.Proofs.Ytplmdgimodgekaa
open Go.RowKit Go.Proofs.YtplmdgimodgekaaW.PrintWords Go.Proofs.YtplmdgimodgekaaW.PrintLast Go.Proofs.YtplmdgimodgekaaW.PrintMore
set_option linter.unusedVariables false
set_option linter.unusedSimpArgs false

/-- The value v is a slice of the call's own, from block base on, of elements of type e: xs. -/
def Own {α : Type} (enc : α → Value) (W : World) (base e : Nat) (v : Value) (xs : List α) : Prop := W.ownsRow base e 1 v xs.length (encs enc xs)
/-- The value v reads as xs. -/
def RdE {α : Type} (enc : α → Value) (d : α) (W : World) (v : Value) (xs : List α) : Prop := ∃ A c, v = .slice A xs.length c ∧ xs.length ≤ c ∧ ReadsOf enc d W A xs.length xs
theorem rdE_int {w : World} {k : IntKind} {v : Value} {xs : List Int} : RdE (Value.int k) (0 : Int) w v xs ↔ Rd w k v xs := Iff.rfl
section
variable {α : Type} {enc : α → Value} {d : α} {W W' : World} {base e : Nat} {v u : Value} {xs ys : List α}
theorem Own.nil (enc : α → Value) (W : World) (base e : Nat) : Own enc W base e (.slice none 0 0) [] := own_nil W base e 1
theorem Own.rdE (h : Own enc W base e v xs) (d : α) : RdE enc d W v xs := by
  obtain ⟨A, c, e1, hc, hr⟩ := own_reads_of_le (d := d) h
  exact ⟨A, c, e1, hc, hr⟩
theorem Own.rd {k : IntKind} {v : Value} {xs : List Int} (h : Own (Value.int k) W base e v xs) : Rd W k v xs := Own.rdE h 0
theorem Own.move (h : Own enc W base e v xs) (hm : ∀ k, v.ownBlock = some k → W'.heap[k]? = W.heap[k]?) : Own enc W' base e v xs := own_move h hm
theorem Own.lt (h : Own enc W base e v xs) {k : Nat} (hk : v.ownBlock = some k) : k < W.heap.size := own_lt h k hk
theorem Own.ge (h : Own enc W base e v xs) {k : Nat} (hk : v.ownBlock = some k) : base ≤ k := own_base h k hk
theorem Own.below (h : Own enc W base e v xs) (hb : Below W.heap.size W W') : Own enc W' base e v xs := h.move fun k hk => hb.block k (h.lt hk)
theorem Own.weaken {b : Nat} (h : Own enc W base e v xs) (hb : b ≤ base) : Own enc W b e v xs := own_weaken h hb
theorem Own.of_R {h1 : ∀ x, (enc x).oneCell' = true} {ok : Nat → Prop} (h : (Kd.scalar enc h1).R e W base ok v xs) : Own enc W base e v xs := Kd.own_of_R h
/-- Its block is none that holds another type. -/
theorem Own.ne {g t : Nat} {cs : Array Value} (h : Own enc W base e v xs) (hg : W.heap[g]? = some (.cells cs t (0, 0))) (hne : e ≠ t) : v.ownBlock ≠ some g := fun hk => by
  obtain ⟨c, hc⟩ := own_typed h g hk
  rw [hg] at hc
  injection hc with hc
  injection hc with _ hc
  exact hne hc.symm
theorem Own.rdE' (h : Own enc W base e v xs) (d : α) : ∃ A c, v = .slice A xs.length c ∧ xs.length ≤ c ∧ xs.length ≤ 9223372036854775807 ∧ ReadsOf enc d W A xs.length xs := by
  obtain ⟨A, c, e1, hc, hr⟩ := h.rdE d
  exact ⟨A, c, e1, hc, hr.2.1, hr⟩
theorem RdE.move (h : RdE enc d W v xs) (hm : ∀ A : Addr, (∃ n c, v = .slice (some A) n c ∧ 0 < xs.length) → W'.heap[A.block]? = W.heap[A.block]?) : RdE enc d W' v xs := by
  obtain ⟨A, c, rfl, hc, h1, h2, h3⟩ := h
  refine ⟨A, c, rfl, hc, h1, h2, fun hn => ?_⟩
  obtain ⟨ad, rfl, hcell⟩ := h3 hn
  refine ⟨ad, rfl, fun j hj => ?_⟩
  have hb := hm ad ⟨_, _, rfl, hn⟩
  have := hcell j hj
  simp only [World.cell?, add_block] at this ⊢
  rw [hb]; exact this
theorem RdE.below (h : RdE enc d W v xs) (hb : Below W.heap.size W W') : RdE enc d W' v xs := by
  obtain ⟨A, c, e1, hc, hr⟩ := h
  exact ⟨A, c, e1, hc, hr.below hb⟩
end
/-- append: what is read, behind what is the call's own. -/
theorem app_run {P : Program} {α : Type} (enc : α → Value) (d : α) (h1 : ∀ x, (enc x).oneCell' = true) (t ty e : TypeId) (z : Value) (bytes : Nat) (ht : P.underlying t = some (.slice e)) (hinfo : (P.info? e).map (fun i => (i.zero, i.size, i.bytes)) = some (some z, 1, bytes)) (hz : z.cells.size = 1) (hb0 : 0 < bytes)
    {W : World} {base : Nat} {v u : Value} {xs ys : List α} (HO : Own enc W base e v xs) (HR : RdE enc d W u ys) (hbase : base ≤ W.heap.size) (hl : (xs.length + ys.length) * bytes ≤ 140737488355328) :
    ∃ v1 w1, (Builtin.append_ #[t, t] ty #[v, u]).run P W = .ok v1 w1 ∧ Own enc w1 base e v1 (xs ++ ys) ∧ W.grownBy w1 v.ownBlock ∧ (v1.ownBlock = v.ownBlock ∨ ∃ b, v1.ownBlock = some b ∧ W.heap.size ≤ b) := by
  obtain ⟨A, c, rfl, hc, HR⟩ := HR
  obtain ⟨i0, hi, hzz⟩ := Option.map_eq_some_iff.1 hinfo
  simp only [Prod.mk.injEq] at hzz
  obtain ⟨hz0, hz1, hz2⟩ := hzz
  have hlen : xs.length + ys.length ≤ 140737488355328 := Nat.le_trans (Nat.le_mul_of_pos_right _ hb0) hl
  rcases A with _ | ad
  · have h0 : ys.length = 0 := by
      rcases Nat.eq_zero_or_pos ys.length with h0 | h0
      · exact h0
      · obtain ⟨ad, h, _⟩ := HR.2.2 h0
        cases h
    obtain rfl : ys = [] := List.eq_nil_of_length_eq_zero h0
    refine ⟨v, W, ?_, by simpa using HO, World.grownBy.refl W _, .inl rfl⟩
    rcases HO.2 with ⟨rfl, hn⟩ | ⟨g, cap, cur, rfl, _, _, hnc, _⟩
    · simp [Builtin.append_, run_underlying ht, sizeOf, typeInfo, hi, Builtin.lenOf, Builtin.firstCells]
    · simp [Builtin.append_, run_underlying ht, sizeOf, typeInfo, hi, Builtin.lenOf, Builtin.firstCells, hnc, storeCells]
  · have hcells : ∀ j u, (encs enc ys)[j]? = some u → W.cell? (ad.add j) = some u := by
      intro j u hu
      have hj : j < ys.length := by
        rcases Nat.lt_or_ge j ys.length with h | h
        · exact h
        · simp [encs, List.getElem?_eq_none h] at hu
      obtain ⟨ad', h', hc⟩ := HR.2.2 (by omega)
      injection h' with h'
      subst h'
      rw [encs_get (d := d) ys j hj] at hu
      rw [← hu]
      exact hc j (by omega)
    obtain ⟨v1, w1, hr, h2, h3, _, h5⟩ := run_append_own_at (P := P) W base t ty e i0 z 1 bytes ht hi hz0 hz1 hz2 hz (by omega) v xs.length (encs enc xs) HO ad ys.length c (encs enc ys) (by simp [encs]) hcells
      (by intro u hu; simp only [encs, List.mem_map] at hu; obtain ⟨q, _, rfl⟩ := hu; exact h1 q) (by simp only [maxLen]; omega) hl hbase
    refine ⟨v1, w1, hr, ?_, h3, ?_⟩
    · unfold Own; simpa [encs] using h2
    · rcases h5 with h5 | h5
      · exact .inl h5
      · exact .inr ⟨_, h5, Nat.le_refl _⟩
theorem lit_rdE {α : Type} (enc : α → Value) (d : α) (W : World) (e : TypeId) (xs : List α) (hm : xs.length ≤ 9223372036854775807) : RdE enc d (W.alloc (.cells (encs enc xs).toArray e)) (.slice (some ⟨W.heap.size, 0, none⟩) xs.length xs.length) xs :=
  Own.rdE (own_lit_of W 0 e xs (Nat.zero_le _) hm) d
/-! ### What a call keeps: all blocks that were there but g and row. -/
theorem kb_of_below {w w' : World} (h : Below w.heap.size w w') (g : Nat) (row : Option Nat) : KeepBut w w' g row := KeepBut.of_below h g row
theorem kb_blk {w w' : World} {g : Nat} {row : Option Nat} (h : KeepBut w w' g row) {b : Nat} {o : Obj} (hb : w.heap[b]? = some o) (h1 : b ≠ g) (h2 : row ≠ some b) : w'.heap[b]? = some o := h.blk hb h1 (fun e => h2 e.symm)
theorem kb_own {α : Type} {enc : α → Value} {w w' : World} {g : Nat} {row : Option Nat} (h : KeepBut w w' g row) {base e : Nat} {v : Value} {xs : List α} (ho : Own enc w base e v xs) (h1 : v.ownBlock ≠ some g) (h2 : ∀ k, v.ownBlock = some k → row ≠ some k) : Own enc w' base e v xs :=
  ho.move fun k hk => h.2 k (ho.lt hk) (fun e => h1 (by rw [hk, e])) (fun e => h2 k hk e.symm)
theorem kb_below {w0 w w' : World} {g : Nat} {row : Option Nat} (h0 : Below w0.heap.size w0 w) (h : KeepBut w w' g row) (ho : w'.os = w.os) (ht : w'.tape = w.tape) (hout : w'.output = w.output) (h1 : w0.heap.size ≤ g) (h2 : ∀ k, row = some k → w0.heap.size ≤ k) : Below w0.heap.size w0 w' :=
  ⟨ho.trans h0.os, ht.trans h0.tape, hout.trans h0.output, Nat.le_trans h0.size h.1, fun k hk => (h.2 k (Nat.lt_of_lt_of_le hk h0.size) (by omega) (fun e => by have := h2 k e.symm; omega)).trans (h0.block k hk)⟩
end Go.Proofs.Ytplmdgimodgekaa
