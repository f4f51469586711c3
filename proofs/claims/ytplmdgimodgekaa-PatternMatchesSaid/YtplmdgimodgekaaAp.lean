/- append, by its run: one element, some, a slice: at any type, at any offset. A world gets a name. -/
import Derived.Test.YtplmdgimodgekaaOwnO
namespace Go.Proofs.Ytplmdgimodgekaa
open Go.RowKit Go.Proofs.YtplmdgimodgekaaW.PrintWords Go.Proofs.YtplmdgimodgekaaW.PrintLast Go.Proofs.YtplmdgimodgekaaW.PrintMore
set_option linter.unusedVariables false
set_option linter.unusedSimpArgs false

theorem at_w {P : Program} {n : Nat} {a : Array Value} {W : World} {Q : Ending → World → Prop} (h : ∀ wx, wx = W → Calls P n a wx Q) : Calls P n a W Q := h W rfl
/-- append: some elements, laid into a block ahead of it. -/
theorem app_lits {P : Program} {α : Type} {enc : α → Value} {d : α} (h1 : ∀ x, (enc x).oneCell' = true) {t ty e : TypeId} {z : Value} {bytes : Nat} (ht : P.underlying t = some (.slice e)) (hinfo : (P.info? e).map (fun i => (i.zero, i.size, i.bytes)) = some (some z, 1, bytes)) (hz : z.cells.size = 1) (hb0 : 0 < bytes)
    {W : World} {base : Nat} {v : Value} {xs : List α} (ys : List α) {cs : Array Value} (hcs : cs = (encs enc ys).toArray) {k m : Nat} (HO : OwnO enc W base e v xs) (hk : xs.length = k) (hm : ys.length = m) (hbase : base ≤ W.heap.size) (hl : (k + m) * bytes ≤ 140737488355328) :
    ∃ A1 c1 w1, (Builtin.append_ #[t, t] ty #[v, .slice (some ⟨W.heap.size, 0, none⟩) m m]).run P (W.alloc (.cells cs e)) = .ok (.slice A1 (k + m) c1) w1 ∧ OwnO enc w1 base e (.slice A1 (k + m) c1) (xs ++ ys) ∧ Kp (fun b => v.ownBlock = some b) W w1 ∧ ((Value.slice A1 (k + m) c1).ownBlock = v.ownBlock ∨ ∃ b, (Value.slice A1 (k + m) c1).ownBlock = some b ∧ W.heap.size ≤ b) := by
  subst hcs
  subst hk
  subst hm
  have hlm : (xs.length + ys.length) ≤ 140737488355328 := Nat.le_trans (Nat.le_mul_of_pos_right _ hb0) hl
  have hL : RdE enc d (W.alloc (.cells (encs enc ys).toArray e)) (.slice (some ⟨W.heap.size, 0, none⟩) ys.length ys.length) ys := lit_rdE enc d W e ys (by omega)
  obtain ⟨v1, w1, hr, hO, hg, hat⟩ := app_runO (P := P) enc d h1 t ty e z bytes ht hinfo hz hb0 (HO.below (below_alloc (Below.refl _ _) (.cells (encs enc ys).toArray e))) hL (by simp; omega) hl
  obtain ⟨A1, c1, rfl⟩ : ∃ A c, v1 = .slice A (xs.length + ys.length) c := by
    obtain ⟨A, c, e1, _⟩ := hO.rdE d
    exact ⟨A, c, by rw [e1, List.length_append]⟩
  refine ⟨A1, c1, w1, hr, hO, ?_, ?_⟩
  · exact (Kp.of_below (below_alloc (Below.refl _ _) _) _).trans (Kp.of_grown hg) (fun k hk => .inl hk)
  · rcases hat with h | ⟨b, h, hb⟩
    · exact .inl h
    · exact .inr ⟨b, h, by simp at hb; omega⟩
/-- append: a slice that reads. -/
theorem app_rd {P : Program} {α : Type} {enc : α → Value} {d : α} (h1 : ∀ x, (enc x).oneCell' = true) {t ty e : TypeId} {z : Value} {bytes : Nat} (ht : P.underlying t = some (.slice e)) (hinfo : (P.info? e).map (fun i => (i.zero, i.size, i.bytes)) = some (some z, 1, bytes)) (hz : z.cells.size = 1) (hb0 : 0 < bytes)
    {W : World} {base : Nat} {v u : Value} {xs ys : List α} {k m : Nat} (HO : OwnO enc W base e v xs) (HR : RdE enc d W u ys) (hk : xs.length = k) (hm : ys.length = m) (hbase : base ≤ W.heap.size) (hl : (k + m) * bytes ≤ 140737488355328) :
    ∃ A1 c1 w1, (Builtin.append_ #[t, t] ty #[v, u]).run P W = .ok (.slice A1 (k + m) c1) w1 ∧ OwnO enc w1 base e (.slice A1 (k + m) c1) (xs ++ ys) ∧ Kp (fun b => v.ownBlock = some b) W w1 ∧ ((Value.slice A1 (k + m) c1).ownBlock = v.ownBlock ∨ ∃ b, (Value.slice A1 (k + m) c1).ownBlock = some b ∧ W.heap.size ≤ b) := by
  subst hk
  subst hm
  obtain ⟨v1, w1, hr, hO, hg, hat⟩ := app_runO (P := P) enc d h1 t ty e z bytes ht hinfo hz hb0 HO HR hbase hl
  obtain ⟨A1, c1, rfl⟩ : ∃ A c, v1 = .slice A (xs.length + ys.length) c := by
    obtain ⟨A, c, e1, _⟩ := hO.rdE d
    exact ⟨A, c, by rw [e1, List.length_append]⟩
  exact ⟨A1, c1, w1, hr, hO, Kp.of_grown hg, hat⟩
theorem OwnO.sl {α : Type} {enc : α → Value} {W : World} {base e : Nat} {v : Value} {xs : List α} (h : OwnO enc W base e v xs) {k : Nat} (hk : xs.length = k) : ∃ A c, v = .slice A k c ∧ k ≤ c ∧ k ≤ 9223372036854775807 := by
  subst hk
  rcases h with ⟨rfl, rfl⟩ | ⟨g, o, cap, cur, rfl, hb, hg, hn, hm, _⟩
  · exact ⟨none, 0, rfl, Nat.le_refl _, by simp⟩
  · exact ⟨_, _, rfl, hn, by omega⟩
/-- An element of a row, as the walk's load asks for it. -/
theorem rdE_at {α : Type} {enc : α → Value} {d : α} {w : World} {A : Option Addr} {n c : Nat} {xs : List α} (h : RdE enc d w (.slice A n c) xs) (i : Nat) (hi : i < xs.length) : ∃ ad, A = some ad ∧ w.cell? (ad.add i) = some (enc (xs.getD i d)) := by
  obtain ⟨A', c', e, _, _, _, hr⟩ := h
  simp only [Value.slice.injEq] at e
  obtain ⟨rfl, _, _⟩ := e
  obtain ⟨ad, e, hc⟩ := hr (by omega)
  exact ⟨ad, e, hc i hi⟩
theorem OwnO.kp {α : Type} {enc : α → Value} {S : Nat → Prop} {W W1 : World} {base e : Nat} {v : Value} {xs : List α} (h : OwnO enc W base e v xs) (hk : Kp S W W1) (hn : ∀ k, v.ownBlock = some k → ¬ S k) : OwnO enc W1 base e v xs := h.move fun k hb => hk.block k (h.lt hb) (hn k hb)
/-- Rows of different types lie in different blocks. -/
theorem OwnO.apart {α β : Type} {enc : α → Value} {enc' : β → Value} {W : World} {base base' e e' : Nat} {v v' : Value} {xs : List α} {ys : List β} (h : OwnO enc W base e v xs) (h' : OwnO enc' W base' e' v' ys) (hne : e ≠ e') (k : Nat) (hk : v.ownBlock = some k) : ¬ v'.ownBlock = some k := fun hk' => by
  rcases h with ⟨rfl, _⟩ | ⟨g, o, cap, cur, rfl, hb, hg, r⟩
  · cases hk
  · injection hk with hk
    subst hk
    exact h'.ne hg (Ne.symm hne) hk'
theorem wpList_buildS {P : Program} {ops : Array Oper} {rest : List Oper} {op : Oper} {a : Act} {w w' : World} {Q : Exit → Act → World → Prop} (hgd : op.guard = none) {t : TypeId} {n : Nat} {parts : Array (Nat × Operand)} (ho : op.op = .buildSlice t n parts) {v : Value} {ps : Array (Nat × Value)} (hp : (parts.map fun (i, x) => (i, a.eval x)) = ps)
    (hrun : (Instr.buildSlice t n ps).run P w = .ok v w') (h : wpList P ops Q rest (a.put op.dst v) w') : wpList P ops Q (op :: rest) a w :=
  wpList_plain hgd fun K hK => by
    unfold Oper.wp execOp
    simp only [ho, hp, hrun, Sem.run_bind, Sem.run_pure, Result.andThen_ok]
    exact hK _ _ h
abbrev encN (n : Nat) : Value := .int .u64 (n : Int)
theorem oneN : ∀ x : Nat, (encN x).oneCell' = true := fun _ => rfl
end Go.Proofs.Ytplmdgimodgekaa
