/- Patterns: the document's Compile: what its walk holds. -/
import Derived.Test.YtplmdgimodgekaaPatS
import Derived.Test.YtplmdgimodgekaaRowK
namespace Go.Proofs.Ytplmdgimodgekaa
open Go.RowKit Go.Proofs.YtplmdgimodgekaaW.PrintWords Go.Proofs.YtplmdgimodgekaaW.PrintLast Go.Proofs.YtplmdgimodgekaaW.PrintMore
attribute [local go_sem] max2_int min2_int max_two min_two max_three min_three max_four min_four   -- for this text's walks alone
set_option linter.unusedVariables false
set_option linter.unusedSimpArgs false

abbrev PtX := Pt × (Option Addr × Nat × Nat)
def enc4 (x : PtX) : List Value := [.int .i64 (x.1.kind : Int), .int .u8 x.1.c, SlE x.2, .bool x.1.neg]
theorem enc4_len (x : PtX) : (enc4 x).length = 4 := rfl
theorem enc4_one (x : PtX) (u : Value) (h : u ∈ enc4 x) : u.oneCell' = true := by
  simp only [enc4, List.mem_cons, List.not_mem_nil, or_false] at h
  rcases h with rfl | rfl | rfl | rfl <;> rfl
theorem infoSl4 : (Try.prog.info? 112).map (fun i => (i.zero, i.size, i.bytes)) = some (some (.slice none 0 0), 1, 24) := by kernel_rfl
theorem infoP4 : (Try.prog.info? 109).map (fun i => (i.zero, i.size, i.bytes)) = some (some (.agg #[.int .i64 0, .int .u8 0, .slice none 0 0, .bool false]), 4, 48) := by kernel_rfl
/-- A set's table stands. -/
def SetOk (W : World) (base : Nat) (x : PtX) : Prop := x.1.kind = 3 → ∃ b, SlE x.2 = .slice (some ⟨b, 0, none⟩) 256 256 ∧ base ≤ b ∧ RowB W b (tabI x.1.ins)
theorem SetOk.kp {W W1 : World} {base : Nat} {x : PtX} {S : Nat → Prop} (h : SetOk W base x) (hk : Kp S W W1) (hS : ∀ b ys, RowB W b ys → ¬ S b) : SetOk W1 base x := fun h3 => by
  obtain ⟨b, h1, h2, h4⟩ := h h3
  exact ⟨b, h1, h2, hk.blk h4 (hS b _ h4)⟩
theorem RowB.tne {W : World} {b g t : Nat} {ys : List Bool} {cs : Array Value} {fz : Nat × Nat} (h : RowB W b ys) (hg : W.heap[g]? = some (.cells cs t fz)) (ht : t ≠ 4) : b ≠ g := fun e => by
  subst e
  rw [RowB, hg] at h
  injection h with h
  injection h with _ h
  exact ht h
def RRow (W : World) (base : Nat) (v : Value) (xs : List PtX) : Prop := KRow enc4 4 109 W base v xs
/-- What the walk holds: the reader, the row of choices, each choice, the tables of the sets. -/
structure RCo (w W : World) (hC gR : Nat) (L : List Int) (n : Int) (b : Nat) (bad : Bool) (vc : Value) (ds : List (Option Addr × Nat × Nat)) (cu : Option Addr × Nat × Nat) (D : List (List PtX)) (C : List PtX) : Prop where
  r : RfV W gR L (b : Nat) n bad
  o : OwnO SlE W w.heap.size 112 vc (ds ++ [cu])
  l : ds.length = D.length
  d : ∀ j, j < D.length → RRow W w.heap.size (SlE (ds.getD j (none, 0, 0))) (D.getD j []) ∧ ∀ b, (SlE (ds.getD j (none, 0, 0))).ownBlock = some b → b < hC
  c : RRow W hC (SlE cu) C
  h : w.heap.size ≤ hC ∧ hC ≤ W.heap.size
  g : w.heap.size ≤ gR
  k : Below w.heap.size w W
  s : bad = false → ∀ l ∈ D ++ [C], ∀ x ∈ l, SetOk W w.heap.size x
section
variable {w W W1 : World} {hC gR : Nat} {L : List Int} {n n' : Int} {b b' : Nat} {bad bad' : Bool} {vc vc' : Value} {ds : List (Option Addr × Nat × Nat)} {cu cu' : Option Addr × Nat × Nat} {D : List (List PtX)} {C C' : List PtX}
theorem RCo.og (h : RCo w W hC gR L n b bad vc ds cu D C) : vc.ownBlock ≠ some gR := h.o.ne h.r (by decide)
theorem RRow.og {base : Nat} {v : Value} {xs : List PtX} (h : RCo w W hC gR L n b bad vc ds cu D C) (hr : RRow W base v xs) : v.ownBlock ≠ some gR ∧ ∀ k, v.ownBlock = some k → ¬ vc.ownBlock = some k := ⟨KRow.ne hr h.r (by decide), fun k hk hv => by
  rcases h.o with ⟨rfl, _⟩ | ⟨g, o, cap, cur, rfl, hb, hg, _⟩
  · cases hv
  · injection hv with hv
    subst hv
    exact KRow.ne hr hg (by decide) hk⟩
theorem RRow.bne {base : Nat} {v : Value} {xs : List PtX} (hr : RRow W base v xs) {b : Nat} {ys : List Bool} (hb : RowB W b ys) : ¬ v.ownBlock = some b := fun e => KRow.ne hr hb (by decide) e
theorem OwnO.bne {base : Nat} {v : Value} {xs : List (Option Addr × Nat × Nat)} (hr : OwnO SlE W base 112 v xs) {b : Nat} {ys : List Bool} (hb : RowB W b ys) : ¬ v.ownBlock = some b := fun e => hr.ne hb (by decide) e
/-- A step that keeps all but the reader. -/
theorem RCo.next (h : RCo w W hC gR L n b bad vc ds cu D C) (hr : RfV W1 gR L (b' : Nat) n' bad') (hk : Kp (fun k => k = gR) W W1) (hb : bad' = false → bad = false) : RCo w W1 hC gR L n' b' bad' vc ds cu D C :=
  ⟨hr, h.o.kp hk (fun k hk' e => h.og (by rw [hk', e])), h.l, fun j hj => ⟨KRow.kp (h.d j hj).1 hk (fun k hk' e => (RRow.og h (h.d j hj).1).1 (by rw [hk', e])), (h.d j hj).2⟩, KRow.kp h.c hk (fun k hk' e => (RRow.og h h.c).1 (by rw [hk', e])), ⟨h.h.1, Nat.le_trans h.h.2 hk.size⟩, h.g, Kp.from h.k hk (fun k hk' => by rw [hk']; exact h.g), fun hb' l hl x hx => (h.s (hb hb') l hl x hx).kp hk (fun b ys hy e => hy.tne h.r (by decide) e)⟩
theorem RCo.below (h : RCo w W hC gR L n b bad vc ds cu D C) (hb : Below W.heap.size W W1) : RCo w W1 hC gR L n b bad vc ds cu D C := h.next (h.r.below hb) (Kp.of_below hb _) id
/-- A choice more. -/
theorem RCo.bar (h : RCo w W hC gR L n b bad vc ds cu D C) (ho : OwnO SlE W1 w.heap.size 112 vc' ((ds ++ [cu]) ++ [(none, 0, 0)])) (hk : Kp (fun b => vc.ownBlock = some b) W W1) : RCo w W1 W1.heap.size gR L n b bad vc' (ds ++ [cu]) (none, 0, 0) (D ++ [C]) [] := by
  refine ⟨hk.blk h.r h.og, ho, by rw [List.length_append, List.length_append, h.l]; rfl, ?_, KRow.nil _ _, ⟨Nat.le_trans h.k.size hk.size, Nat.le_refl _⟩, h.g, Kp.from h.k hk (fun k hk' => h.o.ge hk'), fun hb' l hl x hx => ?_⟩
  · intro j hj
    have key : ∀ {base : Nat} {v : Value} {xs : List PtX}, RRow W base v xs → RRow W1 base v xs ∧ ∀ b, v.ownBlock = some b → b < W1.heap.size := fun {base v xs} hr => ⟨KRow.kp hr hk (fun k hk' => (RRow.og h hr).2 k hk'), fun b hb => Nat.lt_of_lt_of_le (KRow.lt hr hb).2 hk.size⟩
    by_cases e : j < D.length
    · rw [List.getD_eq_getElem?_getD, List.getElem?_append_left (by rw [h.l]; exact e), ← List.getD_eq_getElem?_getD, List.getD_eq_getElem?_getD (l := D ++ [C]), List.getElem?_append_left e, ← List.getD_eq_getElem?_getD]
      exact key (h.d j e).1
    · have e2 : j = D.length := by rw [List.length_append] at hj; simp at hj; omega
      subst e2
      rw [List.getD_eq_getElem?_getD, List.getElem?_append_right (by rw [h.l]; exact Nat.le_refl _), List.getD_eq_getElem?_getD (l := D ++ [C]), List.getElem?_append_right (Nat.le_refl _), h.l, Nat.sub_self]
      exact key (KRow.weaken h.c h.h.1)
  · rcases List.mem_append.1 hl with hl | hl
    · exact (h.s hb' l hl x hx).kp hk (fun b ys hy e => h.o.bne hy e)
    · simp at hl; subst hl; cases hx
/-- A part more. -/
theorem RCo.part {g o m c : Nat} {x : PtX} (h : RCo w W hC gR L n b bad (.slice (some ⟨g, o, none⟩) (m + 1) c) ds cu D C) (hm : D.length = m) (hc : RRow W1 hC (SlE cu') (C ++ [x])) (hk : Kp (fun b => (SlE cu).ownBlock = some b) W W1) (hx : bad = false → SetOk W w.heap.size x) : RCo w (W1.setCell ⟨g, o + m, none⟩ (SlE cu')) hC gR L n b bad (.slice (some ⟨g, o, none⟩) (m + 1) c) ds cu' D (C ++ [x]) := by
  have hog := RRow.og h h.c
  have hr1 : RfV W1 gR L (b : Nat) n bad := hk.blk h.r hog.1
  have ho1 := h.o.kp hk (fun k hk' e => hog.2 k e hk')
  have hs := Kp.set W1 ⟨g, o + m, none⟩ (SlE cu')
  have hgR : gR ≠ g := fun e => h.og (by rw [e]; rfl)
  have hlen : (ds ++ [cu]).length = m + 1 := by rw [List.length_append, h.l, hm]; rfl
  have hb1 : Below w.heap.size w W1 := Kp.from h.k hk (fun k hk' => Nat.le_trans h.h.1 (KRow.lt h.c hk').1)
  refine ⟨hs.blk hr1 hgR, ?_, h.l, ?_, ?_, ⟨h.h.1, Nat.le_trans h.h.2 (Nat.le_trans hk.size hs.size)⟩, h.g, Kp.from hb1 hs (fun k hk' => by rw [show k = g from hk']; exact h.o.ge rfl), fun hb' l hl y hy => ?_⟩
  · have := ho1.set cu' hlen (Nat.lt_succ_self m)
    rw [← hm, ← h.l, List.set_append_right _ _ (Nat.le_refl _), Nat.sub_self] at this
    rw [← hm, ← h.l]
    exact this
  · intro j hj
    obtain ⟨h1, h2⟩ := h.d j hj
    refine ⟨KRow.kp (KRow.kp h1 hk (fun k hk' e => by have := h2 k hk'; have := (KRow.lt h.c e).1; omega)) hs (fun k hk' e => (RRow.og h h1).2 k hk' (by rw [show k = g from e]; rfl)), h2⟩
  · have hr : KRow enc4 4 109 W1 hC (SlE cu') (C ++ [x]) := hc
    refine hr.kp hs (fun k hk' e => ?_)
    rcases ho1 with ⟨hv, _⟩ | ⟨g', o', cap, cur, hv, hb, hg, _⟩
    · cases hv
    · simp only [Value.slice.injEq, Option.some.injEq, Addr.mk.injEq] at hv
      obtain ⟨⟨rfl, _, _⟩, _, _⟩ := hv
      exact hr.ne hg (by decide) (by rw [hk', show k = g from e])
  · have key : ∀ y, SetOk W w.heap.size y → SetOk (W1.setCell ⟨g, o + m, none⟩ (SlE cu')) w.heap.size y := fun y hy => (hy.kp hk (fun b ys hyb e => RRow.bne h.c hyb e)).kp hs (fun b ys hyb e => by
      exact ho1.bne hyb (by rw [show b = g from e]; rfl))
    rcases List.mem_append.1 hl with hl | hl
    · exact key y (h.s hb' l (List.mem_append_left _ hl) y hy)
    · simp at hl
      subst hl
      rcases List.mem_append.1 hy with hy | hy
      · exact key y (h.s hb' C (by simp) y hy)
      · simp at hy; subst hy; exact key _ (hx hb')
end
/-- What the document's Compile has told: choices, the tables of their sets. -/
def RfP (W : World) (v : Value) (xs : List (List PtX)) : Prop := ∃ ds, RdE SlE (none, 0, 0) W v ds ∧ ds.length = xs.length ∧ (∀ j, j < xs.length → KRd enc4 4 W (SlE (ds.getD j (none, 0, 0))) (xs.getD j [])) ∧ ∃ base, ∀ l ∈ xs, ∀ x ∈ l, SetOk W base x
theorem RfP.below {W W1 : World} {v : Value} {xs : List (List PtX)} (h : RfP W v xs) (hb : Below W.heap.size W W1) : RfP W1 v xs := by
  obtain ⟨ds, h1, h2, h3, base, h4⟩ := h
  exact ⟨ds, h1.below hb, h2, fun j hj => (h3 j hj).below hb, base, fun l hl x hx => (h4 l hl x hx).kp (Kp.of_below hb (fun _ => False)) (fun _ _ _ => id)⟩
theorem RCo.pat {w W : World} {hC gR : Nat} {L : List Int} {n : Int} {b : Nat} {vc : Value} {ds : List (Option Addr × Nat × Nat)} {cu : Option Addr × Nat × Nat} {D : List (List PtX)} {C : List PtX} (h : RCo w W hC gR L n b false vc ds cu D C) : RfP W vc (D ++ [C]) := by
  refine ⟨ds ++ [cu], h.o.rdE _, by rw [List.length_append, List.length_append, h.l]; rfl, fun j hj => ?_, w.heap.size, h.s rfl⟩
  by_cases e : j < D.length
  · rw [List.getD_eq_getElem?_getD, List.getElem?_append_left (by rw [h.l]; exact e), ← List.getD_eq_getElem?_getD, List.getD_eq_getElem?_getD (l := D ++ [C]), List.getElem?_append_left e, ← List.getD_eq_getElem?_getD]
    exact KRow.rd (h.d j e).1 enc4_len
  · have e2 : j = D.length := by rw [List.length_append] at hj; simp at hj; omega
    subst e2
    rw [List.getD_eq_getElem?_getD, List.getElem?_append_right (by rw [h.l]; exact Nat.le_refl _), List.getD_eq_getElem?_getD (l := D ++ [C]), List.getElem?_append_right (Nat.le_refl _), h.l, Nat.sub_self]
    exact KRow.rd h.c enc4_len
end Go.Proofs.Ytplmdgimodgekaa
