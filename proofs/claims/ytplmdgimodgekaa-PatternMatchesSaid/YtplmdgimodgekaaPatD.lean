/- Patterns: the program's Compile. -/
import Derived.Test.YtplmdgimodgekaaPatC
import Derived.Test.YtplmdgimodgekaaRowK
namespace Go.Proofs.Ytplmdgimodgekaa
open Go.RowKit Go.Proofs.YtplmdgimodgekaaW.PrintWords Go.Proofs.YtplmdgimodgekaaW.PrintLast Go.Proofs.YtplmdgimodgekaaW.PrintMore
attribute [local go_sem] max2_int min2_int max_two min_two max_three min_three max_four min_four   -- for this text's walks alone
set_option linter.unusedVariables false
set_option linter.unusedSimpArgs false

def ptL (p : Pt) : List Value := (ptA p).toList
theorem ptL_len (p : Pt) : (ptL p).length = 7 := rfl
theorem ptL_one (p : Pt) (u : Value) (h : u ∈ ptL p) : u.oneCell' = true := by
  simp only [ptL, ptA, List.mem_cons, List.not_mem_nil, or_false] at h
  rcases h with rfl | rfl | rfl | rfl | rfl | rfl | rfl <;> rfl
def PRowC (W : World) (base : Nat) (v : Value) (xs : List Pt) : Prop := KRow ptL 7 100 W base v xs
def PaV (W : World) (g : Nat) (v : Value) (fold : Bool) : Prop := W.heap[g]? = some (.cells #[v, .bool fold] 92 (0, 0))
/-- What Compile's walk holds: the reader, the pattern, the row of choices, each choice. -/
structure CoS (w W : World) (hC gP gR : Nat) (L : List Int) (n : Int) (b : Nat) (fold : Bool) (vc : Value) (ds : List (Option Addr × Nat × Nat)) (cu : Option Addr × Nat × Nat) (D : List (List Pt)) (C : List Pt) : Prop where
  r : RpV W gR L (b : Nat) n
  p : PaV W gP vc fold
  o : OwnO SlE W w.heap.size 103 vc (ds ++ [cu])
  l : ds.length = D.length
  d : ∀ j, j < D.length → PRowC W w.heap.size (SlE (ds.getD j (none, 0, 0))) (D.getD j []) ∧ ∀ b, (SlE (ds.getD j (none, 0, 0))).ownBlock = some b → b < hC
  c : PRowC W hC (SlE cu) C
  h : w.heap.size ≤ hC ∧ hC ≤ W.heap.size
  g : w.heap.size ≤ gP ∧ w.heap.size ≤ gR
  k : Below w.heap.size w W
section
variable {w W W1 : World} {hC gP gR : Nat} {L : List Int} {n n' : Int} {b b' : Nat} {fold : Bool} {vc vc' : Value} {ds : List (Option Addr × Nat × Nat)} {cu cu' : Option Addr × Nat × Nat} {D : List (List Pt)} {C C' : List Pt}
theorem CoS.lt (h : CoS w W hC gP gR L n b fold vc ds cu D C) : gP < W.heap.size ∧ gR < W.heap.size ∧ gP ≠ gR := ⟨blk_lt h.p, blk_lt h.r, fun e => by
  have h1 := h.p
  have h2 := h.r
  unfold PaV at h1
  unfold RpV at h2
  rw [e, h2] at h1
  injection h1 with h1
  injection h1 with _ h1
  exact absurd h1 (by decide)⟩
theorem CoS.og (h : CoS w W hC gP gR L n b fold vc ds cu D C) : vc.ownBlock ≠ some gP ∧ vc.ownBlock ≠ some gR := ⟨h.o.ne h.p (by decide), h.o.ne h.r (by decide)⟩
theorem PRowC.og {base : Nat} {v : Value} {xs : List Pt} (h : CoS w W hC gP gR L n b fold vc ds cu D C) (hr : PRowC W base v xs) : v.ownBlock ≠ some gP ∧ v.ownBlock ≠ some gR ∧ ∀ k, v.ownBlock = some k → ¬ vc.ownBlock = some k := ⟨KRow.ne hr h.p (by decide), KRow.ne hr h.r (by decide), fun k hk hv => by
  rcases h.o with ⟨rfl, _⟩ | ⟨g, o, cap, cur, rfl, hb, hg, _⟩
  · cases hv
  · injection hv with hv
    subst hv
    exact KRow.ne hr hg (by decide) hk⟩
/-- A step that keeps all but the reader. -/
theorem CoS.next (h : CoS w W hC gP gR L n b fold vc ds cu D C) (hr : RpV W1 gR L (b' : Nat) n') (hk : Kp (fun k => k = gR) W W1) : CoS w W1 hC gP gR L n' b' fold vc ds cu D C :=
  ⟨hr, hk.blk h.p (fun e => h.lt.2.2 e), h.o.kp hk (fun k hk' e => h.og.2 (by rw [hk', e])), h.l, fun j hj => ⟨KRow.kp (h.d j hj).1 hk (fun k hk' e => (PRowC.og h (h.d j hj).1).2.1 (by rw [hk', e])), (h.d j hj).2⟩, KRow.kp h.c hk (fun k hk' e => (PRowC.og h h.c).2.1 (by rw [hk', e])), ⟨h.h.1, Nat.le_trans h.h.2 hk.size⟩, h.g, Kp.from h.k hk (fun k hk' => by rw [hk']; exact h.g.2)⟩
theorem CoS.below (h : CoS w W hC gP gR L n b fold vc ds cu D C) (hb : Below W.heap.size W W1) : CoS w W1 hC gP gR L n b fold vc ds cu D C := h.next (h.r.below hb) (Kp.of_below hb _)
/-- A choice more. -/
theorem CoS.bar (h : CoS w W hC gP gR L n b fold vc ds cu D C) (ho : OwnO SlE W1 w.heap.size 103 vc' ((ds ++ [cu]) ++ [(none, 0, 0)])) (hk : Kp (fun b => vc.ownBlock = some b) W W1) : CoS w (W1.setCell ⟨gP, 0, none⟩ vc') W1.heap.size gP gR L n b fold vc' (ds ++ [cu]) (none, 0, 0) (D ++ [C]) [] := by
  have hp1 : PaV W1 gP vc fold := hk.blk h.p h.og.1
  have hr1 : RpV W1 gR L (b : Nat) n := hk.blk h.r h.og.2
  have hs := Kp.set W1 ⟨gP, 0, none⟩ vc'
  have hne := h.lt.2.2
  refine ⟨hs.blk hr1 (fun e => hne e.symm), ?_, ?_, by rw [List.length_append, List.length_append, h.l]; rfl, ?_, KRow.nil _ _, ⟨Nat.le_trans h.k.size hk.size, hs.size⟩, h.g, Kp.from (Kp.from h.k hk (fun k hk' => h.o.ge hk')) hs (fun k hk' => by rw [show k = gP from hk']; exact h.g.1)⟩
  · have := blk_set hp1 0 vc'
    exact this
  · exact ho.kp hs (fun k hk' e => ho.ne hp1 (by decide) (by rw [hk', show k = gP from e]))
  · intro j hj
    have key : ∀ {base : Nat} {v : Value} {xs : List Pt}, PRowC W base v xs → PRowC (W1.setCell ⟨gP, 0, none⟩ vc') base v xs ∧ ∀ b, v.ownBlock = some b → b < W1.heap.size := fun {base v xs} hr => ⟨KRow.kp (KRow.kp hr hk (fun k hk' => (PRowC.og h hr).2.2 k hk')) hs (fun k hk' e => (PRowC.og h hr).1 (by rw [hk', show k = gP from e])), fun b hb => Nat.lt_of_lt_of_le (KRow.lt hr hb).2 hk.size⟩
    by_cases e : j < D.length
    · rw [List.getD_eq_getElem?_getD, List.getElem?_append_left (by rw [h.l]; exact e), ← List.getD_eq_getElem?_getD, List.getD_eq_getElem?_getD (l := D ++ [C]), List.getElem?_append_left e, ← List.getD_eq_getElem?_getD]
      exact key (h.d j e).1
    · have e2 : j = D.length := by rw [List.length_append] at hj; simp at hj; omega
      subst e2
      rw [List.getD_eq_getElem?_getD, List.getElem?_append_right (by rw [h.l]; exact Nat.le_refl _), List.getD_eq_getElem?_getD (l := D ++ [C]), List.getElem?_append_right (Nat.le_refl _), h.l, Nat.sub_self]
      exact key (KRow.weaken h.c h.h.1)
/-- A part more. -/
theorem CoS.part {g o m c : Nat} (h : CoS w W hC gP gR L n b fold (.slice (some ⟨g, o, none⟩) (m + 1) c) ds cu D C) (hm : D.length = m) (hc : PRowC W1 hC (SlE cu') C') (hk : Kp (fun b => (SlE cu).ownBlock = some b) W W1) : CoS w (W1.setCell ⟨g, o + m, none⟩ (SlE cu')) hC gP gR L n b fold (.slice (some ⟨g, o, none⟩) (m + 1) c) ds cu' D C' := by
  have hog := PRowC.og h h.c
  have hp1 : PaV W1 gP (.slice (some ⟨g, o, none⟩) (m + 1) c) fold := hk.blk h.p hog.1
  have hr1 : RpV W1 gR L (b : Nat) n := hk.blk h.r hog.2.1
  have ho1 := h.o.kp hk (fun k hk' e => hog.2.2 k e hk')
  have hs := Kp.set W1 ⟨g, o + m, none⟩ (SlE cu')
  have hgP : gP ≠ g := fun e => h.og.1 (by rw [e]; rfl)
  have hgR : gR ≠ g := fun e => h.og.2 (by rw [e]; rfl)
  have hlen : (ds ++ [cu]).length = m + 1 := by rw [List.length_append, h.l, hm]; rfl
  have hb1 : Below w.heap.size w W1 := Kp.from h.k hk (fun k hk' => Nat.le_trans h.h.1 (KRow.lt h.c hk').1)
  refine ⟨hs.blk hr1 hgR, hs.blk hp1 hgP, ?_, h.l, ?_, ?_, ⟨h.h.1, Nat.le_trans h.h.2 (Nat.le_trans hk.size hs.size)⟩, h.g, Kp.from hb1 hs (fun k hk' => by rw [show k = g from hk']; exact h.o.ge rfl)⟩
  · have := ho1.set cu' hlen (Nat.lt_succ_self m)
    rw [← hm, ← h.l, List.set_append_right _ _ (Nat.le_refl _), Nat.sub_self] at this
    rw [← hm, ← h.l]
    exact this
  · intro j hj
    obtain ⟨h1, h2⟩ := h.d j hj
    refine ⟨KRow.kp (KRow.kp h1 hk (fun k hk' e => by have := h2 k hk'; have := (KRow.lt h.c e).1; omega)) hs (fun k hk' e => (PRowC.og h h1).2.2 k hk' (by rw [show k = g from e]; rfl)), h2⟩
  · have hr : KRow ptL 7 100 W1 hC (SlE cu') C' := hc
    refine hr.kp hs (fun k hk' e => ?_)
    rcases ho1 with ⟨hv, _⟩ | ⟨g', o', cap, cur, hv, hb, hg, _⟩
    · cases hv
    · simp only [Value.slice.injEq, Option.some.injEq, Addr.mk.injEq] at hv
      obtain ⟨⟨rfl, _, _⟩, _, _⟩ := hv
      exact hr.ne hg (by decide) (by rw [hk', show k = g from e])
end
end Go.Proofs.Ytplmdgimodgekaa
