import Derived.Test.YtigdchfjcfljjaaMgImageLays1
import Derived.Test.YtigdchfjcfljjaaLe
import Derived.Test.YtigdchfjcfljjaaLe2
import Derived.Test.YtigdchfjcfljjaaEnc2
section
/- Images: Change. -/
namespace Go.Proofs.Ytigdchfjcfljjaa
open Go.RowKit Go.Proofs.YtigdchfjcfljjaaW.PrintWords Go.Proofs.YtigdchfjcfljjaaW.PrintLast Go.Proofs.YtigdchfjcfljjaaW.PrintMore
attribute [local go_sem] max2_int min2_int max_two min_two max_three min_three max_four min_four   -- for this text's walks alone
set_option linter.unusedVariables false
set_option linter.unusedSimpArgs false

/-- A row of patches: a place and a slice each. -/
def pcs (ps : List (Int × Value)) : List Value := ps.flatMap fun p => [.int .i64 p.1, p.2]
def PRow (W : World) (base : Nat) (v : Value) (ps : List (Int × Value)) : Prop := W.ownsRow base 91 2 v ps.length (pcs ps)
theorem pcs_len (ps : List (Int × Value)) : (pcs ps).length = ps.length * 2 := by
  induction ps with
  | nil => rfl
  | cons p ps ih => rw [pcs, List.flatMap_cons, List.length_append, ← pcs, ih, List.length_cons]; simp; omega
theorem pcs_app (ps qs : List (Int × Value)) : pcs (ps ++ qs) = pcs ps ++ pcs qs := by rw [pcs, List.flatMap_append]; rfl
theorem PRow.nil (W : World) (base : Nat) : PRow W base (.slice none 0 0) [] := ⟨rfl, .inl ⟨rfl, rfl⟩⟩
theorem PRow.move {W W' : World} {base : Nat} {v : Value} {ps : List (Int × Value)} (h : PRow W base v ps) (hm : ∀ k, v.ownBlock = some k → W'.heap[k]? = W.heap[k]?) : PRow W' base v ps := by
  obtain ⟨hl, h⟩ := h
  refine ⟨hl, h.imp id ?_⟩
  rintro ⟨g, cap, cur, rfl, hb, hg, r⟩
  exact ⟨g, cap, cur, rfl, hb, (hm g rfl).trans hg, r⟩
theorem PRow.lt {W : World} {base : Nat} {v : Value} {ps : List (Int × Value)} (h : PRow W base v ps) {k : Nat} (hk : v.ownBlock = some k) : base ≤ k ∧ k < W.heap.size := by
  rcases h.2 with ⟨rfl, _⟩ | ⟨g, cap, cur, rfl, hb, hg, r⟩
  · cases hk
  · injection hk with hk
    subst hk
    exact ⟨hb, blk_lt hg⟩
theorem PRow.below {W W' : World} {base : Nat} {v : Value} {ps : List (Int × Value)} (h : PRow W base v ps) (hb : Below W.heap.size W W') : PRow W' base v ps := h.move fun k hk => hb.block k (h.lt hk).2
theorem PRow.ne {W : World} {base : Nat} {v : Value} {ps : List (Int × Value)} (h : PRow W base v ps) {g t : Nat} {cs : Array Value} (hg : W.heap[g]? = some (.cells cs t (0, 0))) (hne : 91 ≠ t) : v.ownBlock ≠ some g := fun hk => by
  rcases h.2 with ⟨rfl, _⟩ | ⟨g', cap, cur, rfl, hb, hg', r⟩
  · cases hk
  · injection hk with hk
    rw [show g' = g from hk] at hg'
    rw [hg] at hg'
    injection hg' with e
    injection e with _ e
    exact hne e.symm
theorem PRow.slice {W : World} {base : Nat} {v : Value} {ps : List (Int × Value)} (h : PRow W base v ps) {k : Nat} (hk : ps.length = k) : ∃ A c, v = .slice A k c := by
  subst hk
  rcases h.2 with ⟨rfl, h0⟩ | ⟨g, cap, cur, rfl, _⟩
  · exact ⟨none, 0, by rw [h0]⟩
  · exact ⟨_, _, rfl⟩
theorem PRow.cells {W : World} {base : Nat} {A : Option Addr} {n c : Nat} {ps : List (Int × Value)} (h : PRow W base (.slice A n c) ps) (i : Nat) (hi : i < ps.length) : ∃ ad, A = some ad ∧ W.cell? (ad.add (2 * i)) = some (.int .i64 (ps.getD i (0, .slice none 0 0)).1) ∧ W.cell? (ad.add (2 * i + 1)) = some (ps.getD i (0, .slice none 0 0)).2 := by
  obtain ⟨hl, h⟩ := h
  rcases h with ⟨_, h0⟩ | ⟨g, cap, cur, hv, hb, hg, hn, hm, hs, ht⟩
  · omega
  · simp only [Value.slice.injEq] at hv
    obtain ⟨rfl, _, _⟩ := hv
    have key : ∀ (qs : List (Int × Value)) (i : Nat), i < qs.length → (pcs qs)[2 * i]? = some (.int .i64 (qs.getD i (0, .slice none 0 0)).1) ∧ (pcs qs)[2 * i + 1]? = some (qs.getD i (0, .slice none 0 0)).2 := by
      intro qs
      induction qs with
      | nil => intro i hi; simp at hi
      | cons p qs ih =>
        intro i hi
        cases i with
        | zero => exact ⟨rfl, rfl⟩
        | succ i =>
          have := ih i (by simpa using hi)
          rw [List.getD_cons_succ, show 2 * (i + 1) = 2 * i + 2 by omega, show 2 * i + 2 + 1 = (2 * i + 1) + 2 by omega]
          exact this
    obtain ⟨k1, k2⟩ := key ps i hi
    refine ⟨_, rfl, ?_, ?_⟩
    · have e : ((⟨g, 0, none⟩ : Addr).add (2 * i)) = ⟨g, 2 * i, none⟩ := by simp [Addr.add_lit]
      rw [e, World.cell?, hg]
      show cur[2 * i]? = _
      rw [← k1, ← ht, List.getElem?_take_of_lt (by omega), Array.getElem?_toList]
    · have e : ((⟨g, 0, none⟩ : Addr).add (2 * i + 1)) = ⟨g, 2 * i + 1, none⟩ := by simp [Addr.add_lit]
      rw [e, World.cell?, hg]
      show cur[2 * i + 1]? = _
      rw [← k2, ← ht, List.getElem?_take_of_lt (by omega), Array.getElem?_toList]
theorem infoP : (Try.prog.info? 91).map (fun i => (i.zero, i.size, i.bytes)) = some (some (.agg #[.int .i64 0, .slice none 0 0]), 2, 32) := by kernel_rfl
/-- append: a patch more. -/
theorem app_patch {W : World} {base : Nat} {v : Value} {ps : List (Int × Value)} (x : Int) (A0 : Option Addr) (n0 c0 : Nat) {k : Nat} (HO : PRow W base v ps) (hk : ps.length = k) (hbase : base ≤ W.heap.size) (hl : k ≤ 1000000) :
    ∃ A1 c1 w1, (Builtin.append_ #[86, 86] 86 #[v, .slice (some ⟨W.heap.size, 0, none⟩) 1 1]).run Try.prog (W.alloc (.cells #[.int .i64 x, .slice A0 n0 c0] 91)) = .ok (.slice A1 (k + 1) c1) w1 ∧ PRow w1 base (.slice A1 (k + 1) c1) (ps ++ [(x, .slice A0 n0 c0)]) ∧ Kp (fun b => v.ownBlock = some b) W w1 := by
  subst hk
  obtain ⟨i, hi, hzz⟩ := Option.map_eq_some_iff.1 infoP
  simp only [Prod.mk.injEq] at hzz
  obtain ⟨hz0, hz1, hz2⟩ := hzz
  have HW := HO.below (below_alloc (Below.refl _ _) (.cells #[.int .i64 x, .slice A0 n0 c0] 91))
  obtain ⟨v', w', hr, ho, hg, _⟩ := run_append_own (P := Try.prog) (W.alloc (.cells #[.int .i64 x, .slice A0 n0 c0] 91)) base 86 86 91 i (.agg #[.int .i64 0, .slice none 0 0]) 2 32 Try.underlying86 hi hz0 hz1 hz2 rfl (by omega) v ps.length (pcs ps) HW ⟨W.heap.size, 0, none⟩ 1 1 [.int .i64 x, .slice A0 n0 c0] rfl (fun j u hu => by
      match j, hu with
      | 0, hu => simp at hu; subst hu; simp [Addr.add_lit]
      | 1, hu => simp at hu; subst hu; simp [Addr.add_lit]
      | j + 2, hu => simp at hu) (fun u hu => by simp at hu; rcases hu with rfl | rfl <;> rfl) (by unfold maxLen; omega) (by omega) (by simp; omega)
  have ho2 : PRow w' base v' (ps ++ [(x, .slice A0 n0 c0)]) := by
    rw [PRow, pcs_app, List.length_append]
    exact ho
  obtain ⟨A1, c1, rfl⟩ := ho2.slice (by rw [List.length_append])
  exact ⟨A1, c1, w', hr, ho2, (Kp.of_below (below_alloc (Below.refl _ _) _) _).trans (Kp.of_grown hg) (fun k hk => .inl hk)⟩
/-- What the patches hold: the words' places, and eight bytes each. -/
def PPs (W : World) (base : Nat) (B ws : List Int) (ps : List (Int × Value)) : Prop := ps.length = ws.length ∧ ∀ i, i < ws.length → (ps.getD i (0, .slice none 0 0)).1 = ws.getD i 0 ∧ OwnO (Value.int .u8) W base 5 (ps.getD i (0, .slice none 0 0)).2 ((B.drop (ws.getD i 0).toNat).take 8)
theorem PPs.move {W W' : World} {base : Nat} {B ws : List Int} {ps : List (Int × Value)} (h : PPs W base B ws ps) (hm : ∀ (k : Nat) (cs : Array Value), W.heap[k]? = some (.cells cs 5 (0, 0)) → base ≤ k → W'.heap[k]? = W.heap[k]?) : PPs W' base B ws ps := ⟨h.1, fun i hi => ⟨(h.2 i hi).1, (h.2 i hi).2.move fun k hk => by
  rcases (h.2 i hi).2 with ⟨e, _⟩ | ⟨g, o, cap, cur, e, hb, hg, _⟩
  · rw [e] at hk; cases hk
  · rw [e] at hk; injection hk with hk
    subst hk
    exact hm g cur hg hb⟩⟩
theorem PPs.snoc {W : World} {base : Nat} {B ws : List Int} {ps : List (Int × Value)} {k : Nat} {x : Int} {v : Value} (h : PPs W base B (ws.take k) ps) (hk : k < ws.length) (hx : x = ws.getD k 0) (hv : OwnO (Value.int .u8) W base 5 v ((B.drop (ws.getD k 0).toNat).take 8)) : PPs W base B (ws.take (k + 1)) (ps ++ [(x, v)]) := by
  have h1 : (ws.take k).length = k := by rw [List.length_take]; omega
  have h2 : (ws.take (k + 1)).length = k + 1 := by rw [List.length_take]; omega
  have hp : ps.length = k := h.1.trans h1
  refine ⟨by rw [List.length_append, hp, h2]; rfl, fun i hi => ?_⟩
  rw [h2] at hi
  have hw : ∀ j m : Nat, j < m → (ws.take m).getD j 0 = ws.getD j 0 := fun j m hj => by rw [List.getD_eq_getElem?_getD, List.getD_eq_getElem?_getD, List.getElem?_take_of_lt hj]
  rw [hw i (k + 1) hi]
  by_cases c : i < k
  · have := h.2 i (by omega)
    rw [hw i k c] at this
    rw [List.getD_eq_getElem?_getD, List.getElem?_append_left (by omega), ← List.getD_eq_getElem?_getD]
    exact this
  · obtain rfl : i = k := by omega
    rw [List.getD_eq_getElem?_getD, List.getElem?_append_right (by omega), hp, Nat.sub_self]
    exact ⟨hx, hv⟩
theorem slice_lh (b o n c j : Nat) (hj : j + 8 ≤ n) (hnc : n ≤ c) (W : World) : (Instr.slice 22 (.slice (some ⟨b, o, none⟩) n c) (some (.int .i64 (j : Int))) (some (.int .i64 ((j : Int) + 8))) none).run Try.prog W = .ok (.slice (some ⟨b, o + j, none⟩) 8 (c - j)) W := by
  have hinfo := infoU8
  obtain ⟨i, hi, hzz⟩ := Option.map_eq_some_iff.1 hinfo
  simp only [Prod.mk.injEq] at hzz
  have hel : Try.prog.elem 22 = 5 := by simp [Program.elem, Try.underlying22]
  have hu : Try.prog.underlying 22 = some (.slice (Try.prog.elem 22)) := by rw [hel]; exact Try.underlying22
  have hc : c ≠ j := by omega
  rw [run_slice_lh W 22 (some ⟨b, o, none⟩) n c hu .i64 .i64 (j : Int) ((j : Int) + 8) (Int.natCast_nonneg _) (by omega) (by omega), hel]
  have e : ((j : Int) + 8).toNat = j + 8 := by omega
  simp [sizeOf, typeInfo, hi, hzz.2.1, sliced, Result.andThen, hc, Addr.add_lit, e]
theorem OwnO.mid {α : Type} {enc : α → Value} {W : World} {base e b o n c : Nat} {xs : List α} (h : OwnO enc W base e (.slice (some ⟨b, o, none⟩) n c) xs) (j m : Nat) (hj : j + m ≤ n) : OwnO enc W base e (.slice (some ⟨b, o + j, none⟩) m (c - j)) ((xs.drop j).take m) := by
  rcases h with ⟨hv, _⟩ | ⟨g, o', cap, cur, hv, hb, hg, hn, hm, hs, ht⟩
  · cases hv
  · simp only [Value.slice.injEq, Option.some.injEq, Addr.mk.injEq] at hv
    obtain ⟨⟨rfl, rfl, _⟩, rfl, rfl⟩ := hv
    have hl : ((xs.drop j).take m).length = m := by rw [List.length_take, List.length_drop]; omega
    refine .inr ⟨b, o + j, c - j, cur, by rw [hl], hb, hg, by omega, by omega, by omega, ?_⟩
    rw [hl, encs, List.map_take, List.map_drop, ← encs, ← ht, List.drop_take, List.take_take, List.drop_drop]
    congr 1
    omega
theorem below_set3 {w w1 : World} {a : Nat} (h : Below w.heap.size w w1) (ha : w.heap.size ≤ a) (v0 v1 v2 : Value) : Below w.heap.size w (((w1.setCell ⟨a, 0, none⟩ v0).setCell ⟨a, 1, none⟩ v1).setCell ⟨a, 2, none⟩ v2) := ((h.setCell (p := ⟨a, 0, none⟩) ha v0).setCell (p := ⟨a, 1, none⟩) ha v1).setCell (p := ⟨a, 2, none⟩) ha v2
theorem far3 {W : World} {a k : Nat} (h : k ≠ a) (v0 v1 v2 : Value) : (((W.setCell ⟨a, 0, none⟩ v0).setCell ⟨a, 1, none⟩ v1).setCell ⟨a, 2, none⟩ v2).heap[k]? = W.heap[k]? := (Below.heap_setCell _ ⟨a, 2, none⟩ _ k h).trans ((Below.heap_setCell _ ⟨a, 1, none⟩ _ k h).trans (Below.heap_setCell _ ⟨a, 0, none⟩ _ k h))
theorem slice_tail (b o n c j : Nat) (hj : j ≤ n) (hnc : n ≤ c) {base : Nat} {xs : List Int} (hx : xs.length = n) : ∃ o' c', (∀ W : World, (Instr.slice 22 (.slice (some ⟨b, o, none⟩) n c) (some (.int .i64 (j : Int))) none none).run Try.prog W = .ok (.slice (some ⟨b, o', none⟩) (n - j) c') W) ∧ ∀ W : World, OwnO (Value.int .u8) W base 5 (.slice (some ⟨b, o, none⟩) n c) xs → Rd W .u8 (.slice (some ⟨b, o', none⟩) (n - j) c') (xs.drop j) := by
  by_cases hc : c = j
  · obtain rfl : n = j := by omega
    subst hc
    refine ⟨o, 0, fun W => ?_, fun W h => ?_⟩
    · have hinfo := infoU8
      obtain ⟨i, hi, hzz⟩ := Option.map_eq_some_iff.1 hinfo
      simp only [Prod.mk.injEq] at hzz
      have hel : Try.prog.elem 22 = 5 := by simp [Program.elem, Try.underlying22]
      have hu : Try.prog.underlying 22 = some (.slice (Try.prog.elem 22)) := by rw [hel]; exact Try.underlying22
      rw [run_slice_l W 22 (some ⟨b, o, none⟩) c c hu .i64 (c : Int) (Int.natCast_nonneg _) (by omega), hel]
      simp [sizeOf, typeInfo, hi, hzz.2.1, sliced, Result.andThen, Addr.add_lit]
    · rw [Nat.sub_self, List.drop_of_length_le (by omega)]
      rcases h with ⟨hv, _⟩ | ⟨g, o', cap, cur, hv, hb, hg, hn, hm, hs, ht⟩
      · cases hv
      · simp only [Value.slice.injEq, Option.some.injEq, Addr.mk.injEq] at hv
        obtain ⟨⟨rfl, rfl, _⟩, _, rfl⟩ := hv
        exact OwnO.rd (base := base) (.inr ⟨b, o, 0, cur, rfl, hb, hg, Nat.le_refl _, by omega, by omega, by simp [encs]⟩)
  · refine ⟨o + j, c - j, fun W => slice_from b o n c j hj hc W, fun W h => ?_⟩
    have := (h.mid j (n - j) (by omega)).rd
    rwa [List.take_of_length_le (by rw [List.length_drop]; omega)] at this
/-- Change, on its way. -/
def ChS (w W : World) (g3 : Nat) (B ws : List Int) (q k : Nat) (va vp : Value) (ps : List (Int × Value)) : Prop :=
  W.heap[g3]? = some (.cells #[.int .i64 (q : Int), va, vp] 88 (0, 0)) ∧ OwnO (Value.int .u8) W w.heap.size 5 va (B.drop q) ∧ PRow W w.heap.size vp ps ∧ PPs W w.heap.size B (ws.take k) ps ∧ Below w.heap.size w W ∧ W.heap[w.heap.size]? = some (.cells #[.int .i64 0, .slice none 0 0, .slice none 0 0] 88 (0, 0)) ∧ w.heap.size < g3
theorem ChS.bel {w W : World} {g3 : Nat} {B ws : List Int} {q k : Nat} {va vp : Value} {ps : List (Int × Value)} (h : ChS w W g3 B ws q k va vp ps) : Below w.heap.size w W := h.2.2.2.2.1
theorem ChS.plen {w W : World} {g3 : Nat} {B ws : List Int} {q k : Nat} {va vp : Value} {ps : List (Int × Value)} (h : ChS w W g3 B ws q k va vp ps) (hk : k ≤ ws.length) : ps.length = k := by rw [h.2.2.2.1.1, List.length_take]; omega
theorem ChS.snoc {w wr w2 w4 : World} {g3 : Nat} {B ws : List Int} {q k : Nat} {va vp : Value} {ps : List (Int × Value)} (h : ChS w wr g3 B ws q k va vp ps) {j : Nat} {A0 A1 : Option Addr} {c0 c1 : Nat} (hb2 : Below wr.heap.size wr w2)
    (hq : OwnO (Value.int .u8) w2 wr.heap.size 5 (.slice A0 8 c0) ((B.drop j).take 8)) (hk4 : Kp (fun b => vp.ownBlock = some b) w2 w4) (hp4 : PRow w4 w.heap.size (.slice A1 (k + 1) c1) (ps ++ [((j : Int), .slice A0 8 c0)])) (hk : k < ws.length) (hj : ws.getD k 0 = (j : Int)) :
    ChS w (w4.setCell ⟨g3, 2, none⟩ (.slice A1 (k + 1) c1)) g3 B ws q (k + 1) va (.slice A1 (k + 1) c1) (ps ++ [((j : Int), .slice A0 8 c0)]) := by
  obtain ⟨hz, hva, hp, hpp, hb, hz0, hg⟩ := h
  have hz2 := blk_below hz hb2
  have hz02 := blk_below hz0 hb2
  have hp2 := hp.below hb2
  have n1 : vp.ownBlock ≠ some g3 := hp2.ne hz2 (by decide)
  have n2 : vp.ownBlock ≠ some w.heap.size := hp2.ne hz02 (by decide)
  have hz4 := hk4.blk hz2 n1
  have hz04 := hk4.blk hz02 n2
  have hsz : w.heap.size ≤ wr.heap.size := hb.size
  have mv : ∀ (b : Nat) (cs : Array Value), w2.heap[b]? = some (.cells cs 5 (0, 0)) → (w4.setCell ⟨g3, 2, none⟩ (.slice A1 (k + 1) c1)).heap[b]? = w2.heap[b]? := fun b cs hcs => by
    have e1 : vp.ownBlock ≠ some b := hp2.ne hcs (by decide)
    have e2 : b ≠ g3 := fun e => by
      subst e
      rw [hz2] at hcs
      injection hcs with hcs
      injection hcs with _ hcs
      exact absurd hcs (by decide)
    exact (Below.heap_setCell _ ⟨g3, 2, none⟩ _ b e2).trans (hk4.block b (blk_lt hcs) e1)
  have mvO : ∀ {base : Nat} {v : Value} {xs : List Int}, OwnO (Value.int .u8) w2 base 5 v xs → OwnO (Value.int .u8) (w4.setCell ⟨g3, 2, none⟩ (.slice A1 (k + 1) c1)) base 5 v xs := fun {base v xs} h => h.move fun b hbb => by
    rcases h with ⟨e, _⟩ | ⟨g, o, cap, cur, e, hb', hg', _⟩
    · rw [e] at hbb; cases hbb
    · rw [e] at hbb; injection hbb with hbb
      subst hbb
      exact mv g cur hg'
  refine ⟨?_, mvO (hva.below hb2), ?_, ?_, ?_, ?_, hg⟩
  · simpa using blk_set hz4 2 (.slice A1 (k + 1) c1)
  · exact hp4.move fun b hbb => Below.heap_setCell _ ⟨g3, 2, none⟩ _ b (fun e => by subst e; exact hp4.ne hz4 (by decide) hbb)
  · refine PPs.snoc (PPs.move hpp fun b cs hcs hbb => ?_) hk hj.symm ?_
    · have hcs2 := blk_below hcs hb2
      rw [mv b cs hcs2, hcs2, hcs]
    · rw [hj, Int.toNat_natCast]
      have := mvO hq
      rcases this with h | ⟨g, o, cap, cur, e, hb', r⟩
      · exact .inl h
      · exact .inr ⟨g, o, cap, cur, e, Nat.le_trans hsz hb', r⟩
  · exact (Kp.from (below_step hb hb2) hk4 (fun b hbb => (hp2.lt hbb).1)).setCell (p := ⟨g3, 2, none⟩) (Nat.le_of_lt hg) _
  · exact (Below.heap_setCell _ ⟨g3, 2, none⟩ _ w.heap.size (Nat.ne_of_lt hg)).trans hz04

theorem OwnO.ge_ {α : Type} {enc : α → Value} {W : World} {base base2 e : Nat} {v : Value} {xs : List α} (h : OwnO enc W base e v xs) (hb : base2 ≤ base) : OwnO enc W base2 e v xs := by
  rcases h with h | ⟨g, o, cap, cur, ee, hb', r⟩
  · exact .inl h
  · exact .inr ⟨g, o, cap, cur, ee, Nat.le_trans hb hb', r⟩
set_option maxHeartbeats 8000000 in
set_option maxRecDepth 100000 in
theorem Change_calls (g base : Nat) (H : Hd) (B : List Int) (lim fr : Int) (ws : List Int) (F : Nat → Prop) (vb vw : Value) (w : World) (hI : Im w g base H B lim fr ws F vb vw) (n : Nat) (hn : B.length = n) (hl : n ≤ 100000) (q : Nat) (hq : fr = (q : Int)) (hqn : q ≤ n) (hws : ∀ x ∈ ws, 192 ≤ x ∧ x + 8 ≤ (n : Int)) (hwl : ws.length ≤ 1000000) (hn0 : 0 < n) : Calls Try.prog 53 #[.pointer (some ⟨g, 0, none⟩)] w fun e w' => ∃ va vp ps, e = .returned (.agg #[.int .i64 (q : Int), va, vp]) ∧ OwnO (Value.int .u8) w' w.heap.size 5 va (B.drop q) ∧ PRow w' w.heap.size vp ps ∧ PPs w' w.heap.size B ws ps ∧ Below w.heap.size w w' := by
  subst hq
  obtain ⟨b, o, c, ev, hnc, hbb⟩ := hI.b.form (by omega)
  rw [hn] at ev hnc
  subst ev
  have HI := Aside0.mk hI
  obtain ⟨wl, hwn⟩ : ∃ k, ws.length = k := ⟨_, rfl⟩
  obtain ⟨A1, c1, ev, _, _⟩ := hI.w.sl hwn
  subst ev
  have HWS := Aside0.mk hws
  have HWN := Aside0.mk hwn
  have HN := Aside0.mk hn
  have HWR := Aside0.mk (show ∀ w1 : World, OwnO (Value.int .i64) w1 base 3 (.slice A1 wl c1) ws → RdE (Value.int .i64) (0 : Int) w1 (.slice A1 wl c1) ws from fun w1 h => h.rdE 0)
  obtain ⟨o', c', hsl, hrd⟩ := slice_tail b o n c q hqn hnc (base := base) hn
  obtain ⟨m, hm⟩ : ∃ m, n - q = m := ⟨_, rfl⟩
  rw [hm] at hsl hrd
  have HRD := Aside0.mk hrd
  have HM := Aside0.mk (show (B.drop q).length = m by rw [List.length_drop, hn, hm])
  rw [hwn] at hwl
  have hml : m ≤ 100000 := by omega
  clear hI hn hws hwn hrd hm
  have HZ := Aside0.mk (blk_new w (.cells #[.int .i64 0, .slice none 0 0, .slice none 0 0] 88))
  have HB := Aside0.mk (below_alloc (Below.refl w.heap.size w) (.cells #[.int .i64 0, .slice none 0 0, .slice none 0 0] 88))
  have HS := Aside0.mk (show w.heap.size < (w.alloc (.cells #[.int .i64 0, .slice none 0 0, .slice none 0 0] 88)).heap.size from blk_lt HZ.out)
  go_enter Try.func53, Try.ntmps53

  go_upto_region 1 with fail
  obtain ⟨w0, hw0⟩ : ∃ w0, w.alloc (.cells #[.int .i64 0, .slice none 0 0, .slice none 0 0] 88) = w0 := ⟨_, rfl⟩
  rw [hw0] at HZ HB HS ⊢
  clear hw0
  have r0 : (w0).cell? ⟨g, 0, none⟩ = some (.int .u64 H.id) := blk_cell (HI.out.below HB.out).blk 0
  have r1 : (w0).cell? ⟨g, 1, none⟩ = some (.int .u64 H.key) := blk_cell (HI.out.below HB.out).blk 1
  have r2 : (w0).cell? ⟨g, 2, none⟩ = some (.int .i64 H.data) := blk_cell (HI.out.below HB.out).blk 2
  have r3 : (w0).cell? ⟨g, 3, none⟩ = some (.int .i64 H.fields) := blk_cell (HI.out.below HB.out).blk 3
  have r4 : (w0).cell? ⟨g, 4, none⟩ = some (.int .u64 H.made) := blk_cell (HI.out.below HB.out).blk 4
  have r5 : (w0).cell? ⟨g, 5, none⟩ = some ((.slice (some ⟨b, o, none⟩) n c)) := blk_cell (HI.out.below HB.out).blk 5
  have r6 : (w0).cell? ⟨g, 6, none⟩ = some (.int .i64 lim) := blk_cell (HI.out.below HB.out).blk 6
  have r7 : (w0).cell? ⟨g, 7, none⟩ = some (.int .i64 (q : Int)) := blk_cell (HI.out.below HB.out).blk 7
  have r8 : (w0).cell? ⟨g, 8, none⟩ = some ((.slice A1 wl c1)) := blk_cell (HI.out.below HB.out).blk 8

  go_upto_region 3 with fail
  refine start_ (n := 17) (S := fun w' => w'.cell? ⟨g, 5, none⟩ = some (.slice (some ⟨b, o, none⟩) n c) ∧ w'.cell? ⟨g, 7, none⟩ = some (.int .i64 (q : Int))) (ds := [16]) #[false, false, false, false, false, false, false, false, false, false, false, false, false, false, false, false, false] (by kernel_rfl) rfl rfl ⟨r5, r7⟩ (fun hHeld => ?_)
  refine pure_ (i := 0) (N := some 9) (v := ?_) (a' := ?_) #[true, false, false, false, false, false, false, false, false, false, false, false, false, false, false, false, false] rfl rfl (by kernel_rfl) (fun _ _ _ h => h) (Or.inl ⟨by rfl, ?_⟩) ?_ ?_
  rotate_left
  · intro w'
    go_simp
    with_reducible rfl
  rotate_left
  · simp only [Act.put, List.setIfInBounds_toArray, List.set_cons_zero, List.set_cons_succ, i64_w, i32_w]
    rfl
  refine pure_ (i := 1) (N := some 10) (v := ?_) (a' := ?_) #[true, true, false, false, false, false, false, false, false, false, false, false, false, false, false, false, false] rfl rfl (by kernel_rfl) (fun _ _ _ h => h) (Or.inl ⟨by rfl, ?_⟩) ?_ ?_
  rotate_left
  · intro w'
    go_simp
    with_reducible rfl
  rotate_left
  · simp only [Act.put, List.setIfInBounds_toArray, List.set_cons_zero, List.set_cons_succ, i64_w, i32_w]
    rfl
  refine pure_ (i := 2) (N := some 11) (v := ?_) (a' := ?_) #[true, true, true, false, false, false, false, false, false, false, false, false, false, false, false, false, false] rfl rfl (by kernel_rfl) (fun _ _ _ h => h) (Or.inl ⟨by rfl, ?_⟩) ?_ ?_
  rotate_left
  · intro w'
    go_simp
    with_reducible rfl
  rotate_left
  · simp only [Act.put, List.setIfInBounds_toArray, List.set_cons_zero, List.set_cons_succ, i64_w, i32_w]
    rfl
  refine pure_ (i := 4) (N := some 13) (v := ?_) (a' := ?_) #[true, true, true, false, true, false, false, false, false, false, false, false, false, false, false, false, false] rfl rfl (by kernel_rfl) (fun _ _ _ h => h) (Or.inl ⟨by rfl, ?_⟩) ?_ ?_
  rotate_left
  · intro w'
    go_simp
    with_reducible rfl
  rotate_left
  · simp only [Act.put, List.setIfInBounds_toArray, List.set_cons_zero, List.set_cons_succ, i64_w, i32_w]
    rfl
  refine pure_ (i := 5) (N := some 14) (v := ?_) (a' := ?_) #[true, true, true, false, true, true, false, false, false, false, false, false, false, false, false, false, false] rfl rfl (by kernel_rfl) (fun _ _ _ h => h) (Or.inl ⟨by rfl, ?_⟩) ?_ ?_
  rotate_left
  · intro w'
    go_simp
    with_reducible rfl
  rotate_left
  · simp only [Act.put, List.setIfInBounds_toArray, List.set_cons_zero, List.set_cons_succ, i64_w, i32_w]
    rfl
  refine pure_ (i := 6) (N := some 15) (v := ?_) (a' := ?_) #[true, true, true, false, true, true, true, false, false, false, false, false, false, false, false, false, false] rfl rfl (by kernel_rfl) (fun _ _ _ h => h) (Or.inl ⟨by rfl, ?_⟩) ?_ ?_
  rotate_left
  · intro w'
    go_simp
    with_reducible rfl
  rotate_left
  · simp only [Act.put, List.setIfInBounds_toArray, List.set_cons_zero, List.set_cons_succ, i64_w, i32_w]
    rfl
  refine pure_ (i := 8) (N := some 17) (v := ?_) (a' := ?_) #[true, true, true, false, true, true, true, false, true, false, false, false, false, false, false, false, false] rfl rfl (by kernel_rfl) (fun _ _ _ h => h) (Or.inl ⟨by rfl, ?_⟩) ?_ ?_
  rotate_left
  · intro w'
    go_simp
    with_reducible rfl
  rotate_left
  · simp only [Act.put, List.setIfInBounds_toArray, List.set_cons_zero, List.set_cons_succ, i64_w, i32_w]
    rfl
  refine pure_ (i := 9) (N := some 18) (v := ?_) (a' := ?_) #[true, true, true, false, true, true, true, false, true, true, false, false, false, false, false, false, false] rfl rfl (by kernel_rfl) (fun _ _ _ h => h) (Or.inl ⟨by rfl, ?_⟩) ?_ ?_
  rotate_left
  · intro w'
    go_simp
    with_reducible rfl
  rotate_left
  · simp only [Act.put, List.setIfInBounds_toArray, List.set_cons_zero, List.set_cons_succ, i64_w, i32_w]
    rfl
  refine pure_ (i := 10) (N := some 19) (v := ?_) (a' := ?_) #[true, true, true, false, true, true, true, false, true, true, true, false, false, false, false, false, false] rfl rfl (by kernel_rfl) (fun _ _ _ h => h) (Or.inl ⟨by rfl, ?_⟩) ?_ ?_
  rotate_left
  · intro w'
    go_simp
    with_reducible rfl
  rotate_left
  · simp only [Act.put, List.setIfInBounds_toArray, List.set_cons_zero, List.set_cons_succ, i64_w, i32_w]
    rfl
  refine take_ (i := 3) (N := some 12) (v := ?_) (a' := ?_) #[true, true, true, true, true, true, true, false, true, true, true, false, false, false, false, false, false] rfl rfl (by kernel_rfl) (fun _ _ _ h => h) (Or.inl ⟨by rfl, ?_⟩) hHeld ?_ ?_
  rotate_left
  · rintro w' ⟨s0, s1⟩
    go_simp
    with_reducible rfl
  rotate_left
  · simp only [Act.put, List.setIfInBounds_toArray, List.set_cons_zero, List.set_cons_succ, i64_w, i32_w]
    rfl
  refine take_ (i := 7) (N := some 16) (v := ?_) (a' := ?_) #[true, true, true, true, true, true, true, true, true, true, true, false, false, false, false, false, false] rfl rfl (by kernel_rfl) (fun _ _ _ h => h) (Or.inl ⟨by rfl, ?_⟩) hHeld ?_ ?_
  rotate_left
  · rintro w' ⟨s0, s1⟩
    go_simp
    with_reducible rfl
  rotate_left
  · simp only [Act.put, List.setIfInBounds_toArray, List.set_cons_zero, List.set_cons_succ, i64_w, i32_w]
    rfl
  refine take_ (i := 11) (N := some 20) (v := ?_) (a' := ?_) #[true, true, true, true, true, true, true, true, true, true, true, true, false, false, false, false, false] rfl rfl (by kernel_rfl) (fun _ _ _ h => h) (Or.inl ⟨by rfl, ?_⟩) hHeld ?_ ?_
  rotate_left
  · rintro w' ⟨s0, s1⟩
    go_simp
    with_reducible rfl
  rotate_left
  · simp only [Act.put, List.setIfInBounds_toArray, List.set_cons_zero, List.set_cons_succ, i64_w, i32_w]
    rfl
  refine pure_ (i := 12) (N := some 21) (v := ?_) (a' := ?_) #[true, true, true, true, true, true, true, true, true, true, true, true, true, false, false, false, false] rfl rfl (by kernel_rfl) (fun _ _ _ h => h) (Or.inl ⟨by rfl, ?_⟩) ?_ ?_
  rotate_left
  · intro w'
    go_simp
    with_reducible rfl
  rotate_left
  · simp only [Act.put, List.setIfInBounds_toArray, List.set_cons_zero, List.set_cons_succ, i64_w, i32_w]
    rfl
  refine join_ (σ := Option Addr × Nat × Nat) 1 #[true, true, true, true, true, true, true, true, true, true, true, true, true, true, true, true, false] (fun s => [(22, (.slice s.1 m s.2.1)), (23, .agg #[.int .i64 (q : Int), (.slice s.1 m s.2.1), .slice none 0 0]), (3, .pointer (some ⟨s.2.2, 0, none⟩))]) (fun s w' => OwnO (Value.int .u8) w' w.heap.size 5 (.slice s.1 m s.2.1) (B.drop q) ∧ w'.heap[s.2.2]? = some (.cells #[.int .i64 0, .slice none 0 0, .slice none 0 0] 88 (0, 0)) ∧ w.heap.size < s.2.2 ∧ Below w.heap.size w w' ∧ w'.heap[w.heap.size]? = some (.cells #[.int .i64 0, .slice none 0 0, .slice none 0 0] 88 (0, 0))) ?_ ?_
  rotate_left
  · intro hCont
    refine two_ (i := 13) (j := 15) (Ni := some 22) (Nj := some 3) #[true, true, true, true, true, true, true, true, true, true, true, true, true, true, false, false, false] #[true, true, true, true, true, true, true, true, true, true, true, true, true, false, false, true, false] rfl rfl rfl rfl (by kernel_rfl) (by decide) (by decide) (fun K hK => ?_) (fun K hK => ?_)
    · skip
      refine goes_ Try.func117 (by kernel_rfl) rfl #[.slice (some ⟨b, o', none⟩) m c'] (by rfl) rfl rfl (by (try simp only [List.map_toArray, List.map_cons, List.map_nil]); first | done | rfl) ?_
      with_reducible refine (Clone_calls _ (B.drop q) _ (HRD.out _ (HI.out.below (below_drew HB.out)).b) (by rw [HM.out]; omega)).mono ?_
      rintro e w2 ⟨va, rfl, hoc, hbc⟩
      refine ⟨_, rfl, ?_⟩
      obtain ⟨Av, cv, rfl, _, _⟩ := hoc.sl HM.out
      refine hK.out _ _ ⟨(pw_cell_below hbc hHeld.1), (pw_cell_below hbc hHeld.2)⟩ (fun hHeld => ?_)
      clear hK K
      refine norm_ (a' := ?_) ?_ ?_
      rotate_left
      · show Act.put _ (some 22) _ = _
        simp only [Act.put, List.setIfInBounds_toArray, List.set_cons_zero, List.set_cons_succ, i64_w, i32_w]
        rfl
      refine pure_ (i := 14) (N := some 23) (v := ?_) (a' := ?_) #[true, true, true, true, true, true, true, true, true, true, true, true, true, true, true, false, false] rfl rfl (by kernel_rfl) (fun _ _ _ h => h) (Or.inl ⟨by rfl, ?_⟩) ?_ ?_
      rotate_left
      · intro w'
        go_simp
        with_reducible rfl
      rotate_left
      · simp only [Act.put, List.setIfInBounds_toArray, List.set_cons_zero, List.set_cons_succ, i64_w, i32_w]
        rfl
      refine one_ (i := 15) (N := some 3) #[true, true, true, true, true, true, true, true, true, true, true, true, true, true, true, true, false] rfl rfl (by kernel_rfl) (by decide) (fun K hK => ?_)
      refine value_ (w1 := ?_) (v := ?_) (by rfl) rfl ?_ ?_
      rotate_left 2
      · go_simp
        constructor
        · rfl
        · rfl
      refine hK.out _ _ ⟨(pw_cell_below (below_alloc (Below.refl _ _) _) hHeld.1), (pw_cell_below (below_alloc (Below.refl _ _) _) hHeld.2)⟩ (fun hHeld => ?_)
      clear hK K
      refine norm_ (a' := ?_) ?_ ?_
      rotate_left
      · show Act.put _ (some 3) _ = _
        simp only [Act.put, List.setIfInBounds_toArray, List.set_cons_zero, List.set_cons_succ, i64_w, i32_w]
        rfl
      exact norm_ (by simp only [putAll, Act.put, List.setIfInBounds_toArray, List.set_cons_zero, List.set_cons_succ]) (hCont (Av, cv, w2.heap.size) _ ⟨(hoc.ge_ (below_drew HB.out).size).below (below_alloc (Below.refl _ _) _), blk_new w2 _, Nat.lt_of_lt_of_le HS.out hbc.size, below_alloc (below_step (below_drew HB.out) hbc) _, blk_alloc (blk_below (blk_drew HZ.out) hbc) _⟩)
    · skip
      refine value_ (w1 := ?_) (v := ?_) (by rfl) rfl ?_ ?_
      rotate_left 2
      · go_simp
        constructor
        · rfl
        · rfl
      refine hK.out _ _ ⟨(pw_cell_below (below_alloc (Below.refl _ _) _) hHeld.1), (pw_cell_below (below_alloc (Below.refl _ _) _) hHeld.2)⟩ (fun hHeld => ?_)
      clear hK K
      refine norm_ (a' := ?_) ?_ ?_
      rotate_left
      · show Act.put _ (some 3) _ = _
        simp only [Act.put, List.setIfInBounds_toArray, List.set_cons_zero, List.set_cons_succ, i64_w, i32_w]
        rfl
      refine one_ (i := 13) (N := some 22) #[true, true, true, true, true, true, true, true, true, true, true, true, true, true, false, true, false] rfl rfl (by kernel_rfl) (by decide) (fun K hK => ?_)
      refine goes_ Try.func117 (by kernel_rfl) rfl #[.slice (some ⟨b, o', none⟩) m c'] (by rfl) rfl rfl (by (try simp only [List.map_toArray, List.map_cons, List.map_nil]); first | done | rfl) ?_
      with_reducible refine (Clone_calls _ (B.drop q) _ (HRD.out _ (HI.out.below (below_drew (below_alloc HB.out (.cells #[.int .i64 0, .slice none 0 0, .slice none 0 0] 88)))).b) (by rw [HM.out]; omega)).mono ?_
      rintro e w2 ⟨va, rfl, hoc, hbc⟩
      refine ⟨_, rfl, ?_⟩
      obtain ⟨Av, cv, rfl, _, _⟩ := hoc.sl HM.out
      refine hK.out _ _ ⟨(pw_cell_below hbc hHeld.1), (pw_cell_below hbc hHeld.2)⟩ (fun hHeld => ?_)
      clear hK K
      refine norm_ (a' := ?_) ?_ ?_
      rotate_left
      · show Act.put _ (some 22) _ = _
        simp only [Act.put, List.setIfInBounds_toArray, List.set_cons_zero, List.set_cons_succ, i64_w, i32_w]
        rfl
      refine pure_ (i := 14) (N := some 23) (v := ?_) (a' := ?_) #[true, true, true, true, true, true, true, true, true, true, true, true, true, true, true, true, false] rfl rfl (by kernel_rfl) (fun _ _ _ h => h) (Or.inl ⟨by rfl, ?_⟩) ?_ ?_
      rotate_left
      · intro w'
        go_simp
        with_reducible rfl
      rotate_left
      · simp only [Act.put, List.setIfInBounds_toArray, List.set_cons_zero, List.set_cons_succ, i64_w, i32_w]
        rfl
      exact norm_ (by simp only [putAll, Act.put, List.setIfInBounds_toArray, List.set_cons_zero, List.set_cons_succ]) (hCont (Av, cv, w0.heap.size) _ ⟨hoc.ge_ (below_drew (below_alloc HB.out (.cells #[.int .i64 0, .slice none 0 0, .slice none 0 0] 88))).size, blk_below (blk_drew (blk_new w0 (.cells #[.int .i64 0, .slice none 0 0, .slice none 0 0] 88))) hbc, HS.out, below_step (below_drew (below_alloc HB.out (.cells #[.int .i64 0, .slice none 0 0, .slice none 0 0] 88))) hbc, blk_below (blk_drew (blk_alloc HZ.out (.cells #[.int .i64 0, .slice none 0 0, .slice none 0 0] 88))) hbc⟩)
  rintro s w5 ⟨hoF, hzF, hgF, hbF, hwF⟩
  obtain ⟨Av, cv, g3⟩ := s
  dsimp only at hoF hzF hgF ⊢
  have hi5 := (HI.out.below hbF).blk
  have hHeld : w5.cell? ⟨g, 5, none⟩ = some (.slice (some ⟨b, o, none⟩) n c) ∧ w5.cell? ⟨g, 7, none⟩ = some (.int .i64 (q : Int)) := ⟨blk_cell hi5 5, blk_cell hi5 7⟩
  refine norm_ (a' := ?_) ?_ ?_
  rotate_left
  · simp only [putAll, Act.put, List.setIfInBounds_toArray, List.set_cons_zero, List.set_cons_succ]
    rfl
  refine last_ (i := 16) (N := none) #[true, true, true, true, true, true, true, true, true, true, true, true, true, true, true, true, true] rfl rfl (by kernel_rfl) (by decide) (fun K hK => ?_)
  have zz0 := blk_cell hzF 0
  have zz1 := blk_cell hzF 1
  have zz2 := blk_cell hzF 2
  have zf0 := blk_frozen hzF 0
  have zf1 := blk_frozen hzF 1
  have zf2 := blk_frozen hzF 2
  refine skip_ (w1 := ?_) (by rfl) rfl ?_ ?_
  rotate_left
  · go_simp
    rfl
  refine hK.out _ _ ?_
  clear hK K
  refine done_ (by kernel_rfl) ?_
  obtain ⟨w6, hw⟩ : ∃ W, (((w5.setCell ⟨g3, 0, none⟩ (.int .i64 (q : Int))).setCell ⟨g3, 1, none⟩ (.slice Av m cv)).setCell ⟨g3, 2, none⟩ (.slice none 0 0)) = W := ⟨_, rfl⟩
  rw [hw]
  have HC := Aside0.mk (show ChS w w6 g3 B ws q 0 (.slice Av m cv) (.slice none 0 0) [] from by
    rw [← hw]
    have hne := hoF.ne hzF (by decide)
    refine ⟨by simpa using blk_set (blk_set (blk_set hzF 0 (.int .i64 (q : Int))) 1 (.slice Av m cv)) 2 (.slice none 0 0), hoF.move fun k hk => ?_, PRow.nil _ _, ⟨by simp, fun i hi => by simp at hi⟩, below_set3 hbF (Nat.le_of_lt hgF) _ _ _, ?_, hgF⟩
    · exact far3 (fun e => hne (by rw [hk, e])) _ _ _
    · exact (far3 (Nat.ne_of_lt hgF) _ _ _).trans hwF)
  clear hw hi5 hoF hzF hgF hbF hwF hsl HZ HB HS HRD HM r0 r1 r2 r3 r4 r5 r6 r7 r8
  have r0 : (w6).cell? ⟨g, 0, none⟩ = some (.int .u64 H.id) := blk_cell (HI.out.below HC.out.2.2.2.2.1).blk 0
  have r1 : (w6).cell? ⟨g, 1, none⟩ = some (.int .u64 H.key) := blk_cell (HI.out.below HC.out.2.2.2.2.1).blk 1
  have r2 : (w6).cell? ⟨g, 2, none⟩ = some (.int .i64 H.data) := blk_cell (HI.out.below HC.out.2.2.2.2.1).blk 2
  have r3 : (w6).cell? ⟨g, 3, none⟩ = some (.int .i64 H.fields) := blk_cell (HI.out.below HC.out.2.2.2.2.1).blk 3
  have r4 : (w6).cell? ⟨g, 4, none⟩ = some (.int .u64 H.made) := blk_cell (HI.out.below HC.out.2.2.2.2.1).blk 4
  have r5 : (w6).cell? ⟨g, 5, none⟩ = some ((.slice (some ⟨b, o, none⟩) n c)) := blk_cell (HI.out.below HC.out.2.2.2.2.1).blk 5
  have r6 : (w6).cell? ⟨g, 6, none⟩ = some (.int .i64 lim) := blk_cell (HI.out.below HC.out.2.2.2.2.1).blk 6
  have r7 : (w6).cell? ⟨g, 7, none⟩ = some (.int .i64 (q : Int)) := blk_cell (HI.out.below HC.out.2.2.2.2.1).blk 7
  have r8 : (w6).cell? ⟨g, 8, none⟩ = some ((.slice A1 wl c1)) := blk_cell (HI.out.below HC.out.2.2.2.2.1).blk 8

  go_upto_block 0 with (fail)
  go_cut [] (fun wx => ∃ vp ps, Aside0 (ChS w wx g3 B ws q wl (.slice Av m cv) vp ps))
  case first =>
    go_wp2_with fail
    go_loopw [29] (fun v29 w' => ∃ k : Nat, k ≤ wl ∧ v29 = .int .i64 k ∧ ∃ vp ps, Aside0 (ChS w w' g3 B ws q k (.slice Av m cv) vp ps)) (fun v29 _ => wl - (intOf v29).toNat)
    case atStart => exact ⟨0, by omega, rfl, _, _, HC⟩
    case round =>
      obtain ⟨k, hk, rfl, vp, ps, HCK⟩ := hrel
      by_cases c2 : k < wl
      · obtain ⟨ad, eA, hce⟩ := rdE_at (HWR.out _ (HI.out.below HCK.out.bel).w) k (by rw [HWN.out]; exact c2)
        have hx := HWS.out (ws.getD k 0) (by rw [List.getD_eq_getElem?_getD, List.getElem?_eq_getElem (by rw [HWN.out]; exact c2)]; exact List.getElem_mem _)
        cases eA
        obtain ⟨j, hj⟩ : ∃ j : Nat, ws.getD k 0 = (j : Int) := Int.eq_ofNat_of_zero_le (by omega)
        rw [hj] at hce hx
        obtain ⟨hx1, hx2⟩ := hx
        have HJ := Aside0.mk hj
        have hsl := slice_lh b o n c j (by omega) hnc
        have HD8 := Aside0.mk (show ((B.drop j).take 8).length = 8 by rw [List.length_take, List.length_drop, HN.out]; omega)
        have HMD := Aside0.mk (fun (W : World) (h : OwnO (Value.int .u8) W base 5 (.slice (some ⟨b, o, none⟩) n c) B) => (OwnO.mid h j 8 (by omega)).rd)
        have had2 : wrap64 ((j : Int) + 8) = (j : Int) + 8 := by simp only [wrap64]; omega
        have had : IntKind.i64.wrap ((j : Int) + 8) = (j : Int) + 8 := by clear had2; rw [IntKind.wrap_i64]; omega
        clear hj
        have r0 : (wr).cell? ⟨g, 0, none⟩ = some (.int .u64 H.id) := blk_cell (HI.out.below HCK.out.bel).blk 0
        have r1 : (wr).cell? ⟨g, 1, none⟩ = some (.int .u64 H.key) := blk_cell (HI.out.below HCK.out.bel).blk 1
        have r2 : (wr).cell? ⟨g, 2, none⟩ = some (.int .i64 H.data) := blk_cell (HI.out.below HCK.out.bel).blk 2
        have r3 : (wr).cell? ⟨g, 3, none⟩ = some (.int .i64 H.fields) := blk_cell (HI.out.below HCK.out.bel).blk 3
        have r4 : (wr).cell? ⟨g, 4, none⟩ = some (.int .u64 H.made) := blk_cell (HI.out.below HCK.out.bel).blk 4
        have r5 : (wr).cell? ⟨g, 5, none⟩ = some ((.slice (some ⟨b, o, none⟩) n c)) := blk_cell (HI.out.below HCK.out.bel).blk 5
        have r6 : (wr).cell? ⟨g, 6, none⟩ = some (.int .i64 lim) := blk_cell (HI.out.below HCK.out.bel).blk 6
        have r7 : (wr).cell? ⟨g, 7, none⟩ = some (.int .i64 (q : Int)) := blk_cell (HI.out.below HCK.out.bel).blk 7
        have r8 : (wr).cell? ⟨g, 8, none⟩ = some ((.slice (some ad) wl c1)) := blk_cell (HI.out.below HCK.out.bel).blk 8

        have x2 : wr.cell? ⟨g3, 2, none⟩ = some vp := blk_cell HCK.out.1 2
        go_upto_region 7 with fail
        refine start_ (n := 17) (S := fun w' => w'.cell? ⟨g3, 2, none⟩ = some vp ∧ w'.cell? ⟨g, 5, none⟩ = some (.slice (some ⟨b, o, none⟩) n c)) (ds := [14, 16]) #[false, false, false, false, false, false, false, false, false, false, false, false, false, false, false, false, false] (by kernel_rfl) rfl rfl ⟨x2, r5⟩ (fun hHeld => ?_)
        refine pure_ (i := 0) (N := some 33) (v := ?_) (a' := ?_) #[true, false, false, false, false, false, false, false, false, false, false, false, false, false, false, false, false] rfl rfl (by kernel_rfl) (fun _ _ _ h => h) (Or.inl ⟨by rfl, ?_⟩) ?_ ?_
        rotate_left
        · intro w'
          go_simp
          with_reducible rfl
        rotate_left
        · simp only [Act.put, List.setIfInBounds_toArray, List.set_cons_zero, List.set_cons_succ, i64_w, i32_w]
          rfl
        refine pure_ (i := 2) (N := some 35) (v := ?_) (a' := ?_) #[true, false, true, false, false, false, false, false, false, false, false, false, false, false, false, false, false] rfl rfl (by kernel_rfl) (fun _ _ _ h => h) (Or.inl ⟨by rfl, ?_⟩) ?_ ?_
        rotate_left
        · intro w'
          go_simp
          with_reducible rfl
        rotate_left
        · simp only [Act.put, List.setIfInBounds_toArray, List.set_cons_zero, List.set_cons_succ, i64_w, i32_w]
          rfl
        refine pure_ (i := 3) (N := some 36) (v := ?_) (a' := ?_) #[true, false, true, true, false, false, false, false, false, false, false, false, false, false, false, false, false] rfl rfl (by kernel_rfl) (fun _ _ _ h => h) (Or.inl ⟨by rfl, ?_⟩) ?_ ?_
        rotate_left
        · intro w'
          go_simp
          with_reducible rfl
        rotate_left
        · simp only [Act.put, List.setIfInBounds_toArray, List.set_cons_zero, List.set_cons_succ, i64_w, i32_w]
          rfl
        refine pure_ (i := 4) (N := some 37) (v := ?_) (a' := ?_) #[true, false, true, true, true, false, false, false, false, false, false, false, false, false, false, false, false] rfl rfl (by kernel_rfl) (fun _ _ _ h => h) (Or.inl ⟨by rfl, ?_⟩) ?_ ?_
        rotate_left
        · intro w'
          go_simp
          with_reducible rfl
        rotate_left
        · simp only [Act.put, List.setIfInBounds_toArray, List.set_cons_zero, List.set_cons_succ, i64_w, i32_w]
          rfl
        refine pure_ (i := 5) (N := some 38) (v := ?_) (a' := ?_) #[true, false, true, true, true, true, false, false, false, false, false, false, false, false, false, false, false] rfl rfl (by kernel_rfl) (fun _ _ _ h => h) (Or.inl ⟨by rfl, ?_⟩) ?_ ?_
        rotate_left
        · intro w'
          go_simp
          with_reducible rfl
        rotate_left
        · simp only [Act.put, List.setIfInBounds_toArray, List.set_cons_zero, List.set_cons_succ, i64_w, i32_w]
          rfl
        refine pure_ (i := 7) (N := some 40) (v := ?_) (a' := ?_) #[true, false, true, true, true, true, false, true, false, false, false, false, false, false, false, false, false] rfl rfl (by kernel_rfl) (fun _ _ _ h => h) (Or.inl ⟨by rfl, ?_⟩) ?_ ?_
        rotate_left
        · intro w'
          go_simp
          with_reducible rfl
        rotate_left
        · simp only [Act.put, List.setIfInBounds_toArray, List.set_cons_zero, List.set_cons_succ, i64_w, i32_w]
          rfl
        refine pure_ (i := 8) (N := some 41) (v := ?_) (a' := ?_) #[true, false, true, true, true, true, false, true, true, false, false, false, false, false, false, false, false] rfl rfl (by kernel_rfl) (fun _ _ _ h => h) (Or.inl ⟨by rfl, ?_⟩) ?_ ?_
        rotate_left
        · intro w'
          go_simp
          with_reducible rfl
        rotate_left
        · simp only [Act.put, List.setIfInBounds_toArray, List.set_cons_zero, List.set_cons_succ, i64_w, i32_w]
          rfl
        refine pure_ (i := 9) (N := some 42) (v := ?_) (a' := ?_) #[true, false, true, true, true, true, false, true, true, true, false, false, false, false, false, false, false] rfl rfl (by kernel_rfl) (fun _ _ _ h => h) (Or.inl ⟨by rfl, ?_⟩) ?_ ?_
        rotate_left
        · intro w'
          go_simp
          with_reducible rfl
        rotate_left
        · simp only [Act.put, List.setIfInBounds_toArray, List.set_cons_zero, List.set_cons_succ, i64_w, i32_w]
          rfl
        refine take_ (i := 1) (N := some 34) (v := ?_) (a' := ?_) #[true, true, true, true, true, true, false, true, true, true, false, false, false, false, false, false, false] rfl rfl (by kernel_rfl) (fun _ _ _ h => h) (Or.inl ⟨by rfl, ?_⟩) hHeld ?_ ?_
        rotate_left
        · rintro w' ⟨s0, s1⟩
          go_simp
          with_reducible rfl
        rotate_left
        · simp only [Act.put, List.setIfInBounds_toArray, List.set_cons_zero, List.set_cons_succ, i64_w, i32_w]
          rfl
        refine take_ (i := 6) (N := some 39) (v := ?_) (a' := ?_) #[true, true, true, true, true, true, true, true, true, true, false, false, false, false, false, false, false] rfl rfl (by kernel_rfl) (fun _ _ _ h => h) (Or.inl ⟨by rfl, ?_⟩) hHeld ?_ ?_
        rotate_left
        · rintro w' ⟨s0, s1⟩
          go_simp
          with_reducible rfl
        rotate_left
        · simp only [Act.put, List.setIfInBounds_toArray, List.set_cons_zero, List.set_cons_succ, i64_w, i32_w]
          rfl
        refine pure_ (i := 10) (N := some 43) (v := ?_) (a' := ?_) #[true, true, true, true, true, true, true, true, true, true, true, false, false, false, false, false, false] rfl rfl (by kernel_rfl) (fun _ _ _ h => h) (Or.inl ⟨by rfl, ?_⟩) ?_ ?_
        rotate_left
        · intro w'
          go_simp
          with_reducible rfl
        rotate_left
        · simp only [Act.put, List.setIfInBounds_toArray, List.set_cons_zero, List.set_cons_succ, i64_w, i32_w]
          rfl
        refine one_ (i := 11) (N := some 44) #[true, true, true, true, true, true, true, true, true, true, true, true, false, false, false, false, false] rfl rfl (by kernel_rfl) (by decide) (fun K hK => ?_)
        refine goes_ Try.func117 (by kernel_rfl) rfl #[.slice (some ⟨b, o + j, none⟩) 8 (c - j)] (by rfl) rfl rfl (by (try simp only [List.map_toArray, List.map_cons, List.map_nil]); first | done | rfl) ?_
        with_reducible refine (Clone_calls _ ((B.drop j).take 8) _ (HMD.out _ ((HI.out.below HCK.out.bel).below (below_drew (Below.refl _ _))).b) (by rw [HD8.out]; decide)).mono ?_
        rintro e w2 ⟨vq, rfl, hoq, hbq⟩
        refine ⟨_, rfl, ?_⟩
        obtain ⟨A0, c0, rfl, _, _⟩ := hoq.sl HD8.out
        refine hK.out _ _ ⟨(pw_cell_below hbq hHeld.1), (pw_cell_below hbq hHeld.2)⟩ (fun hHeld => ?_)
        clear hK K
        refine norm_ (a' := ?_) ?_ ?_
        rotate_left
        · show Act.put _ (some 44) _ = _
          simp only [Act.put, List.setIfInBounds_toArray, List.set_cons_zero, List.set_cons_succ, i64_w, i32_w]
          rfl
        refine pure_ (i := 12) (N := some 45) (v := ?_) (a' := ?_) #[true, true, true, true, true, true, true, true, true, true, true, true, true, false, false, false, false] rfl rfl (by kernel_rfl) (fun _ _ _ h => h) (Or.inl ⟨by rfl, ?_⟩) ?_ ?_
        rotate_left
        · intro w'
          go_simp
          with_reducible rfl
        rotate_left
        · simp only [Act.put, List.setIfInBounds_toArray, List.set_cons_zero, List.set_cons_succ, i64_w, i32_w]
          rfl
        refine one_ (i := 13) (N := some 46) #[true, true, true, true, true, true, true, true, true, true, true, true, true, true, false, false, false] rfl rfl (by kernel_rfl) (by decide) (fun K hK => ?_)
        refine value_ (w1 := ?_) (v := ?_) (by rfl) rfl ?_ ?_
        rotate_left 2
        · go_simp
          constructor
          · rfl
          · rfl
        refine hK.out _ _ ⟨(pw_cell_below (below_alloc (Below.refl _ _) _) hHeld.1), (pw_cell_below (below_alloc (Below.refl _ _) _) hHeld.2)⟩ (fun hHeld => ?_)
        clear hK K
        refine norm_ (a' := ?_) ?_ ?_
        rotate_left
        · show Act.put _ (some 46) _ = _
          simp only [Act.put, List.setIfInBounds_toArray, List.set_cons_zero, List.set_cons_succ, i64_w, i32_w]
          rfl
        refine last_ (i := 14) (N := some 47) #[true, true, true, true, true, true, true, true, true, true, true, true, true, true, true, false, false] rfl rfl (by kernel_rfl) (by decide) (fun K hK => ?_)
        have hb2 : Below wr.heap.size wr w2 := below_step (below_drew (Below.refl _ _)) hbq
        obtain ⟨A3, c3, w4, hr4, hp4, hk4⟩ := app_patch (j : Int) A0 8 c0 (HCK.out.2.2.1.below hb2) (HCK.out.plen (by rw [HWN.out]; exact hk)) (Nat.le_trans HCK.out.bel.size hb2.size) (Nat.le_trans hk hwl)
        refine app_step (by rfl) (.tmp 34) (.tmp 46) rfl rfl rfl hr4 ?_
        refine hK.out _ _ ?_
        clear hK K
        refine norm_ (a' := ?_) ?_ ?_
        rotate_left
        · show Act.put _ (some 47) _ = _
          simp only [Act.put, List.setIfInBounds_toArray, List.set_cons_zero, List.set_cons_succ, i64_w, i32_w]
          rfl
        refine pure_ (i := 15) (N := some 48) (v := ?_) (a' := ?_) #[true, true, true, true, true, true, true, true, true, true, true, true, true, true, true, true, false] rfl rfl (by kernel_rfl) (fun _ _ _ h => h) (Or.inl ⟨by rfl, ?_⟩) ?_ ?_
        rotate_left
        · intro w'
          go_simp
          with_reducible rfl
        rotate_left
        · simp only [Act.put, List.setIfInBounds_toArray, List.set_cons_zero, List.set_cons_succ, i64_w, i32_w]
          rfl
        refine last_ (i := 16) (N := none) #[true, true, true, true, true, true, true, true, true, true, true, true, true, true, true, true, true] rfl rfl (by kernel_rfl) (by decide) (fun K hK => ?_)
        have zz2 := blk_cell (hk4.blk (blk_below HCK.out.1 hb2) ((HCK.out.2.2.1.below hb2).ne (blk_below HCK.out.1 hb2) (by decide))) 2
        have zf2 := blk_frozen (hk4.blk (blk_below HCK.out.1 hb2) ((HCK.out.2.2.1.below hb2).ne (blk_below HCK.out.1 hb2) (by decide))) 2
        refine skip_ (w1 := ?_) (by rfl) rfl ?_ ?_
        rotate_left
        · go_simp
          rfl
        refine hK.out _ _ ?_
        clear hK K
        refine done_ (by kernel_rfl) ?_
        have HCN := Aside0.mk (HCK.out.snoc hb2 (hoq.ge_ (Nat.le_refl _)) hk4 hp4 (by rw [HWN.out]; exact c2) HJ.out)
        clear hb2 hoq hbq hk4 hp4 hr4 zz2 zf2 x2 r0 r1 r2 r3 r4 r5 r6 r7 r8 hsl
        go_wp2_with fail
        go_roundw
        case rel => exact ⟨k + 1, by omega, by go_num, _, _, HCN⟩
        case measure => simp [intOf] <;> omega
      · obtain rfl : k = wl := by omega
        go_wp2_with fail
        go_meet
        exact ⟨_, _, HCK⟩
  case rest =>
  obtain ⟨vp, ps, HCK⟩ := hcut
  clear r0 r1 r2 r3 r4 r5 r6 r7 r8
  have x0 : (wc).cell? ⟨g3, 0, none⟩ = some (.int .i64 (q : Int)) := blk_cell HCK.out.1 0
  have x1 : (wc).cell? ⟨g3, 1, none⟩ = some (.slice Av m cv) := blk_cell HCK.out.1 1
  have x2 : (wc).cell? ⟨g3, 2, none⟩ = some (vp) := blk_cell HCK.out.1 2

  have z0 : (wc).cell? ⟨w.heap.size, 0, none⟩ = some (.int .i64 0) := blk_cell HCK.out.2.2.2.2.2.1 0
  have z1 : (wc).cell? ⟨w.heap.size, 1, none⟩ = some (.slice none 0 0) := blk_cell HCK.out.2.2.2.2.2.1 1
  have z2 : (wc).cell? ⟨w.heap.size, 2, none⟩ = some (.slice none 0 0) := blk_cell HCK.out.2.2.2.2.2.1 2
  have f0 := blk_frozen HCK.out.2.2.2.2.2.1 0
  have f1 := blk_frozen HCK.out.2.2.2.2.2.1 1
  have f2 := blk_frozen HCK.out.2.2.2.2.2.1 2

  obtain ⟨A2, c2, rfl⟩ := HCK.out.2.2.1.slice rfl
  go_wp2_with fail
  refine bodyPost_ret (v := .agg #[.int .i64 (q : Int), .slice Av m cv, .slice A2 ps.length c2]) (by simp [results, Try.results53, go_sem, z0, z1, z2]) rfl ?_
  obtain ⟨hz, hva, hp, hpp, hb, hz0, hg⟩ := HCK.out
  rw [List.take_of_length_le (by rw [HWN.out]; exact Nat.le_refl _)] at hpp
  have ne : ∀ (k : Nat) (cs : Array Value), wc.heap[k]? = some (.cells cs 5 (0, 0)) → k ≠ w.heap.size := fun k cs h e => by
    rw [e, hz0] at h
    injection h with h
    injection h with _ h
    exact absurd h (by decide)
  refine ⟨_, _, ps, rfl, hva.move fun k hk => far3 (fun e => hva.ne hz0 (by decide) (by rw [hk, e])) _ _ _, hp.move fun k hk => far3 (fun e => hp.ne hz0 (by decide) (by rw [hk, e])) _ _ _, hpp.move fun k cs hcs _ => far3 (ne k cs hcs) _ _ _, below_set3 hb (Nat.le_refl _) _ _ _⟩
end Go.Proofs.Ytigdchfjcfljjaa
end
section
/- The document's image: what stands in memory; Word, Done, Back, Object. -/
namespace Go.Proofs.Ytigdchfjcfljjaa
open Go.RowKit Go.Proofs.YtigdchfjcfljjaaW.PrintWords Go.Proofs.YtigdchfjcfljjaaW.PrintLast Go.Proofs.YtigdchfjcfljjaaW.PrintMore
attribute [local go_sem] max2_int min2_int max_two min_two max_three min_three max_four min_four   -- for this text's walks alone
set_option linter.unusedVariables false
set_option linter.unusedSimpArgs false

def rmA (H : Hd) (vb va : Value) (lim : Int) (vw : Value) : Array Value := #[.int .u64 H.id, .int .u64 H.key, .int .i64 H.data, .int .i64 H.fields, .int .u64 H.made, vb, va, .int .i64 lim, vw]
/-- An image of the document's: header, bytes, bytes as they were, limit, words that were set. -/
def Rm (W : World) (g base : Nat) (H : Hd) (B Was : List Int) (lim : Int) (ws : List Int) (F : Nat → Prop) (vb va vw : Value) : Prop :=
  W.heap[g]? = some (.cells (rmA H vb va lim vw) 85 (0, 0)) ∧ OwnO (Value.int .u8) W base 5 vb B ∧ OwnO (Value.int .u8) W base 5 va Was ∧ OwnO (Value.int .i64) W base 3 vw ws ∧ F g ∧ (∀ k, vb.ownBlock = some k → F k) ∧ (∀ k, va.ownBlock = some k → F k) ∧ (∀ k, vw.ownBlock = some k → F k) ∧ (∀ k, F k → base ≤ k ∧ k < W.heap.size)
section
variable {W W' : World} {g base : Nat} {H : Hd} {B Was ws : List Int} {lim : Int} {F S : Nat → Prop} {vb va vw : Value}
theorem Rm.move (h : Rm W g base H B Was lim ws F vb va vw) (hm : ∀ k, F k → W'.heap[k]? = W.heap[k]?) (hs : W.heap.size ≤ W'.heap.size) : Rm W' g base H B Was lim ws F vb va vw := by
  obtain ⟨h1, h2, h2', h3, h4, h5, h5', h6, h7⟩ := h
  exact ⟨(hm g h4).trans h1, h2.move (fun k hk => hm k (h5 k hk)), h2'.move (fun k hk => hm k (h5' k hk)), h3.move (fun k hk => hm k (h6 k hk)), h4, h5, h5', h6, fun k hk => ⟨(h7 k hk).1, Nat.lt_of_lt_of_le (h7 k hk).2 hs⟩⟩
theorem Rm.lt (h : Rm W g base H B Was lim ws F vb va vw) {k : Nat} (hk : F k) : k < W.heap.size := (h.2.2.2.2.2.2.2.2 k hk).2
theorem Rm.ge (h : Rm W g base H B Was lim ws F vb va vw) {k : Nat} (hk : F k) : base ≤ k := (h.2.2.2.2.2.2.2.2 k hk).1
theorem Rm.below (h : Rm W g base H B Was lim ws F vb va vw) (hb : Below W.heap.size W W') : Rm W' g base H B Was lim ws F vb va vw := h.move (fun k hk => hb.block k (h.lt hk)) hb.size
theorem Rm.kp (h : Rm W g base H B Was lim ws F vb va vw) (hk : Kp S W W') (hn : ∀ k, F k → ¬ S k) : Rm W' g base H B Was lim ws F vb va vw := h.move (fun k hf => hk.block k (h.lt hf) (hn k hf)) hk.size
theorem Rm.blk (h : Rm W g base H B Was lim ws F vb va vw) : W.heap[g]? = some (.cells (rmA H vb va lim vw) 85 (0, 0)) := h.1
theorem Rm.b (h : Rm W g base H B Was lim ws F vb va vw) : OwnO (Value.int .u8) W base 5 vb B := h.2.1
theorem Rm.a (h : Rm W g base H B Was lim ws F vb va vw) : OwnO (Value.int .u8) W base 5 va Was := h.2.2.1
theorem Rm.w (h : Rm W g base H B Was lim ws F vb va vw) : OwnO (Value.int .i64) W base 3 vw ws := h.2.2.2.1
theorem Rm.fg (h : Rm W g base H B Was lim ws F vb va vw) : F g := h.2.2.2.2.1
theorem Rm.fb (h : Rm W g base H B Was lim ws F vb va vw) : ∀ k, vb.ownBlock = some k → F k := h.2.2.2.2.2.1
theorem Rm.fa (h : Rm W g base H B Was lim ws F vb va vw) : ∀ k, va.ownBlock = some k → F k := h.2.2.2.2.2.2.1
theorem Rm.fw (h : Rm W g base H B Was lim ws F vb va vw) : ∀ k, vw.ownBlock = some k → F k := h.2.2.2.2.2.2.2.1
theorem Rm.bs (h : Rm W g base H B Was lim ws F vb va vw) : base ≤ W.heap.size := Nat.le_trans (h.ge h.fg) (Nat.le_of_lt (h.lt h.fg))
theorem Rm.b_ne (h : Rm W g base H B Was lim ws F vb va vw) : vb.ownBlock ≠ some g := h.b.ne h.blk (by decide)
theorem Rm.a_ne (h : Rm W g base H B Was lim ws F vb va vw) : va.ownBlock ≠ some g := h.a.ne h.blk (by decide)
theorem Rm.w_ne (h : Rm W g base H B Was lim ws F vb va vw) : vw.ownBlock ≠ some g := h.w.ne h.blk (by decide)
end
def RmS (W W' : World) (g base : Nat) (H : Hd) (B Was : List Int) (lim : Int) (ws : List Int) (F : Nat → Prop) : Prop := (∃ vb va vw, Rm W' g base H B Was lim ws (ext F W W') vb va vw) ∧ Kp F W W'
theorem RmS.of {W W' : World} {g base : Nat} {H : Hd} {B B' Was Was' ws ws' : List Int} {lim : Int} {F : Nat → Prop} {vb va vw vb' va' vw' : Value} (h : Rm W g base H B Was lim ws F vb va vw) (hk : Kp F W W')
    (hb : W'.heap[g]? = some (.cells (rmA H vb' va' lim vw') 85 (0, 0))) (h1 : OwnO (Value.int .u8) W' base 5 vb' B') (h2 : OwnO (Value.int .u8) W' base 5 va' Was') (h3 : OwnO (Value.int .i64) W' base 3 vw' ws') (e1 : ∀ k, vb'.ownBlock = some k → ext F W W' k) (e2 : ∀ k, va'.ownBlock = some k → ext F W W' k) (e3 : ∀ k, vw'.ownBlock = some k → ext F W W' k) : RmS W W' g base H B' Was' lim ws' F :=
  ⟨⟨vb', va', vw', hb, h1, h2, h3, .inl h.fg, e1, e2, e3, fun k hk' => hk'.elim (fun hf => ⟨h.ge hf, Nat.lt_of_lt_of_le (h.lt hf) hk.size⟩) (fun hh => ⟨Nat.le_trans h.bs hh.1, hh.2⟩)⟩, hk⟩
theorem RmS.same {W W' : World} {g base : Nat} {H : Hd} {B Was ws : List Int} {lim : Int} {F : Nat → Prop} {vb va vw : Value} (h : Rm W g base H B Was lim ws F vb va vw) (hb : Below W.heap.size W W') : RmS W W' g base H B Was lim ws F :=
  RmS.of h (Kp.of_below hb _) (h.below hb).blk (h.below hb).b (h.below hb).a (h.below hb).w (fun k hk => .inl (h.fb k hk)) (fun k hk => .inl (h.fa k hk)) (fun k hk => .inl (h.fw k hk))
/-- append to a row of the call's own: some bytes. -/
theorem app_row {W : World} {base : Nat} {v u : Value} {xs ys : List Int} {k m : Nat} (HO : OwnO (Value.int .u8) W base 5 v xs) (HR : Rd W .u8 u ys) (hk : xs.length = k) (hm : ys.length = m) (hbase : base ≤ W.heap.size) (hl : k + m ≤ 1000000) :
    ∃ A1 c1 w1, (Builtin.append_ #[22, 22] 22 #[v, u]).run Try.prog W = .ok (.slice A1 (k + m) c1) w1 ∧ OwnO (Value.int .u8) w1 base 5 (.slice A1 (k + m) c1) (xs ++ ys) ∧ Kp (fun b => v.ownBlock = some b) W w1 := by
  obtain ⟨A1, c1, w1, h1, h2, h3, _⟩ := app_rd (P := Try.prog) (d := (0 : Int)) (fun x => rfl) Try.underlying22 infoU8 rfl (by omega) HO (rdE_int.2 HR) hk hm hbase (by omega)
  exact ⟨A1, c1, w1, h1, h2, h3⟩
theorem own_empty (W : World) (base : Nat) (h : base ≤ W.heap.size) : OwnO (Value.int .u8) (W.alloc (.cells #[] 5)) base 5 (.slice (some ⟨W.heap.size, 0, none⟩) 0 0) [] := OwnO.of_own (own_lit_of (enc := Value.int .u8) W base 5 [] h (by simp))
/-- append([]byte{}, ..): a copy. -/
theorem copy_row {w : World} {v : Value} {l : List Int} {n : Nat} (hr : Rd w .u8 v l) (hn : l.length = n) (hl : n ≤ 1000000) :
    ∃ A1 c1 w1, (Builtin.append_ #[22, 22] 22 #[.slice (some ⟨w.heap.size, 0, none⟩) 0 0, v]).run Try.prog (w.alloc (.cells #[] 5)) = .ok (.slice A1 n c1) w1 ∧ OwnO (Value.int .u8) w1 w.heap.size 5 (.slice A1 n c1) l ∧ Below w.heap.size w w1 := by
  have HO := own_empty w w.heap.size (Nat.le_refl _)
  obtain ⟨A1, c1, w1, h1, h2, h3⟩ := app_row HO (hr.below (below_alloc (Below.refl _ _) (.cells #[] 5))) rfl hn (by simp) (by simpa using hl)
  simp only [List.length_nil, Nat.zero_add, List.nil_append] at h1 h2
  exact ⟨A1, c1, w1, h1, h2, Kp.from (below_alloc (Below.refl w.heap.size w) (.cells #[] 5)) h3 (fun b hb => HO.ge hb)⟩
set_option maxHeartbeats 8000000 in
set_option maxRecDepth 100000 in
theorem RWord_calls (g base : Nat) (H : Hd) (B Was : List Int) (lim : Int) (ws : List Int) (F : Nat → Prop) (vb va vw : Value) (w : World) (hI : Rm w g base H B Was lim ws F vb va vw) (a : Int) (hb : isB B) : Calls Try.prog 124 #[.pointer (some ⟨g, 0, none⟩), .int .i64 a] w fun e w' => e = .returned (.int .u64 (getN B a 8)) ∧ Below w.heap.size w w' := by
  have HI := Aside0.mk hI
  have C := Aside0.mk (ref_Get_calls vb B a 8 w hI.b.rd hb)
  clear hI
  have r0 : (w).cell? ⟨g, 0, none⟩ = some (.int .u64 H.id) := blk_cell HI.out.blk 0
  have r1 : (w).cell? ⟨g, 1, none⟩ = some (.int .u64 H.key) := blk_cell HI.out.blk 1
  have r2 : (w).cell? ⟨g, 2, none⟩ = some (.int .i64 H.data) := blk_cell HI.out.blk 2
  have r3 : (w).cell? ⟨g, 3, none⟩ = some (.int .i64 H.fields) := blk_cell HI.out.blk 3
  have r4 : (w).cell? ⟨g, 4, none⟩ = some (.int .u64 H.made) := blk_cell HI.out.blk 4
  have r5 : (w).cell? ⟨g, 5, none⟩ = some (vb) := blk_cell HI.out.blk 5
  have r6 : (w).cell? ⟨g, 6, none⟩ = some (va) := blk_cell HI.out.blk 6
  have r7 : (w).cell? ⟨g, 7, none⟩ = some (.int .i64 lim) := blk_cell HI.out.blk 7
  have r8 : (w).cell? ⟨g, 8, none⟩ = some (vw) := blk_cell HI.out.blk 8

  go_enter Try.func124, Try.ntmps124
  go_wp2_with fail
  refine (C.out).mono ?_
  rintro e w1 ⟨rfl, hb⟩
  have HB := Aside0.mk hb
  clear hb
  go_wp2_with fail
  go_ret
  exact ⟨rfl, HB.out⟩

set_option maxHeartbeats 8000000 in
set_option maxRecDepth 100000 in
theorem RDone_calls (g base : Nat) (H : Hd) (B Was : List Int) (lim : Int) (ws : List Int) (F : Nat → Prop) (vb va vw : Value) (w : World) (hI : Rm w g base H B Was lim ws F vb va vw) (n : Nat) (hn : B.length = n) (hl : n ≤ 1000000) : Calls Try.prog 52 #[.pointer (some ⟨g, 0, none⟩)] w fun e w' => e = .returned (.tuple #[]) ∧ RmS w w' g base H B B lim [] F := by
  have HI := Aside0.mk hI
  obtain ⟨A1, c1, w1, hr, ho, hb⟩ := copy_row hI.b.rd hn hl
  have HR := Aside0.mk hr
  have HO := Aside0.mk ho
  have HB := Aside0.mk hb
  clear hI hr ho hb
  have t0 : (w.alloc (.cells #[] 5)).cell? ⟨g, 0, none⟩ = some (.int .u64 H.id) := blk_cell (blk_alloc HI.out.blk (.cells #[] 5)) 0
  have t1 : (w.alloc (.cells #[] 5)).cell? ⟨g, 1, none⟩ = some (.int .u64 H.key) := blk_cell (blk_alloc HI.out.blk (.cells #[] 5)) 1
  have t2 : (w.alloc (.cells #[] 5)).cell? ⟨g, 2, none⟩ = some (.int .i64 H.data) := blk_cell (blk_alloc HI.out.blk (.cells #[] 5)) 2
  have t3 : (w.alloc (.cells #[] 5)).cell? ⟨g, 3, none⟩ = some (.int .i64 H.fields) := blk_cell (blk_alloc HI.out.blk (.cells #[] 5)) 3
  have t4 : (w.alloc (.cells #[] 5)).cell? ⟨g, 4, none⟩ = some (.int .u64 H.made) := blk_cell (blk_alloc HI.out.blk (.cells #[] 5)) 4
  have t5 : (w.alloc (.cells #[] 5)).cell? ⟨g, 5, none⟩ = some (vb) := blk_cell (blk_alloc HI.out.blk (.cells #[] 5)) 5
  have t6 : (w.alloc (.cells #[] 5)).cell? ⟨g, 6, none⟩ = some (va) := blk_cell (blk_alloc HI.out.blk (.cells #[] 5)) 6
  have t7 : (w.alloc (.cells #[] 5)).cell? ⟨g, 7, none⟩ = some (.int .i64 lim) := blk_cell (blk_alloc HI.out.blk (.cells #[] 5)) 7
  have t8 : (w.alloc (.cells #[] 5)).cell? ⟨g, 8, none⟩ = some (vw) := blk_cell (blk_alloc HI.out.blk (.cells #[] 5)) 8
  have s0 : (w1).cell? ⟨g, 0, none⟩ = some (.int .u64 H.id) := blk_cell (HI.out.below HB.out).blk 0
  have s1 : (w1).cell? ⟨g, 1, none⟩ = some (.int .u64 H.key) := blk_cell (HI.out.below HB.out).blk 1
  have s2 : (w1).cell? ⟨g, 2, none⟩ = some (.int .i64 H.data) := blk_cell (HI.out.below HB.out).blk 2
  have s3 : (w1).cell? ⟨g, 3, none⟩ = some (.int .i64 H.fields) := blk_cell (HI.out.below HB.out).blk 3
  have s4 : (w1).cell? ⟨g, 4, none⟩ = some (.int .u64 H.made) := blk_cell (HI.out.below HB.out).blk 4
  have s5 : (w1).cell? ⟨g, 5, none⟩ = some (vb) := blk_cell (HI.out.below HB.out).blk 5
  have s6 : (w1).cell? ⟨g, 6, none⟩ = some (va) := blk_cell (HI.out.below HB.out).blk 6
  have s7 : (w1).cell? ⟨g, 7, none⟩ = some (.int .i64 lim) := blk_cell (HI.out.below HB.out).blk 7
  have s8 : (w1).cell? ⟨g, 8, none⟩ = some (vw) := blk_cell (HI.out.below HB.out).blk 8
  have f0 := blk_frozen (HI.out.below HB.out).blk 0
  have f1 := blk_frozen (HI.out.below HB.out).blk 1
  have f2 := blk_frozen (HI.out.below HB.out).blk 2
  have f3 := blk_frozen (HI.out.below HB.out).blk 3
  have f4 := blk_frozen (HI.out.below HB.out).blk 4
  have f5 := blk_frozen (HI.out.below HB.out).blk 5
  have f6 := blk_frozen (HI.out.below HB.out).blk 6
  have f7 := blk_frozen (HI.out.below HB.out).blk 7
  have f8 := blk_frozen (HI.out.below HB.out).blk 8
  go_enter Try.func52, Try.ntmps52
  go_wp2_with (first | ((with_reducible refine gate_builtin (b := .append) (xs := #[.tmp 3, .tmp 7]) rfl ?_); at_builtin; refine app_list rfl (.tmp 3) (.tmp 7) rfl rfl rfl HR.out ?_))
  go_end0
  have hi1 := HI.out.below HB.out
  have hk : Kp F w ((w1.setCell ⟨g, 6, none⟩ (.slice A1 n c1)).setCell ⟨g, 8, none⟩ (.slice none 0 0)) := ((Kp.of_below HB.out F).trans (Kp.set w1 ⟨g, 6, none⟩ _) (fun k hk => .inl (by rw [hk]; exact HI.out.fg))).trans (Kp.set _ ⟨g, 8, none⟩ _) (fun k hk => .inl (by rw [hk]; exact HI.out.fg))
  have far : ∀ k, k ≠ g → ((w1.setCell ⟨g, 6, none⟩ (.slice A1 n c1)).setCell ⟨g, 8, none⟩ (.slice none 0 0)).heap[k]? = w1.heap[k]? := fun k h => (Below.heap_setCell _ ⟨g, 8, none⟩ _ k h).trans (Below.heap_setCell _ ⟨g, 6, none⟩ _ k h)
  have hne : (Value.slice A1 n c1).ownBlock ≠ some g := HO.out.ne hi1.blk (by decide)
  have hnew := (HO.out.ge_ HI.out.bs).move (fun k hk => far k (fun e => hne (by rw [hk, e])))
  refine ⟨rfl, RmS.of (vb' := vb) (va' := .slice A1 n c1) (vw' := .slice none 0 0) HI.out hk ?_ (hi1.b.move (fun k hk => far k (fun e => hi1.b_ne (by rw [hk, e])))) (hnew) (OwnO.nil _ _ _ _) (fun k hk => .inl (HI.out.fb k hk)) (fun k hk => .inr ⟨HO.out.ge hk, by have := HO.out.lt hk; simpa using this⟩) (fun k hk => by cases hk)⟩
  simpa [rmA] using blk_set (blk_set hi1.blk 6 (.slice A1 n c1)) 8 (.slice none 0 0)

set_option maxHeartbeats 8000000 in
set_option maxRecDepth 100000 in
theorem RBack_calls (g base : Nat) (H : Hd) (B Was : List Int) (lim : Int) (ws : List Int) (F : Nat → Prop) (vb va vw : Value) (w : World) (hI : Rm w g base H B Was lim ws F vb va vw) (n : Nat) (hn : Was.length = n) (hl : n ≤ 1000000) : Calls Try.prog 123 #[.pointer (some ⟨g, 0, none⟩)] w fun e w' => e = .returned (.tuple #[]) ∧ RmS w w' g base H Was Was lim [] F := by
  have HI := Aside0.mk hI
  obtain ⟨A1, c1, w1, hr, ho, hb⟩ := copy_row hI.a.rd hn hl
  have HR := Aside0.mk hr
  have HO := Aside0.mk ho
  have HB := Aside0.mk hb
  clear hI hr ho hb
  have t0 : (w.alloc (.cells #[] 5)).cell? ⟨g, 0, none⟩ = some (.int .u64 H.id) := blk_cell (blk_alloc HI.out.blk (.cells #[] 5)) 0
  have t1 : (w.alloc (.cells #[] 5)).cell? ⟨g, 1, none⟩ = some (.int .u64 H.key) := blk_cell (blk_alloc HI.out.blk (.cells #[] 5)) 1
  have t2 : (w.alloc (.cells #[] 5)).cell? ⟨g, 2, none⟩ = some (.int .i64 H.data) := blk_cell (blk_alloc HI.out.blk (.cells #[] 5)) 2
  have t3 : (w.alloc (.cells #[] 5)).cell? ⟨g, 3, none⟩ = some (.int .i64 H.fields) := blk_cell (blk_alloc HI.out.blk (.cells #[] 5)) 3
  have t4 : (w.alloc (.cells #[] 5)).cell? ⟨g, 4, none⟩ = some (.int .u64 H.made) := blk_cell (blk_alloc HI.out.blk (.cells #[] 5)) 4
  have t5 : (w.alloc (.cells #[] 5)).cell? ⟨g, 5, none⟩ = some (vb) := blk_cell (blk_alloc HI.out.blk (.cells #[] 5)) 5
  have t6 : (w.alloc (.cells #[] 5)).cell? ⟨g, 6, none⟩ = some (va) := blk_cell (blk_alloc HI.out.blk (.cells #[] 5)) 6
  have t7 : (w.alloc (.cells #[] 5)).cell? ⟨g, 7, none⟩ = some (.int .i64 lim) := blk_cell (blk_alloc HI.out.blk (.cells #[] 5)) 7
  have t8 : (w.alloc (.cells #[] 5)).cell? ⟨g, 8, none⟩ = some (vw) := blk_cell (blk_alloc HI.out.blk (.cells #[] 5)) 8
  have s0 : (w1).cell? ⟨g, 0, none⟩ = some (.int .u64 H.id) := blk_cell (HI.out.below HB.out).blk 0
  have s1 : (w1).cell? ⟨g, 1, none⟩ = some (.int .u64 H.key) := blk_cell (HI.out.below HB.out).blk 1
  have s2 : (w1).cell? ⟨g, 2, none⟩ = some (.int .i64 H.data) := blk_cell (HI.out.below HB.out).blk 2
  have s3 : (w1).cell? ⟨g, 3, none⟩ = some (.int .i64 H.fields) := blk_cell (HI.out.below HB.out).blk 3
  have s4 : (w1).cell? ⟨g, 4, none⟩ = some (.int .u64 H.made) := blk_cell (HI.out.below HB.out).blk 4
  have s5 : (w1).cell? ⟨g, 5, none⟩ = some (vb) := blk_cell (HI.out.below HB.out).blk 5
  have s6 : (w1).cell? ⟨g, 6, none⟩ = some (va) := blk_cell (HI.out.below HB.out).blk 6
  have s7 : (w1).cell? ⟨g, 7, none⟩ = some (.int .i64 lim) := blk_cell (HI.out.below HB.out).blk 7
  have s8 : (w1).cell? ⟨g, 8, none⟩ = some (vw) := blk_cell (HI.out.below HB.out).blk 8
  have f0 := blk_frozen (HI.out.below HB.out).blk 0
  have f1 := blk_frozen (HI.out.below HB.out).blk 1
  have f2 := blk_frozen (HI.out.below HB.out).blk 2
  have f3 := blk_frozen (HI.out.below HB.out).blk 3
  have f4 := blk_frozen (HI.out.below HB.out).blk 4
  have f5 := blk_frozen (HI.out.below HB.out).blk 5
  have f6 := blk_frozen (HI.out.below HB.out).blk 6
  have f7 := blk_frozen (HI.out.below HB.out).blk 7
  have f8 := blk_frozen (HI.out.below HB.out).blk 8
  go_enter Try.func123, Try.ntmps123
  go_wp2_with (first | ((with_reducible refine gate_builtin (b := .append) (xs := #[.tmp 3, .tmp 7]) rfl ?_); at_builtin; refine app_list rfl (.tmp 3) (.tmp 7) rfl rfl rfl HR.out ?_))
  go_end0
  have hi1 := HI.out.below HB.out
  have hk : Kp F w ((w1.setCell ⟨g, 5, none⟩ (.slice A1 n c1)).setCell ⟨g, 8, none⟩ (.slice none 0 0)) := ((Kp.of_below HB.out F).trans (Kp.set w1 ⟨g, 5, none⟩ _) (fun k hk => .inl (by rw [hk]; exact HI.out.fg))).trans (Kp.set _ ⟨g, 8, none⟩ _) (fun k hk => .inl (by rw [hk]; exact HI.out.fg))
  have far : ∀ k, k ≠ g → ((w1.setCell ⟨g, 5, none⟩ (.slice A1 n c1)).setCell ⟨g, 8, none⟩ (.slice none 0 0)).heap[k]? = w1.heap[k]? := fun k h => (Below.heap_setCell _ ⟨g, 8, none⟩ _ k h).trans (Below.heap_setCell _ ⟨g, 5, none⟩ _ k h)
  have hne : (Value.slice A1 n c1).ownBlock ≠ some g := HO.out.ne hi1.blk (by decide)
  have hnew := (HO.out.ge_ HI.out.bs).move (fun k hk => far k (fun e => hne (by rw [hk, e])))
  refine ⟨rfl, RmS.of (vb' := .slice A1 n c1) (va' := va) (vw' := .slice none 0 0) HI.out hk ?_ (hnew) (hi1.a.move (fun k hk => far k (fun e => hi1.a_ne (by rw [hk, e])))) (OwnO.nil _ _ _ _) (fun k hk => .inr ⟨HO.out.ge hk, by have := HO.out.lt hk; simpa using this⟩) (fun k hk => .inl (HI.out.fa k hk)) (fun k hk => by cases hk)⟩
  simpa [rmA] using blk_set (blk_set hi1.blk 5 (.slice A1 n c1)) 8 (.slice none 0 0)

end Go.Proofs.Ytigdchfjcfljjaa
end
section
/- The document's image: Set, Put. -/
namespace Go.Proofs.Ytigdchfjcfljjaa
open Go.RowKit Go.Proofs.YtigdchfjcfljjaaW.PrintWords Go.Proofs.YtigdchfjcfljjaaW.PrintLast Go.Proofs.YtigdchfjcfljjaaW.PrintMore
attribute [local go_sem] max2_int min2_int max_two min_two max_three min_three max_four min_four   -- for this text's walks alone
set_option linter.unusedVariables false
set_option linter.unusedSimpArgs false

theorem fits8 {n : Nat} {a : Int} (h0 : 0 ≤ a) : fitsB n a 8 = decide (a + 8 ≤ (n : Int)) := by
  by_cases h : a + 8 ≤ (n : Int)
  · rw [decide_eq_true h]; exact fits_ok ⟨by omega, h0, by omega, by omega⟩
  · rw [decide_eq_false h]; exact fits_no (fun hh => h (by omega))
set_option maxHeartbeats 8000000 in
set_option maxRecDepth 100000 in
theorem RSet_arg (g base : Nat) (H : Hd) (B Was : List Int) (lim : Int) (ws : List Int) (F : Nat → Prop) (vb va vw : Value) (w : World) (hI : Rm w g base H B Was lim ws F vb va vw) (hb : isB B) (n : Nat) (hn : B.length = n) (a x : Int) (hno : ¬ setOk n a) : Calls Try.prog 121 #[.pointer (some ⟨g, 0, none⟩), .int .i64 a, .int .u64 x] w fun e w' => e = .returned (.int .i64 1) ∧ Below w.heap.size w w' := by
  have HI := Aside0.mk hI
  have C := Aside0.mk (ref_Get_calls vb B a 8 w hI.b.rd hb)
  rw [hn] at C
  obtain ⟨ft, hft⟩ : ∃ y, fitsB n a 8 = y := ⟨_, rfl⟩
  have HF := Aside0.mk hft
  have HF8 := Aside0.mk (fun h0 => (fits8 (n := n) (a := a) h0).symm.trans hft)
  rw [setOk] at hno
  obtain ⟨y, hy⟩ : ∃ y, getN B a 8 = y := ⟨_, rfl⟩
  rw [hy] at C
  clear hI hn hft hy
  have r0 : (w).cell? ⟨g, 0, none⟩ = some (.int .u64 H.id) := blk_cell HI.out.blk 0
  have r1 : (w).cell? ⟨g, 1, none⟩ = some (.int .u64 H.key) := blk_cell HI.out.blk 1
  have r2 : (w).cell? ⟨g, 2, none⟩ = some (.int .i64 H.data) := blk_cell HI.out.blk 2
  have r3 : (w).cell? ⟨g, 3, none⟩ = some (.int .i64 H.fields) := blk_cell HI.out.blk 3
  have r4 : (w).cell? ⟨g, 4, none⟩ = some (.int .u64 H.made) := blk_cell HI.out.blk 4
  have r5 : (w).cell? ⟨g, 5, none⟩ = some (vb) := blk_cell HI.out.blk 5
  have r6 : (w).cell? ⟨g, 6, none⟩ = some (va) := blk_cell HI.out.blk 6
  have r7 : (w).cell? ⟨g, 7, none⟩ = some (.int .i64 lim) := blk_cell HI.out.blk 7
  have r8 : (w).cell? ⟨g, 8, none⟩ = some (vw) := blk_cell HI.out.blk 8

  by_cases c2 : a.tmod 8 = 0
  · have b1 : (a.tmod 8 != 0) = false := by rw [c2]; rfl
    by_cases c1 : a < 192
    · clear hno c2
      go_enter Try.func121, Try.ntmps121
      go_wp2_with fail
      refine (C.out).mono ?_
      rintro e w1 ⟨rfl, hb⟩
      have HB := Aside0.mk hb
      rw [HF.out]
      clear hb
      go_wp2_with fail
      go_ret
      exact ⟨rfl, HB.out⟩

    · have e1 : a.tmod 8 = a % 8 := Int.tmod_eq_emod_of_nonneg (by omega)
      have b2 : (a % 8 != 0) = false := by rw [← e1, c2]; rfl
      obtain rfl : ft = false := by rw [← HF8.out (by omega)]; exact decide_eq_false (fun h => hno ⟨by omega, by omega, h⟩)
      clear hno c2 e1 HF8
      go_enter Try.func121, Try.ntmps121
      go_wp2_with fail
      refine (C.out).mono ?_
      rintro e w1 ⟨rfl, hb⟩
      have HB := Aside0.mk hb
      rw [HF.out]
      clear hb
      go_wp2_with fail
      go_ret
      exact ⟨rfl, HB.out⟩

  · have b1 : (a.tmod 8 != 0) = true := by simpa using c2
    by_cases c0 : 0 ≤ a
    · have b2 : (a % 8 != 0) = true := by rw [← Int.tmod_eq_emod_of_nonneg c0]; exact b1
      clear hno c2
      go_enter Try.func121, Try.ntmps121
      go_wp2_with fail
      refine (C.out).mono ?_
      rintro e w1 ⟨rfl, hb⟩
      have HB := Aside0.mk hb
      rw [HF.out]
      clear hb
      go_wp2_with fail
      go_ret
      exact ⟨rfl, HB.out⟩

    · clear hno c2
      go_enter Try.func121, Try.ntmps121
      go_wp2_with fail
      refine (C.out).mono ?_
      rintro e w1 ⟨rfl, hb⟩
      have HB := Aside0.mk hb
      rw [HF.out]
      clear hb
      go_wp2_with fail
      go_ret
      exact ⟨rfl, HB.out⟩


set_option maxHeartbeats 8000000 in
set_option maxRecDepth 100000 in
theorem RSet_twice (g base : Nat) (H : Hd) (B Was : List Int) (lim : Int) (ws : List Int) (F : Nat → Prop) (vb va vw : Value) (w : World) (hI : Rm w g base H B Was lim ws F vb va vw) (hb : isB B) (n : Nat) (hn : B.length = n) (a x : Int) (hok : setOk n a) (hx : getN B a 8 ≠ 0) : Calls Try.prog 121 #[.pointer (some ⟨g, 0, none⟩), .int .i64 a, .int .u64 x] w fun e w' => e = .returned (.int .i64 7) ∧ Below w.heap.size w w' := by
  have HI := Aside0.mk hI
  have C := Aside0.mk (ref_Get_calls vb B a 8 w hI.b.rd hb)
  have CW := Aside0.mk (fun (w1 : World) (hb1 : Below w.heap.size w w1) => RWord_calls g base H B Was lim ws F vb va vw w1 (hI.below hb1) a hb)

  rw [hn] at C
  obtain ⟨k1, k2, k3⟩ := hok
  have HF := Aside0.mk (show fitsB n a 8 = true by rw [fits8 (by omega)]; exact decide_eq_true k3)
  have b1 : (a.tmod 8 != 0) = false := by rw [Int.tmod_eq_emod_of_nonneg (by omega), k1]; rfl
  have b2 : (a % 8 != 0) = false := by rw [k1]; rfl
  have b3 : (getN B a 8 != 0) = true := by simpa using hx
  obtain ⟨y, hy⟩ : ∃ y, getN B a 8 = y := ⟨_, rfl⟩
  rw [hy] at C CW b3
  clear hI hn hy hx k1
  have r0 : (w).cell? ⟨g, 0, none⟩ = some (.int .u64 H.id) := blk_cell HI.out.blk 0
  have r1 : (w).cell? ⟨g, 1, none⟩ = some (.int .u64 H.key) := blk_cell HI.out.blk 1
  have r2 : (w).cell? ⟨g, 2, none⟩ = some (.int .i64 H.data) := blk_cell HI.out.blk 2
  have r3 : (w).cell? ⟨g, 3, none⟩ = some (.int .i64 H.fields) := blk_cell HI.out.blk 3
  have r4 : (w).cell? ⟨g, 4, none⟩ = some (.int .u64 H.made) := blk_cell HI.out.blk 4
  have r5 : (w).cell? ⟨g, 5, none⟩ = some (vb) := blk_cell HI.out.blk 5
  have r6 : (w).cell? ⟨g, 6, none⟩ = some (va) := blk_cell HI.out.blk 6
  have r7 : (w).cell? ⟨g, 7, none⟩ = some (.int .i64 lim) := blk_cell HI.out.blk 7
  have r8 : (w).cell? ⟨g, 8, none⟩ = some (vw) := blk_cell HI.out.blk 8

  go_enter Try.func121, Try.ntmps121
  go_wp2_with fail
  refine (C.out).mono ?_
  rintro e w1 ⟨rfl, hb⟩
  have HB := Aside0.mk hb
  rw [HF.out]
  clear hb

  go_wp2_with fail
  refine (CW.out _ HB.out).mono ?_
  rintro e w2 ⟨rfl, hb⟩
  replace HB := Aside0.mk (below_step HB.out hb)
  clear hb r0 r1 r2 r3 r4 r5 r6 r7 r8
  go_wp2_with fail
  go_ret
  exact ⟨rfl, HB.out⟩

set_option maxHeartbeats 8000000 in
set_option maxRecDepth 100000 in
theorem RSet_yes (g base : Nat) (H : Hd) (B Was : List Int) (lim : Int) (ws : List Int) (F : Nat → Prop) (vb va vw : Value) (w : World) (hI : Rm w g base H B Was lim ws F vb va vw) (hb : isB B) (n : Nat) (hn : B.length = n) (hl : n ≤ 100000) (q : Nat) (hq : Was.length = q) (j : Nat) (x : Int) (hok : setOk n j) (hx : getN B j 8 = 0) (x0 : 0 ≤ x) (x1 : x ≤ 18446744073709551615) (hwl : ws.length ≤ 1000000) : Calls Try.prog 121 #[.pointer (some ⟨g, 0, none⟩), .int .i64 (j : Int), .int .u64 x] w fun e w' => e = .returned (.int .i64 0) ∧ RmS w w' g base H (splice B j (leB x 8)) Was lim (if (j : Int) < (q : Int) then ws ++ [(j : Int)] else ws) F := by
  obtain ⟨k1, k2, k3⟩ := hok
  obtain ⟨b, o, c, ev, hnc, hbb⟩ := hI.b.form (by omega)
  rw [hn] at ev hnc
  subst ev
  have HI := Aside0.mk hI
  have C := Aside0.mk (ref_Get_calls (.slice (some ⟨b, o, none⟩) n c) B j 8 w hI.b.rd hb)
  have CW := Aside0.mk (fun (w1 : World) (hb1 : Below w.heap.size w w1) => RWord_calls g base H B Was lim ws F (.slice (some ⟨b, o, none⟩) n c) va vw w1 (hI.below hb1) j hb)

  rw [hn, hx] at C
  rw [hx] at CW
  have HF := Aside0.mk (show fitsB n (j : Int) 8 = true by rw [fits8 (by omega)]; exact decide_eq_true k3)
  have CB := Aside0.mk (fun w => ref_Bytes_calls x 8 w x0 x1)
  obtain ⟨A2, c2, ev, hqc, _⟩ := hI.a.sl hq
  subst ev
  obtain ⟨o', c', hsl2, hrd⟩ := slice_tail b o n c (j + 8) (by omega) hnc (base := base) hn
  have hsl := slice_upto b o n c j (by omega)
  have hpre : ∀ W : World, OwnO (Value.int .u8) W base 5 (.slice (some ⟨b, o, none⟩) n c) B → Rd W .u8 (.slice (some ⟨b, o, none⟩) j c) (B.take j) := fun W h => (h.pre j (by omega)).rd
  have HRD := Aside0.mk hrd
  have HPRE := Aside0.mk hpre
  obtain ⟨m, hm⟩ : ∃ m, n - (j + 8) = m := ⟨_, rfl⟩
  rw [hm] at hsl2 HRD
  have HLT := Aside0.mk (show (B.take j).length = j by rw [List.length_take]; omega)
  have HLD := Aside0.mk (show (B.drop (j + 8)).length = m by rw [List.length_drop, hn, hm])
  have HSP := Aside0.mk (show (([] ++ B.take j) ++ leB x (leW 8)) ++ B.drop (j + 8) = splice B j (leB x 8) by rw [splice, leB_len, leW8, List.nil_append, List.append_assoc])
  have hnm : 0 + j + 8 + m = n := by omega
  have hl1 : 0 + j ≤ 1000000 := by omega
  have hl2 : 0 + j + 8 ≤ 1000000 := by omega
  have hl3 : 0 + j + 8 + m ≤ 1000000 := by omega
  have b1 : ((j : Int).tmod 8 != 0) = false := by rw [Int.tmod_eq_emod_of_nonneg (by omega), k1]; rfl
  have b2 : ((j : Int) % 8 != 0) = false := by rw [k1]; rfl
  obtain ⟨WS, hWS⟩ : ∃ X, (if (j : Int) < (q : Int) then ws ++ [(j : Int)] else ws) = X := ⟨_, rfl⟩
  rw [hWS]
  have HWS := Aside0.mk hWS
  obtain ⟨wl, hwn⟩ : ∃ k, ws.length = k := ⟨_, rfl⟩
  have HWN := Aside0.mk hwn
  rw [hwn] at hwl
  have hja : (j : Int) + 8 = ((j + 8 : Nat) : Int) := by omega
  rw [← hja] at hsl2
  have had2 : wrap64 ((j : Int) + 8) = (j : Int) + 8 := by simp only [wrap64]; omega
  have had : IntKind.i64.wrap ((j : Int) + 8) = (j : Int) + 8 := by clear had2; rw [IntKind.wrap_i64]; omega
  have HAD := Aside0.mk (And.intro had had2)
  clear had had2
  clear hI hn hx hq k1 hrd hpre hm hWS hwn hja
  have r0 : (w).cell? ⟨g, 0, none⟩ = some (.int .u64 H.id) := blk_cell HI.out.blk 0
  have r1 : (w).cell? ⟨g, 1, none⟩ = some (.int .u64 H.key) := blk_cell HI.out.blk 1
  have r2 : (w).cell? ⟨g, 2, none⟩ = some (.int .i64 H.data) := blk_cell HI.out.blk 2
  have r3 : (w).cell? ⟨g, 3, none⟩ = some (.int .i64 H.fields) := blk_cell HI.out.blk 3
  have r4 : (w).cell? ⟨g, 4, none⟩ = some (.int .u64 H.made) := blk_cell HI.out.blk 4
  have r5 : (w).cell? ⟨g, 5, none⟩ = some ((.slice (some ⟨b, o, none⟩) n c)) := blk_cell HI.out.blk 5
  have r6 : (w).cell? ⟨g, 6, none⟩ = some ((.slice A2 q c2)) := blk_cell HI.out.blk 6
  have r7 : (w).cell? ⟨g, 7, none⟩ = some (.int .i64 lim) := blk_cell HI.out.blk 7
  have r8 : (w).cell? ⟨g, 8, none⟩ = some (vw) := blk_cell HI.out.blk 8

  go_enter Try.func121, Try.ntmps121
  go_wp2_with fail
  refine (C.out).mono ?_
  rintro e w1 ⟨rfl, hb⟩
  have HB := Aside0.mk hb
  rw [HF.out]
  clear hb

  go_wp2_with fail
  refine (CW.out _ HB.out).mono ?_
  rintro e w2 ⟨rfl, hb⟩
  replace HB := Aside0.mk (below_step HB.out hb)
  clear hb r0 r1 r2 r3 r4 r5 r6 r7 r8

  have HI2 := Aside0.mk (HI.out.below HB.out)
  have r0 : (w2).cell? ⟨g, 0, none⟩ = some (.int .u64 H.id) := blk_cell HI2.out.blk 0
  have r1 : (w2).cell? ⟨g, 1, none⟩ = some (.int .u64 H.key) := blk_cell HI2.out.blk 1
  have r2 : (w2).cell? ⟨g, 2, none⟩ = some (.int .i64 H.data) := blk_cell HI2.out.blk 2
  have r3 : (w2).cell? ⟨g, 3, none⟩ = some (.int .i64 H.fields) := blk_cell HI2.out.blk 3
  have r4 : (w2).cell? ⟨g, 4, none⟩ = some (.int .u64 H.made) := blk_cell HI2.out.blk 4
  have r5 : (w2).cell? ⟨g, 5, none⟩ = some ((.slice (some ⟨b, o, none⟩) n c)) := blk_cell HI2.out.blk 5
  have r6 : (w2).cell? ⟨g, 6, none⟩ = some ((.slice A2 q c2)) := blk_cell HI2.out.blk 6
  have r7 : (w2).cell? ⟨g, 7, none⟩ = some (.int .i64 lim) := blk_cell HI2.out.blk 7
  have r8 : (w2).cell? ⟨g, 8, none⟩ = some (vw) := blk_cell HI2.out.blk 8

  go_upto_region 6 with fail
  obtain ⟨had, had2⟩ := HAD.out
  refine start_ (n := 23) (S := fun w' => w'.cell? ⟨g, 5, none⟩ = some (.slice (some ⟨b, o, none⟩) n c)) (ds := [22]) #[false, false, false, false, false, false, false, false, false, false, false, false, false, false, false, false, false, false, false, false, false, false, false] (by kernel_rfl) rfl rfl (r5) (fun hHeld => ?_)
  refine pure_ (i := 0) (N := some 33) (v := ?_) (a' := ?_) #[true, false, false, false, false, false, false, false, false, false, false, false, false, false, false, false, false, false, false, false, false, false, false] rfl rfl (by kernel_rfl) (fun _ _ _ h => h) (Or.inl ⟨by rfl, ?_⟩) ?_ ?_
  rotate_left
  · intro w'
    go_simp
    with_reducible rfl
  rotate_left
  · simp only [Act.put, List.setIfInBounds_toArray, List.set_cons_zero, List.set_cons_succ, i64_w, i32_w]
    rfl
  refine pure_ (i := 2) (N := some 35) (v := ?_) (a' := ?_) #[true, false, true, false, false, false, false, false, false, false, false, false, false, false, false, false, false, false, false, false, false, false, false] rfl rfl (by kernel_rfl) (fun _ _ _ h => h) (Or.inl ⟨by rfl, ?_⟩) ?_ ?_
  rotate_left
  · intro w'
    go_simp
    with_reducible rfl
  rotate_left
  · simp only [Act.put, List.setIfInBounds_toArray, List.set_cons_zero, List.set_cons_succ, i64_w, i32_w]
    rfl
  refine pure_ (i := 3) (N := some 36) (v := ?_) (a' := ?_) #[true, false, true, true, false, false, false, false, false, false, false, false, false, false, false, false, false, false, false, false, false, false, false] rfl rfl (by kernel_rfl) (fun _ _ _ h => h) (Or.inl ⟨by rfl, ?_⟩) ?_ ?_
  rotate_left
  · intro w'
    go_simp
    with_reducible rfl
  rotate_left
  · simp only [Act.put, List.setIfInBounds_toArray, List.set_cons_zero, List.set_cons_succ, i64_w, i32_w]
    rfl
  refine pure_ (i := 4) (N := some 37) (v := ?_) (a' := ?_) #[true, false, true, true, true, false, false, false, false, false, false, false, false, false, false, false, false, false, false, false, false, false, false] rfl rfl (by kernel_rfl) (fun _ _ _ h => h) (Or.inl ⟨by rfl, ?_⟩) ?_ ?_
  rotate_left
  · intro w'
    go_simp
    with_reducible rfl
  rotate_left
  · simp only [Act.put, List.setIfInBounds_toArray, List.set_cons_zero, List.set_cons_succ, i64_w, i32_w]
    rfl
  refine pure_ (i := 6) (N := some 39) (v := ?_) (a' := ?_) #[true, false, true, true, true, false, true, false, false, false, false, false, false, false, false, false, false, false, false, false, false, false, false] rfl rfl (by kernel_rfl) (fun _ _ _ h => h) (Or.inl ⟨by rfl, ?_⟩) ?_ ?_
  rotate_left
  · intro w'
    go_simp
    with_reducible rfl
  rotate_left
  · simp only [Act.put, List.setIfInBounds_toArray, List.set_cons_zero, List.set_cons_succ, i64_w, i32_w]
    rfl
  refine pure_ (i := 9) (N := some 42) (v := ?_) (a' := ?_) #[true, false, true, true, true, false, true, false, false, true, false, false, false, false, false, false, false, false, false, false, false, false, false] rfl rfl (by kernel_rfl) (fun _ _ _ h => h) (Or.inl ⟨by rfl, ?_⟩) ?_ ?_
  rotate_left
  · intro w'
    go_simp
    with_reducible rfl
  rotate_left
  · simp only [Act.put, List.setIfInBounds_toArray, List.set_cons_zero, List.set_cons_succ, i64_w, i32_w]
    rfl
  refine pure_ (i := 12) (N := some 45) (v := ?_) (a' := ?_) #[true, false, true, true, true, false, true, false, false, true, false, false, true, false, false, false, false, false, false, false, false, false, false] rfl rfl (by kernel_rfl) (fun _ _ _ h => h) (Or.inl ⟨by rfl, ?_⟩) ?_ ?_
  rotate_left
  · intro w'
    go_simp
    with_reducible rfl
  rotate_left
  · simp only [Act.put, List.setIfInBounds_toArray, List.set_cons_zero, List.set_cons_succ, i64_w, i32_w]
    rfl
  refine pure_ (i := 13) (N := some 46) (v := ?_) (a' := ?_) #[true, false, true, true, true, false, true, false, false, true, false, false, true, true, false, false, false, false, false, false, false, false, false] rfl rfl (by kernel_rfl) (fun _ _ _ h => h) (Or.inl ⟨by rfl, ?_⟩) ?_ ?_
  rotate_left
  · intro w'
    go_simp
    with_reducible rfl
  rotate_left
  · simp only [Act.put, List.setIfInBounds_toArray, List.set_cons_zero, List.set_cons_succ, i64_w, i32_w]
    rfl
  refine pure_ (i := 14) (N := some 47) (v := ?_) (a' := ?_) #[true, false, true, true, true, false, true, false, false, true, false, false, true, true, true, false, false, false, false, false, false, false, false] rfl rfl (by kernel_rfl) (fun _ _ _ h => h) (Or.inl ⟨by rfl, ?_⟩) ?_ ?_
  rotate_left
  · intro w'
    go_simp
    with_reducible rfl
  rotate_left
  · simp only [Act.put, List.setIfInBounds_toArray, List.set_cons_zero, List.set_cons_succ, i64_w, i32_w]
    rfl
  refine pure_ (i := 16) (N := some 49) (v := ?_) (a' := ?_) #[true, false, true, true, true, false, true, false, false, true, false, false, true, true, true, false, true, false, false, false, false, false, false] rfl rfl (by kernel_rfl) (fun _ _ _ h => h) (Or.inl ⟨by rfl, ?_⟩) ?_ ?_
  rotate_left
  · intro w'
    go_simp
    with_reducible rfl
  rotate_left
  · simp only [Act.put, List.setIfInBounds_toArray, List.set_cons_zero, List.set_cons_succ, i64_w, i32_w]
    rfl
  refine pure_ (i := 17) (N := some 50) (v := ?_) (a' := ?_) #[true, false, true, true, true, false, true, false, false, true, false, false, true, true, true, false, true, true, false, false, false, false, false] rfl rfl (by kernel_rfl) (fun _ _ _ h => h) (Or.inl ⟨by rfl, ?_⟩) ?_ ?_
  rotate_left
  · intro w'
    go_simp
    with_reducible rfl
  rotate_left
  · simp only [Act.put, List.setIfInBounds_toArray, List.set_cons_zero, List.set_cons_succ, i64_w, i32_w]
    rfl
  refine take_ (i := 5) (N := some 38) (v := ?_) (a' := ?_) #[true, false, true, true, true, true, true, false, false, true, false, false, true, true, true, false, true, true, false, false, false, false, false] rfl rfl (by kernel_rfl) (fun _ _ _ h => h) (Or.inl ⟨by rfl, ?_⟩) hHeld ?_ ?_
  rotate_left
  · intro w' s0
    go_simp
    with_reducible rfl
  rotate_left
  · simp only [Act.put, List.setIfInBounds_toArray, List.set_cons_zero, List.set_cons_succ, i64_w, i32_w]
    rfl
  refine pure_ (i := 7) (N := some 40) (v := ?_) (a' := ?_) #[true, false, true, true, true, true, true, true, false, true, false, false, true, true, true, false, true, true, false, false, false, false, false] rfl rfl (by kernel_rfl) (fun _ _ _ h => h) (Or.inl ⟨by rfl, ?_⟩) ?_ ?_
  rotate_left
  · intro w'
    go_simp
    with_reducible rfl
  rotate_left
  · simp only [Act.put, List.setIfInBounds_toArray, List.set_cons_zero, List.set_cons_succ, i64_w, i32_w]
    rfl
  refine take_ (i := 15) (N := some 48) (v := ?_) (a' := ?_) #[true, false, true, true, true, true, true, true, false, true, false, false, true, true, true, true, true, true, false, false, false, false, false] rfl rfl (by kernel_rfl) (fun _ _ _ h => h) (Or.inl ⟨by rfl, ?_⟩) hHeld ?_ ?_
  rotate_left
  · intro w' s0
    go_simp
    with_reducible rfl
  rotate_left
  · simp only [Act.put, List.setIfInBounds_toArray, List.set_cons_zero, List.set_cons_succ, i64_w, i32_w]
    rfl
  refine pure_ (i := 18) (N := some 51) (v := ?_) (a' := ?_) #[true, false, true, true, true, true, true, true, false, true, false, false, true, true, true, true, true, true, true, false, false, false, false] rfl rfl (by kernel_rfl) (fun _ _ _ h => h) (Or.inl ⟨by rfl, ?_⟩) ?_ ?_
  rotate_left
  · intro w'
    go_simp
    with_reducible rfl
  rotate_left
  · simp only [Act.put, List.setIfInBounds_toArray, List.set_cons_zero, List.set_cons_succ, i64_w, i32_w]
    rfl
  refine one_ (i := 1) (N := some 34) #[true, true, true, true, true, true, true, true, false, true, false, false, true, true, true, true, true, true, true, false, false, false, false] rfl rfl (by kernel_rfl) (by decide) (fun K hK => ?_)
  refine value_ (w1 := ?_) (v := ?_) (by rfl) rfl ?_ ?_
  rotate_left 2
  · go_simp
    constructor
    · rfl
    · rfl
  have hb3 : Below w2.heap.size w2 ((w2.alloc (.cells #[] 5)).drew) := below_drew (below_alloc (Below.refl _ _) _)
  refine hK.out _ _ ((pw_cell_below (below_alloc (Below.refl _ _) _) hHeld)) (fun hHeld => ?_)
  clear hK K
  refine norm_ (a' := ?_) ?_ ?_
  rotate_left
  · show Act.put _ (some 34) _ = _
    simp only [Act.put, List.setIfInBounds_toArray, List.set_cons_zero, List.set_cons_succ, i64_w, i32_w]
    rfl
  refine one_ (i := 8) (N := some 41) #[true, true, true, true, true, true, true, true, true, true, false, false, true, true, true, true, true, true, true, false, false, false, false] rfl rfl (by kernel_rfl) (by decide) (fun K hK => ?_)
  have ho3 : OwnO (Value.int .u8) ((w2.alloc (.cells #[] 5)).drew) w2.heap.size 5 (.slice (some ⟨w2.heap.size, 0, none⟩) 0 0) [] := (own_empty w2 w2.heap.size (Nat.le_refl _)).below (below_drew (Below.refl _ _))
  obtain ⟨A4, c4, w4, hr4, ho4, hk4⟩ := app_row ho3 (HPRE.out _ (HI2.out.below hb3).b) rfl HLT.out hb3.size hl1
  have hb4 := Kp.from hb3 hk4 (fun b hb => ho3.ge hb)
  refine app_step (by rfl) (.tmp 34) (.tmp 40) rfl rfl rfl hr4 ?_
  refine hK.out _ _ ((blk_cell (HI2.out.below hb4).blk 5)) (fun hHeld => ?_)
  clear hK K
  refine norm_ (a' := ?_) ?_ ?_
  rotate_left
  · show Act.put _ (some 41) _ = _
    simp only [Act.put, List.setIfInBounds_toArray, List.set_cons_zero, List.set_cons_succ, i64_w, i32_w]
    rfl
  refine one_ (i := 10) (N := some 43) #[true, true, true, true, true, true, true, true, true, true, true, false, true, true, true, true, true, true, true, false, false, false, false] rfl rfl (by kernel_rfl) (by decide) (fun K hK => ?_)
  refine goes_ Try.func113 (by kernel_rfl) rfl #[.int .u64 x, .int .i64 8] (by rfl) rfl rfl (by (try simp only [List.map_toArray, List.map_cons, List.map_nil]); first | done | rfl) ?_
  with_reducible refine (CB.out _).mono ?_
  rintro e w5 ⟨v5, rfl, hR5, hb5⟩
  refine ⟨_, rfl, ?_⟩
  refine hK.out _ _ ((pw_cell_below hb5 hHeld)) (fun hHeld => ?_)
  clear hK K
  refine norm_ (a' := ?_) ?_ ?_
  rotate_left
  · show Act.put _ (some 43) _ = _
    simp only [Act.put, List.setIfInBounds_toArray, List.set_cons_zero, List.set_cons_succ, i64_w, i32_w]
    rfl
  refine one_ (i := 11) (N := some 44) #[true, true, true, true, true, true, true, true, true, true, true, true, true, true, true, true, true, true, true, false, false, false, false] rfl rfl (by kernel_rfl) (by decide) (fun K hK => ?_)
  have hb6 := below_step hb4 hb5
  obtain ⟨A6, c6, w6, hr6, ho6, hk6⟩ := app_row (ho4.below hb5) (Own.rd (Own.of_R hR5)) (by rw [List.length_append, HLT.out]; rfl) (show (leB x (leW 8)).length = 8 by rw [leW8, leB_len]) hb6.size hl2
  have hb7 := Kp.from hb6 hk6 (fun b hb => ho4.ge hb)
  refine app_step (by rfl) (.tmp 41) (.tmp 43) rfl rfl rfl hr6 ?_
  refine hK.out _ _ ((blk_cell (HI2.out.below hb7).blk 5)) (fun hHeld => ?_)
  clear hK K
  refine norm_ (a' := ?_) ?_ ?_
  rotate_left
  · show Act.put _ (some 44) _ = _
    simp only [Act.put, List.setIfInBounds_toArray, List.set_cons_zero, List.set_cons_succ, i64_w, i32_w]
    rfl
  refine one_ (i := 19) (N := some 52) #[true, true, true, true, true, true, true, true, true, true, true, true, true, true, true, true, true, true, true, true, false, false, false] rfl rfl (by kernel_rfl) (by decide) (fun K hK => ?_)
  obtain ⟨A8, c8, w8, hr8, ho8, hk8⟩ := app_row ho6 (HRD.out _ (HI2.out.below hb7).b) (by rw [List.length_append, List.length_append, HLT.out, leW8, leB_len]; rfl) HLD.out hb7.size hl3
  have hb8 := Kp.from hb7 hk8 (fun b hb => ho6.ge hb)
  refine app_step (by rfl) (.tmp 44) (.tmp 51) rfl rfl rfl hr8 ?_
  refine hK.out _ _ ((blk_cell (HI2.out.below hb8).blk 5)) (fun hHeld => ?_)
  clear hK K
  refine norm_ (a' := ?_) ?_ ?_
  rotate_left
  · show Act.put _ (some 52) _ = _
    simp only [Act.put, List.setIfInBounds_toArray, List.set_cons_zero, List.set_cons_succ, i64_w, i32_w]
    rfl
  refine pure_ (i := 20) (N := some 53) (v := ?_) (a' := ?_) #[true, true, true, true, true, true, true, true, true, true, true, true, true, true, true, true, true, true, true, true, true, false, false] rfl rfl (by kernel_rfl) (fun _ _ _ h => h) (Or.inl ⟨by rfl, ?_⟩) ?_ ?_
  rotate_left
  · intro w'
    go_simp
    with_reducible rfl
  rotate_left
  · simp only [Act.put, List.setIfInBounds_toArray, List.set_cons_zero, List.set_cons_succ, i64_w, i32_w]
    rfl
  refine pure_ (i := 21) (N := some 54) (v := ?_) (a' := ?_) #[true, true, true, true, true, true, true, true, true, true, true, true, true, true, true, true, true, true, true, true, true, true, false] rfl rfl (by kernel_rfl) (fun _ _ _ h => h) (Or.inl ⟨by rfl, ?_⟩) ?_ ?_
  rotate_left
  · intro w'
    go_simp
    with_reducible rfl
  rotate_left
  · simp only [Act.put, List.setIfInBounds_toArray, List.set_cons_zero, List.set_cons_succ, i64_w, i32_w]
    rfl
  refine last_ (i := 22) (N := none) #[true, true, true, true, true, true, true, true, true, true, true, true, true, true, true, true, true, true, true, true, true, true, true] rfl rfl (by kernel_rfl) (by decide) (fun K hK => ?_)
  have s5 := blk_cell (HI2.out.below hb8).blk 5
  have f5 := blk_frozen (HI2.out.below hb8).blk 5
  refine skip_ (w1 := ?_) (by rfl) rfl ?_ ?_
  rotate_left
  · go_simp
    rfl
  refine hK.out _ _ ?_
  clear hK K
  refine done_ (by kernel_rfl) ?_
  clear had had2
  have HB8 := Aside0.mk (below_step HB.out hb8)
  have HI8 := Aside0.mk (HI.out.below HB8.out)
  rw [HSP.out] at ho8
  rw [hnm] at ho8
  first | rw [show j + 8 + m = n by omega] | rw [hnm]
  have HO8 := Aside0.mk (ho8.ge_ (show base ≤ w2.heap.size from Nat.le_trans HI.out.bs HB.out.size))
  have HGE := Aside0.mk (fun k hk => Nat.le_trans HB.out.size (ho8.ge (k := k) hk))
  clear hr4 hr6 hr8 ho3 ho4 ho6 ho8 hk4 hk6 hk8 hb3 hb4 hb5 hb6 hb7 hb8 hR5 s5 f5 hsl hsl2 HRD HPRE HLT HLD HSP hl1 hl2 hl3 hnm r0 r1 r2 r3 r4 r5 r6 r7 r8
  obtain ⟨w9, hw9⟩ : ∃ W, w8.setCell ⟨g, 5, none⟩ (.slice A8 n c8) = W := ⟨_, rfl⟩
  have far : ∀ k, k ≠ g → w9.heap[k]? = w8.heap[k]? := fun k h => by rw [← hw9]; exact Below.heap_setCell _ ⟨g, 5, none⟩ _ k h
  have hz9 : w9.heap[g]? = some (.cells (rmA H (.slice A8 n c8) (.slice A2 q c2) lim vw) 85 (0, 0)) := by rw [← hw9]; simpa [rmA] using blk_set HI8.out.blk 5 (.slice A8 n c8)
  have HO9 := Aside0.mk (HO8.out.move (fun k hk => far k (fun e => HO8.out.ne HI8.out.blk (by decide) (by rw [hk, e]))))
  have HA9 := Aside0.mk (HI8.out.a.move (fun k hk => far k (fun e => HI8.out.a_ne (by rw [hk, e]))))
  have HW9 := Aside0.mk (HI8.out.w.move (fun k hk => far k (fun e => HI8.out.w_ne (by rw [hk, e]))))
  have HK9 := Aside0.mk (show Kp F w w9 by rw [← hw9]; exact (Kp.of_below HB8.out F).trans (Kp.set w8 ⟨g, 5, none⟩ _) (fun k hk => .inl (by rw [hk]; exact HI.out.fg)))
  have HS9 := Aside0.mk (show w9.heap.size = w8.heap.size by rw [← hw9]; simp)
  have HZ9 := Aside0.mk hz9
  rw [hw9]
  clear hw9 far hz9
  have r0 : (w9).cell? ⟨g, 0, none⟩ = some (.int .u64 H.id) := blk_cell HZ9.out 0
  have r1 : (w9).cell? ⟨g, 1, none⟩ = some (.int .u64 H.key) := blk_cell HZ9.out 1
  have r2 : (w9).cell? ⟨g, 2, none⟩ = some (.int .i64 H.data) := blk_cell HZ9.out 2
  have r3 : (w9).cell? ⟨g, 3, none⟩ = some (.int .i64 H.fields) := blk_cell HZ9.out 3
  have r4 : (w9).cell? ⟨g, 4, none⟩ = some (.int .u64 H.made) := blk_cell HZ9.out 4
  have r5 : (w9).cell? ⟨g, 5, none⟩ = some ((.slice A8 n c8)) := blk_cell HZ9.out 5
  have r6 : (w9).cell? ⟨g, 6, none⟩ = some ((.slice A2 q c2)) := blk_cell HZ9.out 6
  have r7 : (w9).cell? ⟨g, 7, none⟩ = some (.int .i64 lim) := blk_cell HZ9.out 7
  have r8 : (w9).cell? ⟨g, 8, none⟩ = some (vw) := blk_cell HZ9.out 8
  have f0 := blk_frozen HZ9.out 0
  have f1 := blk_frozen HZ9.out 1
  have f2 := blk_frozen HZ9.out 2
  have f3 := blk_frozen HZ9.out 3
  have f4 := blk_frozen HZ9.out 4
  have f5 := blk_frozen HZ9.out 5
  have f6 := blk_frozen HZ9.out 6
  have f7 := blk_frozen HZ9.out 7
  have f8 := blk_frozen HZ9.out 8

  by_cases c1 : (j : Int) < (q : Int)
  · have hws := HWS.out
    rw [if_pos c1] at hws
    subst hws
    obtain ⟨A4, c4, w10, hr4, ho4, hk4, hat⟩ := app_int (j : Int) HW9.out HWN.out (Nat.le_trans HI.out.bs HK9.out.size) hwl
    have HR4 := Aside0.mk hr4
    have HW4 := Aside0.mk ho4
    have HAT := Aside0.mk hat
    have hgw : ¬ (vw.ownBlock = some g) := HI.out.w_ne
    have HZ4 := Aside0.mk (hk4.blk HZ9.out hgw)
    have HO4 := Aside0.mk (HO9.out.kp hk4 (fun k hk => HO9.out.apart HW9.out (by decide) k hk))
    have HA4 := Aside0.mk (HA9.out.kp hk4 (fun k hk => HA9.out.apart HW9.out (by decide) k hk))
    have HK4 := Aside0.mk (HK9.out.trans hk4 (fun k hk => .inl (HI.out.fw k hk)))
    have HS4 := Aside0.mk hk4.size
    clear hr4 ho4 hk4 hat
    have s0 : (w10).cell? ⟨g, 0, none⟩ = some (.int .u64 H.id) := blk_cell HZ4.out 0
    have s1 : (w10).cell? ⟨g, 1, none⟩ = some (.int .u64 H.key) := blk_cell HZ4.out 1
    have s2 : (w10).cell? ⟨g, 2, none⟩ = some (.int .i64 H.data) := blk_cell HZ4.out 2
    have s3 : (w10).cell? ⟨g, 3, none⟩ = some (.int .i64 H.fields) := blk_cell HZ4.out 3
    have s4 : (w10).cell? ⟨g, 4, none⟩ = some (.int .u64 H.made) := blk_cell HZ4.out 4
    have s5 : (w10).cell? ⟨g, 5, none⟩ = some ((.slice A8 n c8)) := blk_cell HZ4.out 5
    have s6 : (w10).cell? ⟨g, 6, none⟩ = some ((.slice A2 q c2)) := blk_cell HZ4.out 6
    have s7 : (w10).cell? ⟨g, 7, none⟩ = some (.int .i64 lim) := blk_cell HZ4.out 7
    have s8 : (w10).cell? ⟨g, 8, none⟩ = some (vw) := blk_cell HZ4.out 8
    have h0 := blk_frozen HZ4.out 0
    have h1 := blk_frozen HZ4.out 1
    have h2 := blk_frozen HZ4.out 2
    have h3 := blk_frozen HZ4.out 3
    have h4 := blk_frozen HZ4.out 4
    have h5 := blk_frozen HZ4.out 5
    have h6 := blk_frozen HZ4.out 6
    have h7 := blk_frozen HZ4.out 7
    have h8 := blk_frozen HZ4.out 8

    go_wp2_with (first | ((with_reducible refine gate_builtin (b := .append) (xs := #[.tmp 66, .tmp 68]) rfl ?_); at_builtin; refine app_list rfl (.tmp 66) (.tmp 68) rfl rfl rfl HR4.out ?_))
    go_ret
    refine ⟨rfl, RmS.of (vb' := .slice A8 n c8) (va' := .slice A2 q c2) (vw' := .slice A4 (wl + 1) c4) HI.out (HK4.out.trans (Kp.set w10 ⟨g, 8, none⟩ (.slice A4 (wl + 1) c4)) (fun k hk => .inl (by rw [hk]; exact HI.out.fg))) ?_ ?_ ?_ ?_ ?_ (fun k hk => .inl (HI.out.fa k hk)) ?_⟩
    · simpa [rmA] using blk_set HZ4.out 8 (.slice A4 (wl + 1) c4)
    · exact HO4.out.move (fun k hk => Below.heap_setCell _ ⟨g, 8, none⟩ _ k (fun e => HO4.out.ne HZ4.out (by decide) (by rw [hk, e])))
    · exact HA4.out.move (fun k hk => Below.heap_setCell _ ⟨g, 8, none⟩ _ k (fun e => HI.out.a_ne (by rw [hk, e])))
    · exact HW4.out.move (fun k hk => Below.heap_setCell _ ⟨g, 8, none⟩ _ k (fun e => HW4.out.ne HZ4.out (by decide) (by rw [hk, e])))
    · intro k hk
      refine .inr ⟨HGE.out k hk, ?_⟩
      have := HO4.out.lt hk
      simpa using this
    · intro k hk
      have hlt := HW4.out.lt hk
      rcases HAT.out with h | ⟨b', h, hb'⟩
      · exact .inl (HI.out.fw k (by rw [← h]; exact hk))
      · rw [h] at hk; injection hk with hk
        subst hk
        exact .inr ⟨Nat.le_trans HK9.out.size hb', by simpa using hlt⟩
  · have hws := HWS.out
    rw [if_neg c1] at hws
    subst hws
    go_wp2_with fail
    go_ret
    exact ⟨rfl, RmS.of (vb' := .slice A8 n c8) (va' := .slice A2 q c2) (vw' := vw) HI.out HK9.out HZ9.out HO9.out HA9.out HW9.out (fun k hk => .inr ⟨HGE.out k hk, HO9.out.lt hk⟩) (fun k hk => .inl (HI.out.fa k hk)) (fun k hk => .inl (HI.out.fw k hk))⟩

set_option maxHeartbeats 8000000 in
set_option maxRecDepth 100000 in
theorem RPut_file (g base : Nat) (H : Hd) (B Was : List Int) (lim : Int) (ws : List Int) (F : Nat → Prop) (vb va vw : Value) (w : World) (hI : Rm w g base H B Was lim ws F vb va vw) (kd : Int) (ws_ raw it : List Int) (A1 A2 A3 : Option Addr) (c1 c2 c3 : Nat) (h1 : Rd w .u64 (.slice A1 ws_.length c1) ws_) (h2 : Rd w .u8 (.slice A2 raw.length c2) raw) (h3 : Rd w .u64 (.slice A3 it.length c3) it) (k1 : isW ws_) (k2 : isB raw) (k3 : isW it) (hr : oR kd ws_.length raw.length it.length = true) (n N : Nat) (hn : B.length = n) (hN : (objZ kd ws_ raw it).length = N) (hl : n ≤ 100000) (hlim : 0 ≤ lim ∧ lim ≤ 1048576) (hfit : lim - n < (N : Int)) : Calls Try.prog 122 #[.pointer (some ⟨g, 0, none⟩), .agg #[.int .i64 kd, .slice A1 ws_.length c1, .slice A2 raw.length c2, .slice A3 it.length c3]] w fun e w' => e = .returned (.tuple #[.int .i64 0, .int .i64 21]) ∧ Below w.heap.size w w' := by
  obtain ⟨q1, q2, q3, n1, n2, n3⟩ := oR_of hr
  have hNb : N ≤ 20000 := by
    have := objB_len kd ws_ raw it
    have h2 : padN ((objB kd ws_ raw it).length : Int) 8 ≤ 8 := by unfold padN; split <;> omega
    rw [← hN, objZ, List.length_append, List.length_replicate]; omega
  have hN0 : 0 < N := by
    have := objB_len kd ws_ raw it
    rw [← hN, objZ, List.length_append]; omega
  have CE := Aside0.mk (fun (w1 : World) (hb : Below w.heap.size w w1) => ref_oEncode_yes kd ws_ raw it A1 A2 A3 c1 c2 c3 w1 (h1.below hb) (h2.below hb) (h3.below hb) k1 k2 k3 hr)
  have HN := Aside0.mk hn
  have HNN := Aside0.mk hN
  obtain ⟨A0, c0, ev, hn0, _⟩ := hI.b.sl hn
  subst ev
  have HI := Aside0.mk hI
  have hs0 : n + N ≤ 1000000 := by omega
  have hgt : ((n : Int) + (N : Int) > lim) = True := by simp; omega
  have hgt2 : decide (lim < (n : Int) + (N : Int)) = true := by exact decide_eq_true (by omega)
  have HAD := Aside0.mk (show IntKind.i64.wrap ((n : Int) + (N : Int)) = (n : Int) + (N : Int) ∧ wrap64 ((n : Int) + (N : Int)) = (n : Int) + (N : Int) from ⟨by rw [IntKind.wrap_i64]; omega, by simp only [wrap64]; omega⟩)
  have hN0' : ((N : Int) == 0) = false := by rw [beq_eq_false_iff_ne]; omega
  clear h1 h2 h3 k1 k2 k3 hr hn hN hI
  go_enter Try.func122, Try.ntmps122
  go_wp2_with fail
  refine (CE.out _ (below_alloc (Below.refl _ _) _)).mono ?_
  rintro e w1 ⟨v1, rfl, ho1, hb⟩
  have HR1 := Aside0.mk (Own.rd ho1)
  have HB := Aside0.mk (below_step (below_alloc (Below.refl w.heap.size w) _) hb)
  have HI1 := Aside0.mk (HI.out.below HB.out)
  obtain ⟨Ax, cx, ev, _, _⟩ := (OwnO.of_own ho1).sl HNN.out
  subst ev
  clear hb ho1
  have r0 : (w1).cell? ⟨g, 0, none⟩ = some (.int .u64 H.id) := blk_cell HI1.out.blk 0
  have r1 : (w1).cell? ⟨g, 1, none⟩ = some (.int .u64 H.key) := blk_cell HI1.out.blk 1
  have r2 : (w1).cell? ⟨g, 2, none⟩ = some (.int .i64 H.data) := blk_cell HI1.out.blk 2
  have r3 : (w1).cell? ⟨g, 3, none⟩ = some (.int .i64 H.fields) := blk_cell HI1.out.blk 3
  have r4 : (w1).cell? ⟨g, 4, none⟩ = some (.int .u64 H.made) := blk_cell HI1.out.blk 4
  have r5 : (w1).cell? ⟨g, 5, none⟩ = some ((.slice A0 n c0)) := blk_cell HI1.out.blk 5
  have r6 : (w1).cell? ⟨g, 6, none⟩ = some (va) := blk_cell HI1.out.blk 6
  have r7 : (w1).cell? ⟨g, 7, none⟩ = some (.int .i64 lim) := blk_cell HI1.out.blk 7
  have r8 : (w1).cell? ⟨g, 8, none⟩ = some (vw) := blk_cell HI1.out.blk 8
  go_upto_region 4 with fail
  obtain ⟨had, had2⟩ := HAD.out
  refine start_ (n := 13) (S := fun w' => w'.cell? ⟨g, 5, none⟩ = some ((.slice A0 n c0)) ∧ w'.cell? ⟨g, 7, none⟩ = some (.int .i64 lim)) (ds := []) #[false, false, false, false, false, false, false, false, false, false, false, false, false] (by kernel_rfl) rfl rfl ⟨r5, r7⟩ (fun hHeld => ?_)
  refine pure_ (i := 0) (N := some 13) (v := ?_) (a' := ?_) #[true, false, false, false, false, false, false, false, false, false, false, false, false] rfl rfl (by kernel_rfl) (fun _ _ _ h => h) (Or.inl ⟨by rfl, ?_⟩) ?_ ?_
  rotate_left
  · intro w'
    go_simp
    with_reducible rfl
  rotate_left
  · simp only [Act.put, List.setIfInBounds_toArray, List.set_cons_zero, List.set_cons_succ, i64_w, i32_w]
    rfl
  refine pure_ (i := 1) (N := some 14) (v := ?_) (a' := ?_) #[true, true, false, false, false, false, false, false, false, false, false, false, false] rfl rfl (by kernel_rfl) (fun _ _ _ h => h) (Or.inl ⟨by rfl, ?_⟩) ?_ ?_
  rotate_left
  · intro w'
    go_simp
    with_reducible rfl
  rotate_left
  · simp only [Act.put, List.setIfInBounds_toArray, List.set_cons_zero, List.set_cons_succ, i64_w, i32_w]
    rfl
  refine pure_ (i := 2) (N := some 15) (v := ?_) (a' := ?_) #[true, true, true, false, false, false, false, false, false, false, false, false, false] rfl rfl (by kernel_rfl) (fun _ _ _ h => h) (Or.inl ⟨by rfl, ?_⟩) ?_ ?_
  rotate_left
  · intro w'
    go_simp
    with_reducible rfl
  rotate_left
  · simp only [Act.put, List.setIfInBounds_toArray, List.set_cons_zero, List.set_cons_succ, i64_w, i32_w]
    rfl
  refine pure_ (i := 5) (N := some 18) (v := ?_) (a' := ?_) #[true, true, true, false, false, true, false, false, false, false, false, false, false] rfl rfl (by kernel_rfl) (fun _ _ _ h => h) (Or.inl ⟨by rfl, ?_⟩) ?_ ?_
  rotate_left
  · intro w'
    go_simp
    with_reducible rfl
  rotate_left
  · simp only [Act.put, List.setIfInBounds_toArray, List.set_cons_zero, List.set_cons_succ, i64_w, i32_w]
    rfl
  refine pure_ (i := 6) (N := some 19) (v := ?_) (a' := ?_) #[true, true, true, false, false, true, true, false, false, false, false, false, false] rfl rfl (by kernel_rfl) (fun _ _ _ h => h) (Or.inl ⟨by rfl, ?_⟩) ?_ ?_
  rotate_left
  · intro w'
    go_simp
    with_reducible rfl
  rotate_left
  · simp only [Act.put, List.setIfInBounds_toArray, List.set_cons_zero, List.set_cons_succ, i64_w, i32_w]
    rfl
  refine pure_ (i := 8) (N := some 21) (v := ?_) (a' := ?_) #[true, true, true, false, false, true, true, false, true, false, false, false, false] rfl rfl (by kernel_rfl) (fun _ _ _ h => h) (Or.inl ⟨by rfl, ?_⟩) ?_ ?_
  rotate_left
  · intro w'
    go_simp
    with_reducible rfl
  rotate_left
  · simp only [Act.put, List.setIfInBounds_toArray, List.set_cons_zero, List.set_cons_succ, i64_w, i32_w]
    rfl
  refine pure_ (i := 9) (N := some 22) (v := ?_) (a' := ?_) #[true, true, true, false, false, true, true, false, true, true, false, false, false] rfl rfl (by kernel_rfl) (fun _ _ _ h => h) (Or.inl ⟨by rfl, ?_⟩) ?_ ?_
  rotate_left
  · intro w'
    go_simp
    with_reducible rfl
  rotate_left
  · simp only [Act.put, List.setIfInBounds_toArray, List.set_cons_zero, List.set_cons_succ, i64_w, i32_w]
    rfl
  refine pure_ (i := 10) (N := some 23) (v := ?_) (a' := ?_) #[true, true, true, false, false, true, true, false, true, true, true, false, false] rfl rfl (by kernel_rfl) (fun _ _ _ h => h) (Or.inl ⟨by rfl, ?_⟩) ?_ ?_
  rotate_left
  · intro w'
    go_simp
    with_reducible rfl
  rotate_left
  · simp only [Act.put, List.setIfInBounds_toArray, List.set_cons_zero, List.set_cons_succ, i64_w, i32_w]
    rfl
  refine take_ (i := 3) (N := some 16) (v := ?_) (a' := ?_) #[true, true, true, true, false, true, true, false, true, true, true, false, false] rfl rfl (by kernel_rfl) (fun _ _ _ h => h) (Or.inl ⟨by rfl, ?_⟩) hHeld ?_ ?_
  rotate_left
  · rintro w' ⟨s0, s1⟩
    go_simp
    with_reducible rfl
  rotate_left
  · simp only [Act.put, List.setIfInBounds_toArray, List.set_cons_zero, List.set_cons_succ, i64_w, i32_w]
    rfl
  refine pure_ (i := 4) (N := some 17) (v := ?_) (a' := ?_) #[true, true, true, true, true, true, true, false, true, true, true, false, false] rfl rfl (by kernel_rfl) (fun _ _ _ h => h) (Or.inl ⟨by rfl, ?_⟩) ?_ ?_
  rotate_left
  · intro w'
    go_simp
    with_reducible rfl
  rotate_left
  · simp only [Act.put, List.setIfInBounds_toArray, List.set_cons_zero, List.set_cons_succ, i64_w, i32_w]
    rfl
  refine pure_ (i := 7) (N := some 20) (v := ?_) (a' := ?_) #[true, true, true, true, true, true, true, true, true, true, true, false, false] rfl rfl (by kernel_rfl) (fun _ _ _ h => h) (Or.inl ⟨by rfl, ?_⟩) ?_ ?_
  rotate_left
  · intro w'
    go_simp
    with_reducible rfl
  rotate_left
  · simp only [Act.put, List.setIfInBounds_toArray, List.set_cons_zero, List.set_cons_succ, i64_w, i32_w]
    rfl
  refine take_ (i := 11) (N := some 24) (v := ?_) (a' := ?_) #[true, true, true, true, true, true, true, true, true, true, true, true, false] rfl rfl (by kernel_rfl) (fun _ _ _ h => h) (Or.inl ⟨by rfl, ?_⟩) hHeld ?_ ?_
  rotate_left
  · rintro w' ⟨s0, s1⟩
    go_simp
    with_reducible rfl
  rotate_left
  · simp only [Act.put, List.setIfInBounds_toArray, List.set_cons_zero, List.set_cons_succ, i64_w, i32_w]
    rfl
  refine pure_ (i := 12) (N := some 25) (v := ?_) (a' := ?_) #[true, true, true, true, true, true, true, true, true, true, true, true, true] rfl rfl (by kernel_rfl) (fun _ _ _ h => h) (Or.inl ⟨by rfl, ?_⟩) ?_ ?_
  rotate_left
  · intro w'
    go_simp
    with_reducible rfl
  rotate_left
  · simp only [Act.put, List.setIfInBounds_toArray, List.set_cons_zero, List.set_cons_succ, i64_w, i32_w]
    rfl
  refine done_ (by kernel_rfl) ?_
  clear had had2 r0 r1 r2 r3 r4 r5 r6 r7 r8
  replace HB := Aside0.mk (below_drew HB.out)
  replace HI1 := Aside0.mk (HI1.out.below (below_drew (Below.refl _ _)))
  replace HR1 := Aside0.mk (HR1.out.below (below_drew (Below.refl _ _)))
  obtain ⟨w2, hw2⟩ : ∃ W, w1.drew = W := ⟨_, rfl⟩
  rw [hw2] at HB HI1 HR1 ⊢
  clear hw2
  go_wp2_with fail
  go_ret2
  exact ⟨rfl, HB.out⟩
set_option maxHeartbeats 8000000 in
set_option maxRecDepth 100000 in
theorem RPut_yes (g base : Nat) (H : Hd) (B Was : List Int) (lim : Int) (ws : List Int) (F : Nat → Prop) (vb va vw : Value) (w : World) (hI : Rm w g base H B Was lim ws F vb va vw) (kd : Int) (ws_ raw it : List Int) (A1 A2 A3 : Option Addr) (c1 c2 c3 : Nat) (h1 : Rd w .u64 (.slice A1 ws_.length c1) ws_) (h2 : Rd w .u8 (.slice A2 raw.length c2) raw) (h3 : Rd w .u64 (.slice A3 it.length c3) it) (k1 : isW ws_) (k2 : isB raw) (k3 : isW it) (hr : oR kd ws_.length raw.length it.length = true) (n N : Nat) (hn : B.length = n) (hN : (objZ kd ws_ raw it).length = N) (hl : n ≤ 100000) (hlim : 0 ≤ lim ∧ lim ≤ 1048576) (hfit : (N : Int) ≤ lim - n) : Calls Try.prog 122 #[.pointer (some ⟨g, 0, none⟩), .agg #[.int .i64 kd, .slice A1 ws_.length c1, .slice A2 raw.length c2, .slice A3 it.length c3]] w fun e w' => e = .returned (.tuple #[.int .i64 (n : Int), .int .i64 0]) ∧ RmS w w' g base H (B ++ objZ kd ws_ raw it) Was lim ws F := by
  obtain ⟨q1, q2, q3, n1, n2, n3⟩ := oR_of hr
  have hNb : N ≤ 20000 := by
    have := objB_len kd ws_ raw it
    have h2 : padN ((objB kd ws_ raw it).length : Int) 8 ≤ 8 := by unfold padN; split <;> omega
    rw [← hN, objZ, List.length_append, List.length_replicate]; omega
  have hN0 : 0 < N := by
    have := objB_len kd ws_ raw it
    rw [← hN, objZ, List.length_append]; omega
  have CE := Aside0.mk (fun (w1 : World) (hb : Below w.heap.size w w1) => ref_oEncode_yes kd ws_ raw it A1 A2 A3 c1 c2 c3 w1 (h1.below hb) (h2.below hb) (h3.below hb) k1 k2 k3 hr)
  have HN := Aside0.mk hn
  have HNN := Aside0.mk hN
  obtain ⟨A0, c0, ev, hn0, _⟩ := hI.b.sl hn
  subst ev
  have HI := Aside0.mk hI
  have hs0 : n + N ≤ 1000000 := by omega
  have hgt : ((n : Int) + (N : Int) > lim) = False := by simp; omega
  have hgt2 : decide (lim < (n : Int) + (N : Int)) = false := by rw [decide_eq_false]; omega
  have HAD := Aside0.mk (show IntKind.i64.wrap ((n : Int) + (N : Int)) = (n : Int) + (N : Int) ∧ wrap64 ((n : Int) + (N : Int)) = (n : Int) + (N : Int) from ⟨by rw [IntKind.wrap_i64]; omega, by simp only [wrap64]; omega⟩)
  have hN0' : ((N : Int) == 0) = false := by rw [beq_eq_false_iff_ne]; omega
  clear h1 h2 h3 k1 k2 k3 hr hn hN hI
  go_enter Try.func122, Try.ntmps122
  go_wp2_with fail
  refine (CE.out _ (below_alloc (Below.refl _ _) _)).mono ?_
  rintro e w1 ⟨v1, rfl, ho1, hb⟩
  have HR1 := Aside0.mk (Own.rd ho1)
  have HB := Aside0.mk (below_step (below_alloc (Below.refl w.heap.size w) _) hb)
  have HI1 := Aside0.mk (HI.out.below HB.out)
  obtain ⟨Ax, cx, ev, _, _⟩ := (OwnO.of_own ho1).sl HNN.out
  subst ev
  clear hb ho1
  have r0 : (w1).cell? ⟨g, 0, none⟩ = some (.int .u64 H.id) := blk_cell HI1.out.blk 0
  have r1 : (w1).cell? ⟨g, 1, none⟩ = some (.int .u64 H.key) := blk_cell HI1.out.blk 1
  have r2 : (w1).cell? ⟨g, 2, none⟩ = some (.int .i64 H.data) := blk_cell HI1.out.blk 2
  have r3 : (w1).cell? ⟨g, 3, none⟩ = some (.int .i64 H.fields) := blk_cell HI1.out.blk 3
  have r4 : (w1).cell? ⟨g, 4, none⟩ = some (.int .u64 H.made) := blk_cell HI1.out.blk 4
  have r5 : (w1).cell? ⟨g, 5, none⟩ = some ((.slice A0 n c0)) := blk_cell HI1.out.blk 5
  have r6 : (w1).cell? ⟨g, 6, none⟩ = some (va) := blk_cell HI1.out.blk 6
  have r7 : (w1).cell? ⟨g, 7, none⟩ = some (.int .i64 lim) := blk_cell HI1.out.blk 7
  have r8 : (w1).cell? ⟨g, 8, none⟩ = some (vw) := blk_cell HI1.out.blk 8
  go_upto_region 4 with fail
  obtain ⟨had, had2⟩ := HAD.out
  refine start_ (n := 13) (S := fun w' => w'.cell? ⟨g, 5, none⟩ = some ((.slice A0 n c0)) ∧ w'.cell? ⟨g, 7, none⟩ = some (.int .i64 lim)) (ds := []) #[false, false, false, false, false, false, false, false, false, false, false, false, false] (by kernel_rfl) rfl rfl ⟨r5, r7⟩ (fun hHeld => ?_)
  refine pure_ (i := 0) (N := some 13) (v := ?_) (a' := ?_) #[true, false, false, false, false, false, false, false, false, false, false, false, false] rfl rfl (by kernel_rfl) (fun _ _ _ h => h) (Or.inl ⟨by rfl, ?_⟩) ?_ ?_
  rotate_left
  · intro w'
    go_simp
    with_reducible rfl
  rotate_left
  · simp only [Act.put, List.setIfInBounds_toArray, List.set_cons_zero, List.set_cons_succ, i64_w, i32_w]
    rfl
  refine pure_ (i := 1) (N := some 14) (v := ?_) (a' := ?_) #[true, true, false, false, false, false, false, false, false, false, false, false, false] rfl rfl (by kernel_rfl) (fun _ _ _ h => h) (Or.inl ⟨by rfl, ?_⟩) ?_ ?_
  rotate_left
  · intro w'
    go_simp
    with_reducible rfl
  rotate_left
  · simp only [Act.put, List.setIfInBounds_toArray, List.set_cons_zero, List.set_cons_succ, i64_w, i32_w]
    rfl
  refine pure_ (i := 2) (N := some 15) (v := ?_) (a' := ?_) #[true, true, true, false, false, false, false, false, false, false, false, false, false] rfl rfl (by kernel_rfl) (fun _ _ _ h => h) (Or.inl ⟨by rfl, ?_⟩) ?_ ?_
  rotate_left
  · intro w'
    go_simp
    with_reducible rfl
  rotate_left
  · simp only [Act.put, List.setIfInBounds_toArray, List.set_cons_zero, List.set_cons_succ, i64_w, i32_w]
    rfl
  refine pure_ (i := 5) (N := some 18) (v := ?_) (a' := ?_) #[true, true, true, false, false, true, false, false, false, false, false, false, false] rfl rfl (by kernel_rfl) (fun _ _ _ h => h) (Or.inl ⟨by rfl, ?_⟩) ?_ ?_
  rotate_left
  · intro w'
    go_simp
    with_reducible rfl
  rotate_left
  · simp only [Act.put, List.setIfInBounds_toArray, List.set_cons_zero, List.set_cons_succ, i64_w, i32_w]
    rfl
  refine pure_ (i := 6) (N := some 19) (v := ?_) (a' := ?_) #[true, true, true, false, false, true, true, false, false, false, false, false, false] rfl rfl (by kernel_rfl) (fun _ _ _ h => h) (Or.inl ⟨by rfl, ?_⟩) ?_ ?_
  rotate_left
  · intro w'
    go_simp
    with_reducible rfl
  rotate_left
  · simp only [Act.put, List.setIfInBounds_toArray, List.set_cons_zero, List.set_cons_succ, i64_w, i32_w]
    rfl
  refine pure_ (i := 8) (N := some 21) (v := ?_) (a' := ?_) #[true, true, true, false, false, true, true, false, true, false, false, false, false] rfl rfl (by kernel_rfl) (fun _ _ _ h => h) (Or.inl ⟨by rfl, ?_⟩) ?_ ?_
  rotate_left
  · intro w'
    go_simp
    with_reducible rfl
  rotate_left
  · simp only [Act.put, List.setIfInBounds_toArray, List.set_cons_zero, List.set_cons_succ, i64_w, i32_w]
    rfl
  refine pure_ (i := 9) (N := some 22) (v := ?_) (a' := ?_) #[true, true, true, false, false, true, true, false, true, true, false, false, false] rfl rfl (by kernel_rfl) (fun _ _ _ h => h) (Or.inl ⟨by rfl, ?_⟩) ?_ ?_
  rotate_left
  · intro w'
    go_simp
    with_reducible rfl
  rotate_left
  · simp only [Act.put, List.setIfInBounds_toArray, List.set_cons_zero, List.set_cons_succ, i64_w, i32_w]
    rfl
  refine pure_ (i := 10) (N := some 23) (v := ?_) (a' := ?_) #[true, true, true, false, false, true, true, false, true, true, true, false, false] rfl rfl (by kernel_rfl) (fun _ _ _ h => h) (Or.inl ⟨by rfl, ?_⟩) ?_ ?_
  rotate_left
  · intro w'
    go_simp
    with_reducible rfl
  rotate_left
  · simp only [Act.put, List.setIfInBounds_toArray, List.set_cons_zero, List.set_cons_succ, i64_w, i32_w]
    rfl
  refine take_ (i := 3) (N := some 16) (v := ?_) (a' := ?_) #[true, true, true, true, false, true, true, false, true, true, true, false, false] rfl rfl (by kernel_rfl) (fun _ _ _ h => h) (Or.inl ⟨by rfl, ?_⟩) hHeld ?_ ?_
  rotate_left
  · rintro w' ⟨s0, s1⟩
    go_simp
    with_reducible rfl
  rotate_left
  · simp only [Act.put, List.setIfInBounds_toArray, List.set_cons_zero, List.set_cons_succ, i64_w, i32_w]
    rfl
  refine pure_ (i := 4) (N := some 17) (v := ?_) (a' := ?_) #[true, true, true, true, true, true, true, false, true, true, true, false, false] rfl rfl (by kernel_rfl) (fun _ _ _ h => h) (Or.inl ⟨by rfl, ?_⟩) ?_ ?_
  rotate_left
  · intro w'
    go_simp
    with_reducible rfl
  rotate_left
  · simp only [Act.put, List.setIfInBounds_toArray, List.set_cons_zero, List.set_cons_succ, i64_w, i32_w]
    rfl
  refine pure_ (i := 7) (N := some 20) (v := ?_) (a' := ?_) #[true, true, true, true, true, true, true, true, true, true, true, false, false] rfl rfl (by kernel_rfl) (fun _ _ _ h => h) (Or.inl ⟨by rfl, ?_⟩) ?_ ?_
  rotate_left
  · intro w'
    go_simp
    with_reducible rfl
  rotate_left
  · simp only [Act.put, List.setIfInBounds_toArray, List.set_cons_zero, List.set_cons_succ, i64_w, i32_w]
    rfl
  refine take_ (i := 11) (N := some 24) (v := ?_) (a' := ?_) #[true, true, true, true, true, true, true, true, true, true, true, true, false] rfl rfl (by kernel_rfl) (fun _ _ _ h => h) (Or.inl ⟨by rfl, ?_⟩) hHeld ?_ ?_
  rotate_left
  · rintro w' ⟨s0, s1⟩
    go_simp
    with_reducible rfl
  rotate_left
  · simp only [Act.put, List.setIfInBounds_toArray, List.set_cons_zero, List.set_cons_succ, i64_w, i32_w]
    rfl
  refine pure_ (i := 12) (N := some 25) (v := ?_) (a' := ?_) #[true, true, true, true, true, true, true, true, true, true, true, true, true] rfl rfl (by kernel_rfl) (fun _ _ _ h => h) (Or.inl ⟨by rfl, ?_⟩) ?_ ?_
  rotate_left
  · intro w'
    go_simp
    with_reducible rfl
  rotate_left
  · simp only [Act.put, List.setIfInBounds_toArray, List.set_cons_zero, List.set_cons_succ, i64_w, i32_w]
    rfl
  refine done_ (by kernel_rfl) ?_
  clear had had2 r0 r1 r2 r3 r4 r5 r6 r7 r8
  replace HB := Aside0.mk (below_drew HB.out)
  replace HI1 := Aside0.mk (HI1.out.below (below_drew (Below.refl _ _)))
  replace HR1 := Aside0.mk (HR1.out.below (below_drew (Below.refl _ _)))
  obtain ⟨w2, hw2⟩ : ∃ W, w1.drew = W := ⟨_, rfl⟩
  rw [hw2] at HB HI1 HR1 ⊢
  clear hw2
  obtain ⟨A4, c4, w4, hr4, ho4, hb4⟩ := copy_row HI1.out.b.rd HN.out (by omega)
  obtain ⟨A5, c5, w5, hr5, ho5, hk5⟩ := app_row ho4 (HR1.out.below hb4) HN.out HNN.out hb4.size hs0
  have hb5 := Kp.from hb4 hk5 (fun b hb => ho4.ge hb)
  have HR4 := Aside0.mk hr4
  have HR5 := Aside0.mk hr5
  have HB5 := Aside0.mk (below_step HB.out hb5)
  have HI5 := Aside0.mk (HI1.out.below hb5)
  have HO5 := Aside0.mk (ho5.ge_ (show base ≤ _ from Nat.le_trans HI.out.bs HB.out.size))
  have HGE := Aside0.mk (fun k hk => Nat.le_trans HB.out.size (ho5.ge (k := k) hk))
  clear hr4 ho4 hb4 hr5 ho5 hk5 hb5 HR1
  have r0 : (w2).cell? ⟨g, 0, none⟩ = some (.int .u64 H.id) := blk_cell HI1.out.blk 0
  have r1 : (w2).cell? ⟨g, 1, none⟩ = some (.int .u64 H.key) := blk_cell HI1.out.blk 1
  have r2 : (w2).cell? ⟨g, 2, none⟩ = some (.int .i64 H.data) := blk_cell HI1.out.blk 2
  have r3 : (w2).cell? ⟨g, 3, none⟩ = some (.int .i64 H.fields) := blk_cell HI1.out.blk 3
  have r4 : (w2).cell? ⟨g, 4, none⟩ = some (.int .u64 H.made) := blk_cell HI1.out.blk 4
  have r5 : (w2).cell? ⟨g, 5, none⟩ = some ((.slice A0 n c0)) := blk_cell HI1.out.blk 5
  have r6 : (w2).cell? ⟨g, 6, none⟩ = some (va) := blk_cell HI1.out.blk 6
  have r7 : (w2).cell? ⟨g, 7, none⟩ = some (.int .i64 lim) := blk_cell HI1.out.blk 7
  have r8 : (w2).cell? ⟨g, 8, none⟩ = some (vw) := blk_cell HI1.out.blk 8
  have t0 : (w2.alloc (.cells #[] 5)).cell? ⟨g, 0, none⟩ = some (.int .u64 H.id) := blk_cell (blk_alloc HI1.out.blk (.cells #[] 5)) 0
  have t1 : (w2.alloc (.cells #[] 5)).cell? ⟨g, 1, none⟩ = some (.int .u64 H.key) := blk_cell (blk_alloc HI1.out.blk (.cells #[] 5)) 1
  have t2 : (w2.alloc (.cells #[] 5)).cell? ⟨g, 2, none⟩ = some (.int .i64 H.data) := blk_cell (blk_alloc HI1.out.blk (.cells #[] 5)) 2
  have t3 : (w2.alloc (.cells #[] 5)).cell? ⟨g, 3, none⟩ = some (.int .i64 H.fields) := blk_cell (blk_alloc HI1.out.blk (.cells #[] 5)) 3
  have t4 : (w2.alloc (.cells #[] 5)).cell? ⟨g, 4, none⟩ = some (.int .u64 H.made) := blk_cell (blk_alloc HI1.out.blk (.cells #[] 5)) 4
  have t5 : (w2.alloc (.cells #[] 5)).cell? ⟨g, 5, none⟩ = some ((.slice A0 n c0)) := blk_cell (blk_alloc HI1.out.blk (.cells #[] 5)) 5
  have t6 : (w2.alloc (.cells #[] 5)).cell? ⟨g, 6, none⟩ = some (va) := blk_cell (blk_alloc HI1.out.blk (.cells #[] 5)) 6
  have t7 : (w2.alloc (.cells #[] 5)).cell? ⟨g, 7, none⟩ = some (.int .i64 lim) := blk_cell (blk_alloc HI1.out.blk (.cells #[] 5)) 7
  have t8 : (w2.alloc (.cells #[] 5)).cell? ⟨g, 8, none⟩ = some (vw) := blk_cell (blk_alloc HI1.out.blk (.cells #[] 5)) 8
  have s0 : (w5).cell? ⟨g, 0, none⟩ = some (.int .u64 H.id) := blk_cell HI5.out.blk 0
  have s1 : (w5).cell? ⟨g, 1, none⟩ = some (.int .u64 H.key) := blk_cell HI5.out.blk 1
  have s2 : (w5).cell? ⟨g, 2, none⟩ = some (.int .i64 H.data) := blk_cell HI5.out.blk 2
  have s3 : (w5).cell? ⟨g, 3, none⟩ = some (.int .i64 H.fields) := blk_cell HI5.out.blk 3
  have s4 : (w5).cell? ⟨g, 4, none⟩ = some (.int .u64 H.made) := blk_cell HI5.out.blk 4
  have s5 : (w5).cell? ⟨g, 5, none⟩ = some ((.slice A0 n c0)) := blk_cell HI5.out.blk 5
  have s6 : (w5).cell? ⟨g, 6, none⟩ = some (va) := blk_cell HI5.out.blk 6
  have s7 : (w5).cell? ⟨g, 7, none⟩ = some (.int .i64 lim) := blk_cell HI5.out.blk 7
  have s8 : (w5).cell? ⟨g, 8, none⟩ = some (vw) := blk_cell HI5.out.blk 8
  have f0 := blk_frozen HI5.out.blk 0
  have f1 := blk_frozen HI5.out.blk 1
  have f2 := blk_frozen HI5.out.blk 2
  have f3 := blk_frozen HI5.out.blk 3
  have f4 := blk_frozen HI5.out.blk 4
  have f5 := blk_frozen HI5.out.blk 5
  have f6 := blk_frozen HI5.out.blk 6
  have f7 := blk_frozen HI5.out.blk 7
  have f8 := blk_frozen HI5.out.blk 8
  go_wp2_with (first | ((with_reducible refine gate_builtin (b := .append) (xs := #[.tmp 32, .tmp 36]) rfl ?_); at_builtin; refine app_list rfl (.tmp 32) (.tmp 36) rfl rfl rfl HR4.out ?_) | ((with_reducible refine gate_builtin (b := .append) (xs := #[.tmp 37, .tmp 38]) rfl ?_); at_builtin; refine app_list rfl (.tmp 37) (.tmp 38) rfl rfl rfl HR5.out ?_))
  go_ret2
  have far : ∀ k, k ≠ g → (w5.setCell ⟨g, 5, none⟩ (.slice A5 (n + N) c5)).heap[k]? = w5.heap[k]? := fun k h => Below.heap_setCell _ ⟨g, 5, none⟩ _ k h
  refine ⟨rfl, RmS.of (vb' := .slice A5 (n + N) c5) (va' := va) (vw' := vw) HI.out ((Kp.of_below HB5.out F).trans (Kp.set w5 ⟨g, 5, none⟩ _) (fun k hk => .inl (by rw [hk]; exact HI.out.fg))) ?_ ?_ ?_ ?_ (fun k hk => .inr ⟨HGE.out k hk, by have := HO5.out.lt hk; simpa using this⟩) (fun k hk => .inl (HI.out.fa k hk)) (fun k hk => .inl (HI.out.fw k hk))⟩
  · simpa [rmA] using blk_set HI5.out.blk 5 (.slice A5 (n + N) c5)
  · exact HO5.out.move (fun k hk => far k (fun e => HO5.out.ne HI5.out.blk (by decide) (by rw [hk, e])))
  · exact HI5.out.a.move (fun k hk => far k (fun e => HI5.out.a_ne (by rw [hk, e])))
  · exact HI5.out.w.move (fun k hk => far k (fun e => HI5.out.w_ne (by rw [hk, e])))

set_option maxHeartbeats 8000000 in
set_option maxRecDepth 100000 in
theorem RPut_arg (g base : Nat) (H : Hd) (B Was : List Int) (lim : Int) (ws : List Int) (F : Nat → Prop) (vb va vw : Value) (w : World) (hI : Rm w g base H B Was lim ws F vb va vw) (kd : Int) (nW nR nI : Nat) (A1 A2 A3 : Option Addr) (c1 c2 c3 : Nat) (b1 : nW ≤ 100000) (b2 : nR ≤ 100000) (b3 : nI ≤ 100000) (hr : oR kd nW nR nI = false) : Calls Try.prog 122 #[.pointer (some ⟨g, 0, none⟩), .agg #[.int .i64 kd, .slice A1 nW c1, .slice A2 nR c2, .slice A3 nI c3]] w fun e w' => e = .returned (.tuple #[.int .i64 0, .int .i64 1]) ∧ Below w.heap.size w w' := by
  have CE := Aside0.mk (fun (w1 : World) => ref_oEncode_no kd nW nR nI A1 A2 A3 c1 c2 c3 w1 (by omega) (by omega) (by omega) hr)
  clear hI hr
  go_enter Try.func122, Try.ntmps122

  go_wp2_with fail
  refine (CE.out _).mono ?_
  rintro e w1 ⟨rfl, hb⟩
  have HB := Aside0.mk (below_step (below_alloc (Below.refl w.heap.size w) _) hb)
  clear hb
  go_wp2_with fail
  go_ret2
  exact ⟨rfl, HB.out⟩
end Go.Proofs.Ytigdchfjcfljjaa
end
section
/- The document's image: Load, New, Object. -/
namespace Go.Proofs.Ytigdchfjcfljjaa
open Go.RowKit Go.Proofs.YtigdchfjcfljjaaW.PrintWords Go.Proofs.YtigdchfjcfljjaaW.PrintLast Go.Proofs.YtigdchfjcfljjaaW.PrintMore
attribute [local go_sem] max2_int min2_int max_two min_two max_three min_three max_four min_four   -- for this text's walks alone
set_option linter.unusedVariables false
set_option linter.unusedSimpArgs false

theorem blk_new1 (W : World) (o : Obj) : ((W.alloc o).alloc o).heap[W.heap.size + 1]? = some o := by have := blk_new (W.alloc o) o; simpa using this
theorem own_empty1 (W : World) (base : Nat) (h : base ≤ W.heap.size) : OwnO (Value.int .u8) ((W.alloc (.cells #[] 5)).alloc (.cells #[] 5)) base 5 (.slice (some ⟨W.heap.size + 1, 0, none⟩) 0 0) [] := by
  have := own_empty (W.alloc (.cells #[] 5)) base (by simp; omega)
  rwa [show (W.alloc (.cells #[] 5)).heap.size = W.heap.size + 1 by simp] at this
theorem own_emptyB {W : World} {s base : Nat} (h : W.heap[s]? = some (.cells #[] 5 (0, 0))) (hb : base ≤ s) : OwnO (Value.int .u8) W base 5 (.slice (some ⟨s, 0, none⟩) 0 0) [] :=
  .inr ⟨s, 0, 0, #[], rfl, hb, h, Nat.le_refl _, by omega, by simp, by simp [encs]⟩
/-- No bytes stand in an empty block. -/
theorem OwnO.no_empty {W : World} {base s : Nat} {v : Value} {xs : List Int} (h : OwnO (Value.int .u8) W base 5 v xs) (h0 : 0 < xs.length) (hs : W.heap[s]? = some (.cells #[] 5 (0, 0))) : v.ownBlock ≠ some s := fun hk => by
  rcases h with ⟨rfl, _⟩ | ⟨g, o, cap, cur, rfl, hb, hg, hn, hm, hsz, ht⟩
  · cases hk
  · rw [show g = s by injection hk, hs] at hg
    injection hg with hg
    injection hg with hg
    subst hg
    simp at hsz
    omega
theorem Rm.fresh {w w1 : World} {H : Hd} {B Was : List Int} {vb va : Value} (lim : Int) (ho : OwnO (Value.int .u8) w1 w.heap.size 5 vb B) (ha : OwnO (Value.int .u8) w1 w.heap.size 5 va Was) (hb : Below w.heap.size w w1) :
    Rm (w1.alloc (.cells (rmA H vb va lim (.slice none 0 0)) 85)) w1.heap.size w.heap.size H B Was lim [] (fun k => w.heap.size ≤ k ∧ k < (w1.alloc (.cells (rmA H vb va lim (.slice none 0 0)) 85)).heap.size) vb va (.slice none 0 0) := by
  refine ⟨blk_new _ _, ho.below (below_alloc (Below.refl _ _) _), ha.below (below_alloc (Below.refl _ _) _), OwnO.nil _ _ _ _, ⟨hb.size, by simp⟩, fun k hk => ⟨ho.ge hk, ?_⟩, fun k hk => ⟨ha.ge hk, ?_⟩, (fun k hk => by cases hk), fun k hk => hk⟩
  · have := ho.lt hk
    simp; omega
  · have := ha.lt hk
    simp; omega
set_option maxHeartbeats 8000000 in
set_option maxRecDepth 100000 in
theorem RLoad_yes (H : Hd) (A0 : Option Addr) (l : List Int) (n c0 : Nat) (lim : Int) (w : World) (hr : hR H.data H.fields = true) (hn : l.length = n) (hrd : Rd w .u8 (.slice A0 n c0) l) (hs : obN H ≤ (n : Int)) (hl : n ≤ 1000000) (hlim : lim ≤ 1048576) : Calls Try.prog 120 #[.agg #[.int .u64 H.id, .int .u64 H.key, .int .i64 H.data, .int .i64 H.fields, .int .u64 H.made], .slice A0 n c0, .int .i64 lim] w fun e w' => ∃ g, e = .returned (.pointer (some ⟨g, 0, none⟩)) ∧ (∃ vb va, Rm w' g w.heap.size H l l lim [] (fun k => w.heap.size ≤ k ∧ k < w'.heap.size) vb va (.slice none 0 0)) ∧ Below w.heap.size w w' := by
  obtain ⟨d0, d1, f0, f1⟩ := hR_of hr
  rw [obN] at hs
  have HR := Aside0.mk hr
  have HRD := Aside0.mk (fun (w1 : World) (hb : Below w.heap.size w w1) => hrd.below hb)
  have HN := Aside0.mk hn
  have hn0 : 0 < n := by omega
  have hl0 : 0 + n ≤ 1000000 := by omega
  have HNL := Aside0.mk (show 0 < l.length by omega)
  clear hr hn hrd
  go_enter Try.func120, Try.ntmps120

  go_wp2_with fail
  refine (ref_hRight_calls H.id H.key H.data H.fields H.made _).mono ?_
  rintro e w1 ⟨rfl, hb⟩
  have HZ := Aside0.mk (blk_below (blk_new w (.cells #[.int .u64 H.id, .int .u64 H.key, .int .i64 H.data, .int .i64 H.fields, .int .u64 H.made] 60)) hb)
  have HB := Aside0.mk (below_step (below_alloc (Below.refl w.heap.size w) (.cells #[.int .u64 H.id, .int .u64 H.key, .int .i64 H.data, .int .i64 H.fields, .int .u64 H.made] 60)) hb)
  rw [HR.out]
  clear hb
  have r0 : (w1).cell? ⟨w.heap.size, 0, none⟩ = some (.int .u64 H.id) := blk_cell HZ.out 0
  have r1 : (w1).cell? ⟨w.heap.size, 1, none⟩ = some (.int .u64 H.key) := blk_cell HZ.out 1
  have r2 : (w1).cell? ⟨w.heap.size, 2, none⟩ = some (.int .i64 H.data) := blk_cell HZ.out 2
  have r3 : (w1).cell? ⟨w.heap.size, 3, none⟩ = some (.int .i64 H.fields) := blk_cell HZ.out 3
  have r4 : (w1).cell? ⟨w.heap.size, 4, none⟩ = some (.int .u64 H.made) := blk_cell HZ.out 4

  go_wp2_with fail
  refine (ref_Objects_calls H.id H.key H.data H.fields H.made _ d0 d1 f0 f1).mono ?_
  rintro e w2 ⟨rfl, hb⟩
  replace HZ := Aside0.mk (blk_below HZ.out hb)
  replace HB := Aside0.mk (below_step HB.out hb)
  clear hb r0 r1 r2 r3 r4
  have r0 : (w2).cell? ⟨w.heap.size, 0, none⟩ = some (.int .u64 H.id) := blk_cell HZ.out 0
  have r1 : (w2).cell? ⟨w.heap.size, 1, none⟩ = some (.int .u64 H.key) := blk_cell HZ.out 1
  have r2 : (w2).cell? ⟨w.heap.size, 2, none⟩ = some (.int .i64 H.data) := blk_cell HZ.out 2
  have r3 : (w2).cell? ⟨w.heap.size, 3, none⟩ = some (.int .i64 H.fields) := blk_cell HZ.out 3
  have r4 : (w2).cell? ⟨w.heap.size, 4, none⟩ = some (.int .u64 H.made) := blk_cell HZ.out 4

  go_upto_region 5 with fail
  refine start_ (n := 11) (S := fun w' => w'.cell? ⟨w.heap.size, 0, none⟩ = some (.int .u64 H.id) ∧ w'.cell? ⟨w.heap.size, 1, none⟩ = some (.int .u64 H.key) ∧ w'.cell? ⟨w.heap.size, 2, none⟩ = some (.int .i64 H.data) ∧ w'.cell? ⟨w.heap.size, 3, none⟩ = some (.int .i64 H.fields) ∧ w'.cell? ⟨w.heap.size, 4, none⟩ = some (.int .u64 H.made)) (ds := [9]) #[false, false, false, false, false, false, false, false, false, false, false] (by kernel_rfl) rfl rfl ⟨r0, r1, r2, r3, r4⟩ (fun hHeld => ?_)
  refine pure_ (i := 2) (N := some 21) (v := ?_) (a' := ?_) #[false, false, true, false, false, false, false, false, false, false, false] rfl rfl (by kernel_rfl) (fun _ _ _ h => h) (Or.inl ⟨by rfl, ?_⟩) ?_ ?_
  rotate_left
  · intro w'
    go_simp
    with_reducible rfl
  rotate_left
  · simp only [Act.put, List.setIfInBounds_toArray, List.set_cons_zero, List.set_cons_succ, i64_w, i32_w]
    rfl
  refine pure_ (i := 5) (N := some 24) (v := ?_) (a' := ?_) #[false, false, true, false, false, true, false, false, false, false, false] rfl rfl (by kernel_rfl) (fun _ _ _ h => h) (Or.inl ⟨by rfl, ?_⟩) ?_ ?_
  rotate_left
  · intro w'
    go_simp
    with_reducible rfl
  rotate_left
  · simp only [Act.put, List.setIfInBounds_toArray, List.set_cons_zero, List.set_cons_succ, i64_w, i32_w]
    rfl
  refine pure_ (i := 7) (N := some 26) (v := ?_) (a' := ?_) #[false, false, true, false, false, true, false, true, false, false, false] rfl rfl (by kernel_rfl) (fun _ _ _ h => h) (Or.inl ⟨by rfl, ?_⟩) ?_ ?_
  rotate_left
  · intro w'
    go_simp
    with_reducible rfl
  rotate_left
  · simp only [Act.put, List.setIfInBounds_toArray, List.set_cons_zero, List.set_cons_succ, i64_w, i32_w]
    rfl
  refine take_ (i := 0) (N := some 19) (v := ?_) (a' := ?_) #[true, false, true, false, false, true, false, true, false, false, false] rfl rfl (by kernel_rfl) (fun _ _ _ h => h) (Or.inl ⟨by rfl, ?_⟩) hHeld ?_ ?_
  rotate_left
  · rintro w' ⟨s0, s1, s2, s3, s4⟩
    go_simp
    with_reducible rfl
  rotate_left
  · simp only [Act.put, List.setIfInBounds_toArray, List.set_cons_zero, List.set_cons_succ, i64_w, i32_w]
    rfl
  refine join_ (σ := Option Addr × Nat × Nat × Nat) 4 #[true, true, true, true, true, true, false, true, false, false, false] (fun s => [(20, .slice (some ⟨s.2.2.1, 0, none⟩) 0 0), (22, .slice s.1 n s.2.1), (23, .slice (some ⟨s.2.2.2, 0, none⟩) 0 0)]) (fun s w' => OwnO (Value.int .u8) w' w.heap.size 5 (.slice s.1 n s.2.1) l ∧ w'.heap[s.2.2.2]? = some (.cells #[] 5 (0, 0)) ∧ w.heap.size ≤ s.2.2.2 ∧ Below w.heap.size w w' ∧ w'.heap[w.heap.size]? = some (.cells #[.int .u64 H.id, .int .u64 H.key, .int .i64 H.data, .int .i64 H.fields, .int .u64 H.made] 60 (0, 0))) ?_ ?_
  rotate_left
  · intro hCont
    refine two_ (i := 1) (j := 4) (Ni := some 20) (Nj := some 23) #[true, true, true, false, false, true, false, true, false, false, false] #[true, false, true, false, true, true, false, true, false, false, false] rfl rfl rfl rfl (by kernel_rfl) (by decide) (by decide) (fun K hK => ?_) (fun K hK => ?_)
    · skip
      refine value_ (w1 := ?_) (v := ?_) (by rfl) rfl ?_ ?_
      rotate_left 2
      · go_simp
        constructor
        · rfl
        · rfl
      refine hK.out _ _ ⟨(pw_cell_below (below_alloc (Below.refl _ _) _) hHeld.1), (pw_cell_below (below_alloc (Below.refl _ _) _) hHeld.2.1), (pw_cell_below (below_alloc (Below.refl _ _) _) hHeld.2.2.1), (pw_cell_below (below_alloc (Below.refl _ _) _) hHeld.2.2.2.1), (pw_cell_below (below_alloc (Below.refl _ _) _) hHeld.2.2.2.2)⟩ (fun hHeld => ?_)
      clear hK K
      refine norm_ (a' := ?_) ?_ ?_
      rotate_left
      · show Act.put _ (some 20) _ = _
        simp only [Act.put, List.setIfInBounds_toArray, List.set_cons_zero, List.set_cons_succ, i64_w, i32_w]
        rfl
      refine two_ (i := 3) (j := 4) (Ni := some 22) (Nj := some 23) #[true, true, true, true, false, true, false, true, false, false, false] #[true, true, true, false, true, true, false, true, false, false, false] rfl rfl rfl rfl (by kernel_rfl) (by decide) (by decide) (fun K hK => ?_) (fun K hK => ?_)
      · skip
        have bw := (below_drew (below_alloc HB.out (.cells #[] 5)))
        have hoe := ((own_empty w2 w.heap.size HB.out.size).below (below_drew (Below.refl _ _)))
        obtain ⟨A1, c1, w3, hr3, ho3, hk3⟩ := app_row hoe (HRD.out _ bw) rfl HN.out bw.size hl0
        simp only [List.length_nil, Nat.zero_add, List.nil_append] at hr3 ho3
        have hz3 := hk3.blk (blk_drew (blk_alloc HZ.out (.cells #[] 5))) (fun h => hoe.ne (blk_drew (blk_alloc HZ.out (.cells #[] 5))) (by decide) h)
        have hb3 := Kp.from bw hk3 (fun b hb => hoe.ge hb)
        refine app_step (by rfl) (.tmp 20) (.tmp 21) rfl rfl rfl hr3 ?_
        refine hK.out _ _ ⟨(blk_cell hz3 0), (blk_cell hz3 1), (blk_cell hz3 2), (blk_cell hz3 3), (blk_cell hz3 4)⟩ (fun hHeld => ?_)
        clear hK K
        refine norm_ (a' := ?_) ?_ ?_
        rotate_left
        · show Act.put _ (some 22) _ = _
          simp only [Act.put, List.setIfInBounds_toArray, List.set_cons_zero, List.set_cons_succ, i64_w, i32_w]
          rfl
        refine one_ (i := 4) (N := some 23) #[true, true, true, true, true, true, false, true, false, false, false] rfl rfl (by kernel_rfl) (by decide) (fun K hK => ?_)
        refine value_ (w1 := ?_) (v := ?_) (by rfl) rfl ?_ ?_
        rotate_left 2
        · go_simp
          constructor
          · rfl
          · rfl
        refine hK.out _ _ ⟨(pw_cell_below (below_alloc (Below.refl _ _) _) hHeld.1), (pw_cell_below (below_alloc (Below.refl _ _) _) hHeld.2.1), (pw_cell_below (below_alloc (Below.refl _ _) _) hHeld.2.2.1), (pw_cell_below (below_alloc (Below.refl _ _) _) hHeld.2.2.2.1), (pw_cell_below (below_alloc (Below.refl _ _) _) hHeld.2.2.2.2)⟩ (fun hHeld => ?_)
        clear hK K
        refine norm_ (a' := ?_) ?_ ?_
        rotate_left
        · show Act.put _ (some 23) _ = _
          simp only [Act.put, List.setIfInBounds_toArray, List.set_cons_zero, List.set_cons_succ, i64_w, i32_w]
          rfl
        exact norm_ (by simp only [putAll, Act.put, List.setIfInBounds_toArray, List.set_cons_zero, List.set_cons_succ]) (hCont (A1, c1, w2.heap.size, w3.heap.size) _ ⟨ho3.below (below_alloc (Below.refl _ _) _), blk_new w3 _, hb3.size, below_alloc hb3 _, blk_alloc hz3 _⟩)
      · skip
        refine value_ (w1 := ?_) (v := ?_) (by rfl) rfl ?_ ?_
        rotate_left 2
        · go_simp
          constructor
          · rfl
          · rfl
        refine hK.out _ _ ⟨(pw_cell_below (below_alloc (Below.refl _ _) _) hHeld.1), (pw_cell_below (below_alloc (Below.refl _ _) _) hHeld.2.1), (pw_cell_below (below_alloc (Below.refl _ _) _) hHeld.2.2.1), (pw_cell_below (below_alloc (Below.refl _ _) _) hHeld.2.2.2.1), (pw_cell_below (below_alloc (Below.refl _ _) _) hHeld.2.2.2.2)⟩ (fun hHeld => ?_)
        clear hK K
        refine norm_ (a' := ?_) ?_ ?_
        rotate_left
        · show Act.put _ (some 23) _ = _
          simp only [Act.put, List.setIfInBounds_toArray, List.set_cons_zero, List.set_cons_succ, i64_w, i32_w]
          rfl
        refine one_ (i := 3) (N := some 22) #[true, true, true, true, true, true, false, true, false, false, false] rfl rfl (by kernel_rfl) (by decide) (fun K hK => ?_)
        have bw := (below_drew (below_alloc (below_alloc HB.out (.cells #[] 5)) (.cells #[] 5)))
        have hoe := (((own_empty w2 w.heap.size HB.out.size).below (below_alloc (Below.refl _ _) (.cells #[] 5))).below (below_drew (Below.refl _ _)))
        obtain ⟨A1, c1, w3, hr3, ho3, hk3⟩ := app_row hoe (HRD.out _ bw) rfl HN.out bw.size hl0
        simp only [List.length_nil, Nat.zero_add, List.nil_append] at hr3 ho3
        have hz3 := hk3.blk (blk_drew (blk_alloc (blk_alloc HZ.out (.cells #[] 5)) (.cells #[] 5))) (fun h => hoe.ne (blk_drew (blk_alloc (blk_alloc HZ.out (.cells #[] 5)) (.cells #[] 5))) (by decide) h)
        have hb3 := Kp.from bw hk3 (fun b hb => hoe.ge hb)
        refine app_step (by rfl) (.tmp 20) (.tmp 21) rfl rfl rfl hr3 ?_
        refine hK.out _ _ ⟨(blk_cell hz3 0), (blk_cell hz3 1), (blk_cell hz3 2), (blk_cell hz3 3), (blk_cell hz3 4)⟩ (fun hHeld => ?_)
        clear hK K
        refine norm_ (a' := ?_) ?_ ?_
        rotate_left
        · show Act.put _ (some 22) _ = _
          simp only [Act.put, List.setIfInBounds_toArray, List.set_cons_zero, List.set_cons_succ, i64_w, i32_w]
          rfl
        exact norm_ (by simp only [putAll, Act.put, List.setIfInBounds_toArray, List.set_cons_zero, List.set_cons_succ]) (hCont (A1, c1, w2.heap.size, w2.heap.size + 1) _ ⟨ho3, hk3.blk (blk_drew (blk_new1 w2 (.cells #[] 5))) (fun h => absurd (Option.some.inj h) (Nat.ne_of_lt (Nat.lt_succ_self _))), Nat.le_succ_of_le HB.out.size, hb3, hz3⟩)
    · skip
      refine value_ (w1 := ?_) (v := ?_) (by rfl) rfl ?_ ?_
      rotate_left 2
      · go_simp
        constructor
        · rfl
        · rfl
      refine hK.out _ _ ⟨(pw_cell_below (below_alloc (Below.refl _ _) _) hHeld.1), (pw_cell_below (below_alloc (Below.refl _ _) _) hHeld.2.1), (pw_cell_below (below_alloc (Below.refl _ _) _) hHeld.2.2.1), (pw_cell_below (below_alloc (Below.refl _ _) _) hHeld.2.2.2.1), (pw_cell_below (below_alloc (Below.refl _ _) _) hHeld.2.2.2.2)⟩ (fun hHeld => ?_)
      clear hK K
      refine norm_ (a' := ?_) ?_ ?_
      rotate_left
      · show Act.put _ (some 23) _ = _
        simp only [Act.put, List.setIfInBounds_toArray, List.set_cons_zero, List.set_cons_succ, i64_w, i32_w]
        rfl
      refine one_ (i := 1) (N := some 20) #[true, true, true, false, true, true, false, true, false, false, false] rfl rfl (by kernel_rfl) (by decide) (fun K hK => ?_)
      refine value_ (w1 := ?_) (v := ?_) (by rfl) rfl ?_ ?_
      rotate_left 2
      · go_simp
        constructor
        · rfl
        · rfl
      refine hK.out _ _ ⟨(pw_cell_below (below_alloc (Below.refl _ _) _) hHeld.1), (pw_cell_below (below_alloc (Below.refl _ _) _) hHeld.2.1), (pw_cell_below (below_alloc (Below.refl _ _) _) hHeld.2.2.1), (pw_cell_below (below_alloc (Below.refl _ _) _) hHeld.2.2.2.1), (pw_cell_below (below_alloc (Below.refl _ _) _) hHeld.2.2.2.2)⟩ (fun hHeld => ?_)
      clear hK K
      refine norm_ (a' := ?_) ?_ ?_
      rotate_left
      · show Act.put _ (some 20) _ = _
        simp only [Act.put, List.setIfInBounds_toArray, List.set_cons_zero, List.set_cons_succ, i64_w, i32_w]
        rfl
      refine one_ (i := 3) (N := some 22) #[true, true, true, true, true, true, false, true, false, false, false] rfl rfl (by kernel_rfl) (by decide) (fun K hK => ?_)
      have bw := (below_drew (below_alloc (below_alloc HB.out (.cells #[] 5)) (.cells #[] 5)))
      have hoe := ((own_empty1 w2 w.heap.size HB.out.size).below (below_drew (Below.refl _ _)))
      obtain ⟨A1, c1, w3, hr3, ho3, hk3⟩ := app_row hoe (HRD.out _ bw) rfl HN.out bw.size hl0
      simp only [List.length_nil, Nat.zero_add, List.nil_append] at hr3 ho3
      have hz3 := hk3.blk (blk_drew (blk_alloc (blk_alloc HZ.out (.cells #[] 5)) (.cells #[] 5))) (fun h => hoe.ne (blk_drew (blk_alloc (blk_alloc HZ.out (.cells #[] 5)) (.cells #[] 5))) (by decide) h)
      have hb3 := Kp.from bw hk3 (fun b hb => hoe.ge hb)
      refine app_step (by rfl) (.tmp 20) (.tmp 21) rfl rfl rfl hr3 ?_
      refine hK.out _ _ ⟨(blk_cell hz3 0), (blk_cell hz3 1), (blk_cell hz3 2), (blk_cell hz3 3), (blk_cell hz3 4)⟩ (fun hHeld => ?_)
      clear hK K
      refine norm_ (a' := ?_) ?_ ?_
      rotate_left
      · show Act.put _ (some 22) _ = _
        simp only [Act.put, List.setIfInBounds_toArray, List.set_cons_zero, List.set_cons_succ, i64_w, i32_w]
        rfl
      exact norm_ (by simp only [putAll, Act.put, List.setIfInBounds_toArray, List.set_cons_zero, List.set_cons_succ]) (hCont (A1, c1, w2.heap.size + 1, w2.heap.size) _ ⟨ho3, hk3.blk (blk_drew (blk_alloc (blk_new w2 (.cells #[] 5)) (.cells #[] 5))) (fun h => absurd (Option.some.inj h) (Nat.succ_ne_self _)), HB.out.size, hb3, hz3⟩)
  rintro s w4 ⟨ho4, hs4, hge4, hb4, hz4⟩
  obtain ⟨A1, c1, s1, s2⟩ := s
  dsimp only at ho4 hs4 hge4 ⊢
  have hHeld : w4.cell? ⟨w.heap.size, 0, none⟩ = some (.int .u64 H.id) ∧ w4.cell? ⟨w.heap.size, 1, none⟩ = some (.int .u64 H.key) ∧ w4.cell? ⟨w.heap.size, 2, none⟩ = some (.int .i64 H.data) ∧ w4.cell? ⟨w.heap.size, 3, none⟩ = some (.int .i64 H.fields) ∧ w4.cell? ⟨w.heap.size, 4, none⟩ = some (.int .u64 H.made) := ⟨blk_cell hz4 0, blk_cell hz4 1, blk_cell hz4 2, blk_cell hz4 3, blk_cell hz4 4⟩
  refine norm_ (a' := ?_) ?_ ?_
  rotate_left
  · simp only [putAll, Act.put, List.setIfInBounds_toArray, List.set_cons_zero, List.set_cons_succ]
    rfl
  refine one_ (i := 6) (N := some 25) #[true, true, true, true, true, true, true, true, false, false, false] rfl rfl (by kernel_rfl) (by decide) (fun K hK => ?_)
  obtain ⟨A5, c5, w5, hr5, ho5, hk5⟩ := app_row (own_emptyB hs4 hge4) (HRD.out _ hb4) rfl HN.out hb4.size hl0
  simp only [List.length_nil, Nat.zero_add, List.nil_append] at hr5 ho5
  have hz5 := hk5.blk hz4 (fun h => (own_emptyB hs4 hge4).ne hz4 (by decide) h)
  refine app_step (by rfl) (.tmp 23) (.tmp 24) rfl rfl rfl hr5 ?_
  refine hK.out _ _ ⟨(blk_cell hz5 0), (blk_cell hz5 1), (blk_cell hz5 2), (blk_cell hz5 3), (blk_cell hz5 4)⟩ (fun hHeld => ?_)
  clear hK K
  refine norm_ (a' := ?_) ?_ ?_
  rotate_left
  · show Act.put _ (some 25) _ = _
    simp only [Act.put, List.setIfInBounds_toArray, List.set_cons_zero, List.set_cons_succ, i64_w, i32_w]
    rfl
  refine pure_ (i := 8) (N := some 27) (v := ?_) (a' := ?_) #[true, true, true, true, true, true, true, true, true, false, false] rfl rfl (by kernel_rfl) (fun _ _ _ h => h) (Or.inl ⟨by rfl, ?_⟩) ?_ ?_
  rotate_left
  · intro w'
    go_simp
    with_reducible rfl
  rotate_left
  · simp only [Act.put, List.setIfInBounds_toArray, List.set_cons_zero, List.set_cons_succ, i64_w, i32_w]
    rfl
  refine last_ (i := 9) (N := some 28) #[true, true, true, true, true, true, true, true, true, true, false] rfl rfl (by kernel_rfl) (by decide) (fun K hK => ?_)
  refine value_ (w1 := ?_) (v := ?_) (by rfl) rfl ?_ ?_
  rotate_left 2
  · go_simp
    constructor
    · rfl
    · rfl
  refine hK.out _ _ ?_
  clear hK K
  refine norm_ (a' := ?_) ?_ ?_
  rotate_left
  · show Act.put _ (some 28) _ = _
    simp only [Act.put, List.setIfInBounds_toArray, List.set_cons_zero, List.set_cons_succ, i64_w, i32_w]
    rfl
  refine pure_ (i := 10) (N := some 6) (v := ?_) (a' := ?_) #[true, true, true, true, true, true, true, true, true, true, true] rfl rfl (by kernel_rfl) (fun _ _ _ h => h) (Or.inl ⟨by rfl, ?_⟩) ?_ ?_
  rotate_left
  · intro w'
    go_simp
    with_reducible rfl
  rotate_left
  · simp only [Act.put, List.setIfInBounds_toArray, List.set_cons_zero, List.set_cons_succ, i64_w, i32_w]
    rfl
  refine done_ (by kernel_rfl) ?_
  have HB5 := Aside0.mk (Kp.from hb4 hk5 (fun b hb => by rw [← show s2 = b from Option.some.inj hb]; exact hge4))
  have HO5 := Aside0.mk ho5
  have HA5 := Aside0.mk (ho4.kp hk5 (fun k hk e => by
    injection e with e
    subst e
    exact ho4.no_empty HNL.out hs4 hk))
  clear hb4 ho4 hs4 hge4 hz4 hr5 ho5 hk5 hz5 r0 r1 r2 r3 r4
  go_wp2_with fail
  go_ret
  exact ⟨_, rfl, ⟨_, _, Rm.fresh lim HA5.out HO5.out HB5.out⟩, below_alloc HB5.out _⟩
set_option maxHeartbeats 8000000 in
set_option maxRecDepth 100000 in
theorem RNew_yes (H : Hd) (lim : Int) (w : World) (hr : hR H.data H.fields = true) (i0 : 0 ≤ H.id) (i1 : H.id ≤ 18446744073709551615) (k0 : 0 ≤ H.key) (k1 : H.key ≤ 18446744073709551615) (m0 : 0 ≤ H.made) (m1 : H.made ≤ 18446744073709551615) (hlim : lim ≤ 1048576) : Calls Try.prog 48 #[.agg #[.int .u64 H.id, .int .u64 H.key, .int .i64 H.data, .int .i64 H.fields, .int .u64 H.made], .int .i64 lim] w fun e w' => ∃ g, e = .returned (.pointer (some ⟨g, 0, none⟩)) ∧ (∃ vb va base, w.heap.size ≤ base ∧ Rm w' g base H (encZ magicL [H.id, H.key, H.data, H.fields, H.made] ++ List.replicate (obN H - 64).toNat 0) (encZ magicL [H.id, H.key, H.data, H.fields, H.made] ++ List.replicate (obN H - 64).toNat 0) lim [] (fun k => base ≤ k ∧ k < w'.heap.size) vb va (.slice none 0 0)) ∧ Below w.heap.size w w' := by
  obtain ⟨d0, d1, f0, f1⟩ := hR_of hr
  have HR := Aside0.mk hr
  obtain ⟨q, hq⟩ : ∃ q : Nat, obN H = 64 + (q : Int) := ⟨(obN H - 64).toNat, by rw [obN]; omega⟩
  rw [show (obN H - 64).toNat = q by omega]
  have hsub : IntKind.i64.wrap (256 + 8 * H.data + 8 * H.fields - 64) = (q : Int) := by rw [obN] at hq; rw [IntKind.wrap_i64]; omega
  have q0 : 0 < q := by rw [obN] at hq; omega
  have q1 : q ≤ 5000 := by rw [obN] at hq; omega
  have HEL := Aside0.mk (show (encZ magicL [H.id, H.key, H.data, H.fields, H.made]).length = 64 by rw [encZ, List.length_append, encC_len, List.length_replicate]; rfl)
  have HL := Aside0.mk (fun (w1 : World) (A0 : Option Addr) (c0 : Nat) (h : Rd w1 .u8 (.slice A0 (64 + q) c0) (encZ magicL [H.id, H.key, H.data, H.fields, H.made] ++ List.replicate q 0)) => RLoad_yes H A0 _ (64 + q) c0 lim w1 hr (by rw [List.length_append, HEL.out, List.length_replicate]) h (by omega) (by omega) hlim)
  clear hr hq
  go_enter Try.func48, Try.ntmps48

  go_wp2_with fail
  refine (ref_hRight_calls H.id H.key H.data H.fields H.made _).mono ?_
  rintro e w1 ⟨rfl, hb⟩
  have HZ := Aside0.mk (blk_below (blk_new w (.cells #[.int .u64 H.id, .int .u64 H.key, .int .i64 H.data, .int .i64 H.fields, .int .u64 H.made] 60)) hb)
  have HB := Aside0.mk (below_step (below_alloc (Below.refl w.heap.size w) (.cells #[.int .u64 H.id, .int .u64 H.key, .int .i64 H.data, .int .i64 H.fields, .int .u64 H.made] 60)) hb)
  rw [HR.out]
  clear hb
  have r0 : (w1).cell? ⟨w.heap.size, 0, none⟩ = some (.int .u64 H.id) := blk_cell HZ.out 0
  have r1 : (w1).cell? ⟨w.heap.size, 1, none⟩ = some (.int .u64 H.key) := blk_cell HZ.out 1
  have r2 : (w1).cell? ⟨w.heap.size, 2, none⟩ = some (.int .i64 H.data) := blk_cell HZ.out 2
  have r3 : (w1).cell? ⟨w.heap.size, 3, none⟩ = some (.int .i64 H.fields) := blk_cell HZ.out 3
  have r4 : (w1).cell? ⟨w.heap.size, 4, none⟩ = some (.int .u64 H.made) := blk_cell HZ.out 4

  go_upto_region 3 with fail

  refine start_ (n := 7) (S := fun w' => w'.cell? ⟨w.heap.size, 0, none⟩ = some (.int .u64 H.id) ∧ w'.cell? ⟨w.heap.size, 1, none⟩ = some (.int .u64 H.key) ∧ w'.cell? ⟨w.heap.size, 2, none⟩ = some (.int .i64 H.data) ∧ w'.cell? ⟨w.heap.size, 3, none⟩ = some (.int .i64 H.fields) ∧ w'.cell? ⟨w.heap.size, 4, none⟩ = some (.int .u64 H.made)) (ds := [5]) #[false, false, false, false, false, false, false] (by kernel_rfl) rfl rfl ⟨r0, r1, r2, r3, r4⟩ (fun hHeld => ?_)
  refine take_ (i := 0) (N := some 9) (v := ?_) (a' := ?_) #[true, false, false, false, false, false, false] rfl rfl (by kernel_rfl) (fun _ _ _ h => h) (Or.inl ⟨by rfl, ?_⟩) hHeld ?_ ?_
  rotate_left
  · rintro w' ⟨s0, s1, s2, s3, s4⟩
    go_simp
    with_reducible rfl
  rotate_left
  · simp only [Act.put, List.setIfInBounds_toArray, List.set_cons_zero, List.set_cons_succ, i64_w, i32_w]
    rfl
  refine take_ (i := 2) (N := some 11) (v := ?_) (a' := ?_) #[true, false, true, false, false, false, false] rfl rfl (by kernel_rfl) (fun _ _ _ h => h) (Or.inl ⟨by rfl, ?_⟩) hHeld ?_ ?_
  rotate_left
  · rintro w' ⟨s0, s1, s2, s3, s4⟩
    go_simp
    with_reducible rfl
  rotate_left
  · simp only [Act.put, List.setIfInBounds_toArray, List.set_cons_zero, List.set_cons_succ, i64_w, i32_w]
    rfl
  refine one_ (i := 1) (N := some 10) #[true, true, true, false, false, false, false] rfl rfl (by kernel_rfl) (by decide) (fun K hK => ?_)
  refine goes_ Try.func37 (by kernel_rfl) rfl #[.agg #[.int .u64 H.id, .int .u64 H.key, .int .i64 H.data, .int .i64 H.fields, .int .u64 H.made]] (by rfl) rfl rfl (by (try simp only [List.map_toArray, List.map_cons, List.map_nil]); first | done | rfl) ?_
  with_reducible refine (ref_hEncode_yes H.id H.key H.data H.fields H.made _ HR.out i0 i1 k0 k1 (by omega) d1 (by omega) f1 m0 m1).mono ?_
  rintro e w2 ⟨v2, rfl, ho2, hb2⟩
  refine ⟨_, rfl, ?_⟩
  refine hK.out _ _ ⟨(pw_cell_below hb2 hHeld.1), (pw_cell_below hb2 hHeld.2.1), (pw_cell_below hb2 hHeld.2.2.1), (pw_cell_below hb2 hHeld.2.2.2.1), (pw_cell_below hb2 hHeld.2.2.2.2)⟩ (fun hHeld => ?_)
  clear hK K
  refine norm_ (a' := ?_) ?_ ?_
  rotate_left
  · show Act.put _ (some 10) _ = _
    simp only [Act.put, List.setIfInBounds_toArray, List.set_cons_zero, List.set_cons_succ, i64_w, i32_w]
    rfl
  refine one_ (i := 3) (N := some 12) #[true, true, true, true, false, false, false] rfl rfl (by kernel_rfl) (by decide) (fun K hK => ?_)
  refine goes_ Try.func38 (by kernel_rfl) rfl #[.agg #[.int .u64 H.id, .int .u64 H.key, .int .i64 H.data, .int .i64 H.fields, .int .u64 H.made]] (by rfl) rfl rfl (by (try simp only [List.map_toArray, List.map_cons, List.map_nil]); first | done | rfl) ?_
  with_reducible refine (ref_Objects_calls H.id H.key H.data H.fields H.made _ d0 d1 f0 f1).mono ?_
  rintro e w3 ⟨rfl, hb3⟩
  refine ⟨_, rfl, ?_⟩
  refine hK.out _ _ ⟨(pw_cell_below hb3 hHeld.1), (pw_cell_below hb3 hHeld.2.1), (pw_cell_below hb3 hHeld.2.2.1), (pw_cell_below hb3 hHeld.2.2.2.1), (pw_cell_below hb3 hHeld.2.2.2.2)⟩ (fun hHeld => ?_)
  clear hK K
  refine norm_ (a' := ?_) ?_ ?_
  rotate_left
  · show Act.put _ (some 12) _ = _
    simp only [Act.put, List.setIfInBounds_toArray, List.set_cons_zero, List.set_cons_succ, i64_w, i32_w]
    rfl
  refine pure_ (i := 4) (N := some 13) (v := ?_) (a' := ?_) #[true, true, true, true, true, false, false] rfl rfl (by kernel_rfl) (fun _ _ _ h => h) (Or.inl ⟨by rfl, ?_⟩) ?_ ?_
  rotate_left
  · intro w'
    go_simp
    with_reducible rfl
  rotate_left
  · simp only [Act.put, List.setIfInBounds_toArray, List.set_cons_zero, List.set_cons_succ, i64_w, i32_w]
    rfl
  refine last_ (i := 5) (N := some 14) #[true, true, true, true, true, true, false] rfl rfl (by kernel_rfl) (by decide) (fun K hK => ?_)
  have hbw := below_step (below_step (below_drew HB.out) hb2) hb3
  obtain ⟨A4, c4, w4, hr4, ho4, hk4, _⟩ := app_zeros q (((OwnO.of_own ho2).weaken (show w.heap.size ≤ _ from (below_drew HB.out).size)).below hb3) HEL.out hbw.size q0 (by omega)
  refine app_step (by rfl) (.tmp 10) (.tmp 13) rfl rfl rfl hr4 ?_
  refine hK.out _ _ ?_
  clear hK K
  refine norm_ (a' := ?_) ?_ ?_
  rotate_left
  · show Act.put _ (some 14) _ = _
    simp only [Act.put, List.setIfInBounds_toArray, List.set_cons_zero, List.set_cons_succ, i64_w, i32_w]
    rfl
  refine pure_ (i := 6) (N := some 5) (v := ?_) (a' := ?_) #[true, true, true, true, true, true, true] rfl rfl (by kernel_rfl) (fun _ _ _ h => h) (Or.inl ⟨by rfl, ?_⟩) ?_ ?_
  rotate_left
  · intro w'
    go_simp
    with_reducible rfl
  rotate_left
  · simp only [Act.put, List.setIfInBounds_toArray, List.set_cons_zero, List.set_cons_succ, i64_w, i32_w]
    rfl
  refine done_ (by kernel_rfl) ?_
  have HB4 := Aside0.mk (Kp.from hbw hk4 (fun b hb => by have := Own.ge ho2 hb; have := (below_drew HB.out).size; omega))
  have hz3 := blk_below (blk_below (blk_drew HZ.out) hb2) hb3
  have HZ4 := Aside0.mk (hk4.blk hz3 (fun h => Own.ne (ho2.below hb3) hz3 (by decide) h))
  have HO4 := Aside0.mk ho4.rd
  clear hbw hb2 hb3 ho2 ho4 hr4 hk4 hz3 hsub r0 r1 r2 r3 r4
  have r0 : (w4).cell? ⟨w.heap.size, 0, none⟩ = some (.int .u64 H.id) := blk_cell HZ4.out 0
  have r1 : (w4).cell? ⟨w.heap.size, 1, none⟩ = some (.int .u64 H.key) := blk_cell HZ4.out 1
  have r2 : (w4).cell? ⟨w.heap.size, 2, none⟩ = some (.int .i64 H.data) := blk_cell HZ4.out 2
  have r3 : (w4).cell? ⟨w.heap.size, 3, none⟩ = some (.int .i64 H.fields) := blk_cell HZ4.out 3
  have r4 : (w4).cell? ⟨w.heap.size, 4, none⟩ = some (.int .u64 H.made) := blk_cell HZ4.out 4

  go_wp2_with fail
  refine (HL.out _ _ _ HO4.out).mono ?_
  rintro e w5 ⟨g, rfl, ⟨vb, va, hI⟩, hb⟩
  have HI := Aside0.mk hI
  have HB5 := Aside0.mk (below_step HB4.out hb)
  clear hI hb
  go_wp2_with fail
  go_ret
  exact ⟨_, rfl, ⟨_, _, _, HB4.out.size, HI.out⟩, HB5.out⟩
end Go.Proofs.Ytigdchfjcfljjaa
end
section
/- The document's image: Object. -/
namespace Go.Proofs.Ytigdchfjcfljjaa
open Go.RowKit Go.Proofs.YtigdchfjcfljjaaW.PrintWords Go.Proofs.YtigdchfjcfljjaaW.PrintLast Go.Proofs.YtigdchfjcfljjaaW.PrintMore
attribute [local go_sem] max2_int min2_int max_two min_two max_three min_three max_four min_four   -- for this text's walks alone
set_option linter.unusedVariables false
set_option linter.unusedSimpArgs false

end Go.Proofs.Ytigdchfjcfljjaa
end
