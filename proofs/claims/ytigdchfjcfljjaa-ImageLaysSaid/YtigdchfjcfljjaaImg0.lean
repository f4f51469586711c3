/- Images: what stands in memory; copies into rows of a call's own; slices.Clone. -/
import Derived.Test.YtigdchfjcfljjaaAppZ
import Derived.Test.YtigdchfjcfljjaaCpy
import Derived.Test.YtigdchfjcfljjaaLe2
import Derived.Test.YtigdchfjcfljjaaMk
import Derived.WalkSpells
namespace Go.Proofs.Ytigdchfjcfljjaa
open Go.RowKit Go.Proofs.YtigdchfjcfljjaaW.PrintWords Go.Proofs.YtigdchfjcfljjaaW.PrintLast Go.Proofs.YtigdchfjcfljjaaW.PrintMore
attribute [local go_sem] max2_int min2_int max_two min_two max_three min_three max_four min_four   -- for this text's walks alone
set_option linter.unusedVariables false
set_option linter.unusedSimpArgs false

/-- A header's numbers. -/
structure Hd where
  id : Int
  key : Int
  data : Int
  fields : Int
  made : Int
/-- The blocks of F, and what was made on the way. -/
def ext (F : Nat → Prop) (W W' : World) : Nat → Prop := fun k => F k ∨ (W.heap.size ≤ k ∧ k < W'.heap.size)
def imA (H : Hd) (vb : Value) (lim fr : Int) (vw : Value) : Array Value := #[.int .u64 H.id, .int .u64 H.key, .int .i64 H.data, .int .i64 H.fields, .int .u64 H.made, vb, .int .i64 lim, .int .i64 fr, vw]
/-- An image of the program's: header, bytes, limit, old end, words that were set. -/
def Im (W : World) (g base : Nat) (H : Hd) (B : List Int) (lim fr : Int) (ws : List Int) (F : Nat → Prop) (vb vw : Value) : Prop :=
  W.heap[g]? = some (.cells (imA H vb lim fr vw) 177 (0, 0)) ∧ OwnO (Value.int .u8) W base 5 vb B ∧ OwnO (Value.int .i64) W base 3 vw ws ∧ F g ∧ (∀ k, vb.ownBlock = some k → F k) ∧ (∀ k, vw.ownBlock = some k → F k) ∧ (∀ k, F k → base ≤ k ∧ k < W.heap.size)
section
variable {W W' : World} {g base : Nat} {H : Hd} {B ws : List Int} {lim fr : Int} {F S : Nat → Prop} {vb vw : Value}
theorem Im.move (h : Im W g base H B lim fr ws F vb vw) (hm : ∀ k, F k → W'.heap[k]? = W.heap[k]?) (hs : W.heap.size ≤ W'.heap.size) : Im W' g base H B lim fr ws F vb vw := by
  obtain ⟨h1, h2, h3, h4, h5, h6, h7⟩ := h
  exact ⟨(hm g h4).trans h1, h2.move (fun k hk => hm k (h5 k hk)), h3.move (fun k hk => hm k (h6 k hk)), h4, h5, h6, fun k hk => ⟨(h7 k hk).1, Nat.lt_of_lt_of_le (h7 k hk).2 hs⟩⟩
theorem Im.below (h : Im W g base H B lim fr ws F vb vw) (hb : Below W.heap.size W W') : Im W' g base H B lim fr ws F vb vw := h.move (fun k hk => hb.block k (h.2.2.2.2.2.2 k hk).2) hb.size
theorem Im.kp (h : Im W g base H B lim fr ws F vb vw) (hk : Kp S W W') (hn : ∀ k, F k → ¬ S k) : Im W' g base H B lim fr ws F vb vw := h.move (fun k hf => hk.block k (h.2.2.2.2.2.2 k hf).2 (hn k hf)) hk.size
theorem Im.blk (h : Im W g base H B lim fr ws F vb vw) : W.heap[g]? = some (.cells (imA H vb lim fr vw) 177 (0, 0)) := h.1
theorem Im.b (h : Im W g base H B lim fr ws F vb vw) : OwnO (Value.int .u8) W base 5 vb B := h.2.1
theorem Im.w (h : Im W g base H B lim fr ws F vb vw) : OwnO (Value.int .i64) W base 3 vw ws := h.2.2.1
theorem Im.lt (h : Im W g base H B lim fr ws F vb vw) {k : Nat} (hk : F k) : k < W.heap.size := (h.2.2.2.2.2.2 k hk).2
theorem Im.ge (h : Im W g base H B lim fr ws F vb vw) {k : Nat} (hk : F k) : base ≤ k := (h.2.2.2.2.2.2 k hk).1
theorem Im.g_lt (h : Im W g base H B lim fr ws F vb vw) : g < W.heap.size := h.lt h.2.2.2.1
theorem Im.bs (h : Im W g base H B lim fr ws F vb vw) : base ≤ W.heap.size := Nat.le_trans (h.ge h.2.2.2.1) (Nat.le_of_lt h.g_lt)
theorem Im.b_ne (h : Im W g base H B lim fr ws F vb vw) : vb.ownBlock ≠ some g := h.b.ne h.blk (by decide)
theorem Im.w_ne (h : Im W g base H B lim fr ws F vb vw) : vw.ownBlock ≠ some g := h.w.ne h.blk (by decide)
end
/-- What an operation leaves of an image. -/
def ImS (W W' : World) (g base : Nat) (H : Hd) (B : List Int) (lim fr : Int) (ws : List Int) (F : Nat → Prop) : Prop := (∃ vb vw, Im W' g base H B lim fr ws (ext F W W') vb vw) ∧ Kp F W W'
theorem ImS.same {W W' : World} {g base : Nat} {H : Hd} {B ws : List Int} {lim fr : Int} {F : Nat → Prop} {vb vw : Value} (h : Im W g base H B lim fr ws F vb vw) (hb : Below W.heap.size W W') : ImS W W' g base H B lim fr ws F := by
  obtain ⟨h1, h2, h3, h4, h5, h6, h7⟩ := h.below hb
  have hbase := h.bs
  exact ⟨⟨vb, vw, h1, h2, h3, .inl h4, fun k hk => .inl (h5 k hk), fun k hk => .inl (h6 k hk), fun k hk => hk.elim (h7 k) (fun hh => ⟨Nat.le_trans hbase hh.1, hh.2⟩)⟩, Kp.of_below hb _⟩
/-- copy: some numbers into a row of the call's own, at a place of it. -/
theorem copyO_step {P : Program} {ops : Array Oper} {o : Oper} {a : Act} {w : World} {Kc : Act → World → Prop} {Q : Exit → Act → World → Prop} (hw : Region.wanted o (yielded ops a.tmps) = true) (d s : Operand) {dT sT : TypeId}
    (ho : o.op = .call { callee := .builtin .copy, args := #[d, s], argTypes := #[dT, sT] }) {elem : TypeId} (hu : P.underlying dT = some (.slice elem)) (hsz : (P.info? elem).map (·.size) = some 1)
    {g off j dLen dCap nn cc base t : Nat} {ad : Addr} {n sLen sCap : Nat} {k : IntKind} {L : List Int} (HO : OwnO (Value.int k) w base t (.slice (some ⟨g, off, none⟩) nn cc) L) (hd : a.eval d = .slice (some ⟨g, off + j, none⟩) dLen dCap) (hs : a.eval s = .slice (some ad) sLen sCap) (cs : List Int)
    (hc : cs.length = n) (hn : n = Nat.min sLen dLen) (hsrc : ∀ i, i < n → w.cell? (ad.add i) = some (.int k (cs.getD i 0))) (hfit : j + n ≤ nn)
    (h : ∀ w', OwnO (Value.int k) w' base t (.slice (some ⟨g, off, none⟩) nn cc) (splice L j cs) → Kp (fun b => b = g) w w' → Kc (a.put o.dst (goInt n)) w') : if Region.wanted o (yielded ops a.tmps) = true then Oper.wp P o a w Kc Q else Kc (a.put o.dst undef) w := by
  rw [if_pos hw]
  rcases HO with ⟨hv, _⟩ | ⟨g', o', cap, cur, hv, hb, hg, hln, hm, hsz2, htk⟩
  · cases hv
  · simp only [Value.slice.injEq, Option.some.injEq, Addr.mk.injEq] at hv
    obtain ⟨⟨rfl, rfl, _⟩, rfl, rfl⟩ := hv
    have hcl : cur.toList.length = cur.size := Array.length_toList
    have e : (nums k cs).length = n := by simp [nums, hc]
    have hrun := run_copy_row (P := P) w dT sT o.type elem g (off + j) dLen dCap ad sLen sCap cur t (nums k cs) hu hsz hg (by rw [e]; exact hn) (fun i v hj => by
      simp only [nums, List.getElem?_map] at hj
      cases e : cs[i]? with
      | none => rw [e] at hj; cases hj
      | some x =>
        rw [e] at hj
        injection hj with hj
        have hjn : i < cs.length := (List.getElem?_eq_some_iff.1 e).1
        rw [hsrc i (by omega), List.getD_eq_getElem?_getD, e, ← hj]; rfl) (by rw [e]; omega) (fun v hv => by simp only [nums, List.mem_map] at hv; obtain ⟨z, _, rfl⟩ := hv; rfl)
    unfold Oper.wp
    simp [execOp, ho, resolve, invoke, builtin, hd, hs, hrun, Result.andThen]
    rw [e]
    refine h (w.setRow g (List.take (off + j) cur.toList ++ (nums k cs ++ List.drop (off + j + n) cur.toList)).toArray) ?_ (kp_setRow _ _ _)
    have hsl : (splice L j cs).length = L.length := by simp [splice]; omega
    have hg2 := setRow_heap w g cur (cur.toList.take (off + j) ++ (nums k cs ++ cur.toList.drop (off + j + n))).toArray _ (0, 0) hg
    refine .inr ⟨g, off, cc, _, by rw [hsl], hb, hg2, by rw [hsl]; exact hln, hm, ?_, ?_⟩
    · simp only [List.size_toArray, List.length_append, List.length_take, List.length_drop, e, hcl]; omega
    · rw [List.toList_toArray, hsl]
      have l1 : (List.take (off + j) cur.toList).length = off + j := by rw [List.length_take]; omega
      have hL : encs (Value.int k) L = (cur.toList.drop off).take L.length := htk.symm
      have hx : (List.take (off + j) cur.toList).drop off = (encs (Value.int k) L).take j := by
        rw [hL, List.take_take, Nat.min_eq_left (by omega), List.drop_take, Nat.add_sub_cancel_left]
      have hy : ((List.drop (off + j + n) cur.toList)).take (L.length - (j + n)) = (encs (Value.int k) L).drop (j + n) := by
        rw [hL, List.drop_take, List.drop_drop, ← Nat.add_assoc]
      have e3 : encs (Value.int k) (L.take j ++ (cs ++ L.drop (j + cs.length))) = (encs (Value.int k) L).take j ++ (nums k cs ++ (encs (Value.int k) L).drop (j + n)) := by simp only [encs, nums, List.map_append, List.map_take, List.map_drop, hc]
      rw [List.drop_append_of_le_length (by omega), hx, splice, e3]
      have l2 : ((encs (Value.int k) L).take j).length = j := by rw [List.length_take]; simp [encs]; omega
      rw [List.take_append, l2, List.take_of_length_le (show ((encs (Value.int k) L).take j).length ≤ L.length by omega), List.take_append, e, List.take_of_length_le (show (nums k cs).length ≤ L.length - j by omega), Nat.sub_sub, hy]
set_option maxHeartbeats 8000000 in
set_option maxRecDepth 100000 in
theorem Clone_calls (v : Value) (l : List Int) (w : World) (hr : Rd w .u8 v l) (hl : l.length ≤ 140737488355000) :
    Calls Try.prog 117 #[v] w fun e w' => ∃ v', e = .returned v' ∧ OwnO (Value.int .u8) w' w.heap.size 5 v' l ∧ Below w.heap.size w w' := by
  obtain ⟨A, c, rfl, hc, hrd⟩ := id hr
  cases A with
  | none =>
    have h0 : l = [] := by
      rcases Nat.eq_zero_or_pos l.length with h0 | h0
      · exact List.length_eq_zero_iff.1 h0
      · obtain ⟨ad, h, _⟩ := hrd.2.2 h0
        cases h
    subst h0
    clear hr hrd
    have hnil : ∀ W : World, (binOp .eql 22 (.slice none 0 c) (.slice none 0 0)).run Try.prog W = .ok (.bool true) W := fun W => by simpa using Lib.run_eql_slice_nil (P := Try.prog) W 22 5 none 0 c 0 0 Try.underlying22
    go_enter Try.func117, Try.ntmps117
    go_wp2_with fail
    go_ret
    exact ⟨_, rfl, OwnO.nil _ _ _ _, Below.refl _ _⟩
  | some ad =>
    have HO : OwnO (Value.int .u8) (w.alloc (.cells #[] 5)) w.heap.size 5 (.slice (some ⟨w.heap.size, 0, none⟩) 0 0) [] := OwnO.of_own (own_lit_of (enc := Value.int .u8) w w.heap.size 5 [] (Nat.le_refl _) (by simp))
    obtain ⟨A1, c1, w1, h1, h2, h3, _⟩ := app_rd (P := Try.prog) (d := (0 : Int)) (fun x => rfl) (t := 22) (ty := 22) Try.underlying22 infoU8 rfl (by omega) HO (rdE_int.2 (hr.below (below_alloc (Below.refl _ _) (.cells #[] 5)))) (k := 0) (m := l.length) rfl rfl (by simp) (by omega)
    rw [Nat.zero_add] at h1 h2
    rw [List.nil_append] at h2
    have H1 := Aside0.mk h1
    have H2 := Aside0.mk h2
    have H3 := Aside0.mk (Kp.from (below_alloc (Below.refl w.heap.size w) (.cells #[] 5)) h3 (fun b hb => HO.ge hb))
    clear h1 h2 h3 HO hr hrd
    have hnil : ∀ W : World, (binOp .eql 22 (.slice (some ad) l.length c) (.slice none 0 0)).run Try.prog W = .ok (.bool false) W := fun W => by simpa using Lib.run_eql_slice_nil (P := Try.prog) W 22 5 (some ad) l.length c 0 0 Try.underlying22
    go_enter Try.func117, Try.ntmps117
    go_wp2_with (first | ((with_reducible refine gate_builtin (b := .append) (xs := #[.tmp 5, .tmp 6]) rfl ?_); at_builtin; refine app_list rfl (.tmp 5) (.tmp 6) rfl rfl rfl H1.out ?_))
    go_ret
    exact ⟨_, rfl, H2.out, H3.out⟩
end Go.Proofs.Ytigdchfjcfljjaa
