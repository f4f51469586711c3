/- Slices of the call's own that may begin inside their block: read, cut, appended to. -/
import Derived.Test.YtplmdgimodgekaaKp
import Derived.ArgAppend
namespace Go.Proofs.Ytplmdgimodgekaa
open Go.RowKit Go.Proofs.YtplmdgimodgekaaW.PrintWords Go.Proofs.YtplmdgimodgekaaW.PrintLast Go.Proofs.YtplmdgimodgekaaW.PrintMore
set_option linter.unusedVariables false
set_option linter.unusedSimpArgs false

def OwnO {α : Type} (enc : α → Value) (W : World) (base e : Nat) (v : Value) (xs : List α) : Prop :=
  (v = .slice none 0 0 ∧ xs = []) ∨ ∃ g o cap cur, v = .slice (some ⟨g, o, none⟩) xs.length cap ∧ base ≤ g ∧ W.heap[g]? = some (.cells cur e (0, 0)) ∧ xs.length ≤ cap ∧ cap ≤ 9223372036854775807 ∧ o + cap ≤ cur.size ∧ (cur.toList.drop o).take xs.length = encs enc xs
section
variable {α : Type} {enc : α → Value} {d : α} {W W' : World} {base e : Nat} {v u : Value} {xs ys : List α}
theorem OwnO.nil (enc : α → Value) (W : World) (base e : Nat) : OwnO enc W base e (.slice none 0 0) [] := .inl ⟨rfl, rfl⟩
theorem OwnO.of_own (h : Own enc W base e v xs) : OwnO enc W base e v xs := by
  obtain ⟨hl, h⟩ := h
  rcases h with ⟨rfl, h0⟩ | ⟨g, cap, cur, rfl, hb, hg, hn, hm, hc, ht⟩
  · exact .inl ⟨rfl, List.eq_nil_of_length_eq_zero h0⟩
  · exact .inr ⟨g, 0, cap, cur, rfl, hb, hg, hn, by unfold maxLen at hm; omega, by omega, by simpa using ht⟩
theorem OwnO.move (h : OwnO enc W base e v xs) (hm : ∀ k, v.ownBlock = some k → W'.heap[k]? = W.heap[k]?) : OwnO enc W' base e v xs := by
  rcases h with h | ⟨g, o, cap, cur, rfl, hb, hg, r⟩
  · exact .inl h
  · exact .inr ⟨g, o, cap, cur, rfl, hb, (hm g rfl).trans hg, r⟩
theorem OwnO.lt (h : OwnO enc W base e v xs) {k : Nat} (hk : v.ownBlock = some k) : k < W.heap.size := by
  rcases h with ⟨rfl, _⟩ | ⟨g, o, cap, cur, rfl, hb, hg, r⟩
  · cases hk
  · injection hk with hk
    subst hk
    exact blk_lt hg
theorem OwnO.ge (h : OwnO enc W base e v xs) {k : Nat} (hk : v.ownBlock = some k) : base ≤ k := by
  rcases h with ⟨rfl, _⟩ | ⟨g, o, cap, cur, rfl, hb, hg, r⟩
  · cases hk
  · injection hk with hk
    subst hk
    exact hb
theorem OwnO.below (h : OwnO enc W base e v xs) (hb : Below W.heap.size W W') : OwnO enc W' base e v xs := h.move fun k hk => hb.block k (h.lt hk)
theorem OwnO.weaken {b : Nat} (h : OwnO enc W base e v xs) (hb : b ≤ base) : OwnO enc W b e v xs := by
  rcases h with h | ⟨g, o, cap, cur, rfl, hb', hg, r⟩
  · exact .inl h
  · exact .inr ⟨g, o, cap, cur, rfl, by omega, hg, r⟩
theorem OwnO.ne {g t : Nat} {cs : Array Value} (h : OwnO enc W base e v xs) (hg : W.heap[g]? = some (.cells cs t (0, 0))) (hne : e ≠ t) : v.ownBlock ≠ some g := fun hk => by
  rcases h with ⟨rfl, _⟩ | ⟨g', o, cap, cur, rfl, hb', hg', r⟩
  · cases hk
  · injection hk with hk
    subst hk
    rw [hg] at hg'
    injection hg' with hg'
    injection hg' with _ hg'
    exact hne hg'.symm
theorem OwnO.slice (h : OwnO enc W base e v xs) : ∃ A c, v = .slice A xs.length c := by
  rcases h with ⟨rfl, rfl⟩ | ⟨g, o, cap, cur, rfl, _⟩
  · exact ⟨none, 0, rfl⟩
  · exact ⟨_, _, rfl⟩
theorem OwnO.cells {g o n cap : Nat} (h : OwnO enc W base e (.slice (some ⟨g, o, none⟩) n cap) xs) (d : α) (j : Nat) (hj : j < xs.length) : W.cell? ((⟨g, o, none⟩ : Addr).add j) = some (enc (xs.getD j d)) := by
  rcases h with ⟨h, _⟩ | ⟨g', o', cap', cur, h, hb, hg, hn, hm, hs, ht⟩
  · cases h
  · simp only [Value.slice.injEq, Option.some.injEq, Addr.mk.injEq] at h
    obtain ⟨⟨rfl, rfl, _⟩, _, rfl⟩ := h
    rw [Addr.add_lit]
    have := congrArg (fun l => l[j]?) ht
    simp only [List.getElem?_take_of_lt hj, List.getElem?_drop, encs, List.getElem?_map, List.getElem?_eq_getElem hj, Option.map_some] at this
    simp only [World.cell?, hg]
    rw [List.getD_eq_getElem?_getD, List.getElem?_eq_getElem hj]
    simpa using this
theorem OwnO.rdE (h : OwnO enc W base e v xs) (d : α) : RdE enc d W v xs := by
  rcases h with ⟨rfl, rfl⟩ | ⟨g, o, cap, cur, rfl, hb, hg, hn, hm, hs, ht⟩
  · exact ⟨none, 0, rfl, Nat.le_refl _, rfl, by simp, fun h => by simp at h⟩
  · exact ⟨_, _, rfl, hn, rfl, by omega, fun _ => ⟨_, rfl, fun j hj => OwnO.cells (W := W) (.inr ⟨g, o, cap, cur, rfl, hb, hg, hn, hm, hs, ht⟩) d j hj⟩⟩
theorem OwnO.rd {k : IntKind} {v : Value} {xs : List Int} (h : OwnO (Value.int k) W base e v xs) : Rd W k v xs := OwnO.rdE h 0
end
/-- v[k:] -/
theorem OwnO.cut {P : Program} {α : Type} {enc : α → Value} (t e : TypeId) {i : TypeInfo} (ht : P.underlying t = some (.slice e)) (hi : P.info? e = some i) (hsz : i.size = 1) {W0 : World} {base : Nat} {v : Value} {xs : List α} (h : OwnO enc W0 base e v xs) (k : Int) (k0 : 0 ≤ k) (hk : k ≤ xs.length) :
    ∃ v', (∀ W : World, (Instr.slice t v (some (.int .i64 k)) none none).run P W = .ok v' W) ∧ (∀ w : World, OwnO enc w base e v xs → OwnO enc w base e v' (xs.drop k.toNat)) ∧ v'.ownBlock = v.ownBlock := by
  obtain ⟨m, rfl⟩ := Int.eq_ofNat_of_zero_le k0
  have hel : P.elem t = e := by simp [Program.elem, ht]
  have hu : P.underlying t = some (.slice (P.elem t)) := by rw [hel]; exact ht
  have run : ∀ (A : Option Addr) (n c : Nat), m ≤ n → ∀ W : World, (Instr.slice t (.slice A n c) (some (.int .i64 (m : Int))) none none).run P W = .ok (.slice (if c = m then A else A.map (·.add m)) (n - m) (c - m)) W := by
    intro A n c hm W
    rw [run_slice_l W t A n c hu .i64 (m : Int) (Int.natCast_nonneg _) (by omega), hel]
    simp [sizeOf, typeInfo, hi, hsz, sliced, Result.andThen]
  have hmn : m ≤ xs.length := by omega
  rcases h with ⟨rfl, rfl⟩ | ⟨g, o, cap, cur, rfl, hb, hg, hn, hm, hs, htk⟩
  · obtain rfl : m = 0 := by simpa using hmn
    exact ⟨_, run none 0 0 (Nat.le_refl _), fun w hw => by simpa using hw, by simp [Value.ownBlock]⟩
  · refine ⟨_, run (some ⟨g, o, none⟩) xs.length cap hmn, fun w hw => ?_, ?_⟩
    · rcases hw with ⟨hw, _⟩ | ⟨g', o', cap', cur', hw, hb', hg', hn', hm', hs', ht'⟩
      · cases hw
      · simp only [Value.slice.injEq, Option.some.injEq, Addr.mk.injEq] at hw
        obtain ⟨⟨rfl, rfl, _⟩, _, rfl⟩ := hw
        have htt : ∀ j : Nat, ((cur'.toList.drop o).drop m).take (xs.length - m) = encs enc (xs.drop m) := fun _ => by
          rw [← List.drop_take, ht', encs, encs, List.map_drop]
        by_cases hc : cap = m
        · rw [if_pos hc]
          refine .inr ⟨g, o, cap - m, cur', by simp, hb', hg', by simp; omega, by omega, by omega, ?_⟩
          have h0 : (xs.drop (Int.ofNat m).toNat) = [] := List.drop_eq_nil_of_le (by simp; omega)
          rw [show (Int.ofNat m) = (m : Int) from rfl] at h0
          rw [h0]; simp [encs]
        · rw [if_neg hc]
          refine .inr ⟨g, o + m, cap - m, cur', by simp [Addr.add_lit], hb', hg', by simp; omega, by omega, by omega, ?_⟩
          have := htt 0
          rw [List.drop_drop] at this
          simpa using this
    · split <;> simp [Value.ownBlock, Addr.add_lit]
/-- append: what is read, behind what is the call's own. -/
theorem app_runO {P : Program} {α : Type} (enc : α → Value) (d : α) (h1 : ∀ x, (enc x).oneCell' = true) (t ty e : TypeId) (z : Value) (bytes : Nat) (ht : P.underlying t = some (.slice e)) (hinfo : (P.info? e).map (fun i => (i.zero, i.size, i.bytes)) = some (some z, 1, bytes)) (hz : z.cells.size = 1) (hb0 : 0 < bytes)
    {W : World} {base : Nat} {v u : Value} {xs ys : List α} (HO : OwnO enc W base e v xs) (HR : RdE enc d W u ys) (hbase : base ≤ W.heap.size) (hl : (xs.length + ys.length) * bytes ≤ 140737488355328) :
    ∃ v1 w1, (Builtin.append_ #[t, t] ty #[v, u]).run P W = .ok v1 w1 ∧ OwnO enc w1 base e v1 (xs ++ ys) ∧ W.grownBy w1 v.ownBlock ∧ (v1.ownBlock = v.ownBlock ∨ ∃ b, v1.ownBlock = some b ∧ W.heap.size ≤ b) := by
  rcases HO with ⟨rfl, rfl⟩ | ⟨g, o, cap, cur, rfl, hb, hg, hn, hm, hs, htk⟩
  · obtain ⟨v1, w1, a, b, c, d'⟩ := app_run (P := P) enc d h1 t ty e z bytes ht hinfo hz hb0 (Own.nil enc W base e) HR hbase hl
    exact ⟨v1, w1, a, .of_own b, c, d'⟩
  · have HO : OwnO enc W base e (.slice (some ⟨g, o, none⟩) xs.length cap) xs := .inr ⟨g, o, cap, cur, rfl, hb, hg, hn, hm, hs, htk⟩
    obtain ⟨A, c, rfl, hc, HR⟩ := HR
    obtain ⟨i, hi, hzz⟩ := Option.map_eq_some_iff.1 hinfo
    simp only [Prod.mk.injEq] at hzz
    obtain ⟨hz0, hz1, hz2⟩ := hzz
    have hlen : xs.length + ys.length ≤ 140737488355328 := Nat.le_trans (Nat.le_mul_of_pos_right _ hb0) hl
    rcases A with _ | ad
    · have h0 : ys.length = 0 := by
        rcases Nat.eq_zero_or_pos ys.length with h0 | h0
        · exact h0
        · obtain ⟨ad, h, _⟩ := HR.2.2 h0
          cases h
      obtain rfl : ys = [] := List.eq_nil_of_length_eq_zero h0
      refine ⟨_, W, ?_, by simpa using HO, World.grownBy.refl W _, .inl rfl⟩
      simp [Builtin.append_, run_underlying ht, sizeOf, typeInfo, hi, Builtin.lenOf, Builtin.firstCells, hn, storeCells]
    · have hcells : ∀ j u, (encs enc ys)[j]? = some u → W.cell? (ad.add j) = some u := by
        intro j u hu
        have hj : j < ys.length := by
          rcases Nat.lt_or_ge j ys.length with h | h
          · exact h
          · simp [encs, List.getElem?_eq_none h] at hu
        obtain ⟨ad', h', hc⟩ := HR.2.2 (by omega)
        injection h' with h'
        subst h'
        rw [encs_get (d := d) ys j hj] at hu
        rw [← hu]
        exact hc j (by omega)
      have hone : ∀ u ∈ encs enc ys, u.oneCell' = true := by intro u hu; simp only [encs, List.mem_map] at hu; obtain ⟨q, _, rfl⟩ := hu; exact h1 q
      have hly : (encs enc ys).length = ys.length := by simp [encs]
      have hlx : (encs enc xs).length = xs.length := by simp [encs]
      by_cases hroom : xs.length + ys.length ≤ cap
      · have hfc := run_firstCells_some (P := P) W i.size ys.length ad ys.length c (encs enc ys) (by rw [hz1, hly]; omega) hcells
        have hst := run_storeCells_at P g (o + xs.length) e (encs enc ys) 0 cur W hg (by rw [hly]; omega) hone
        simp only [Nat.add_zero] at hst
        rw [hz1] at hfc
        have hcl : cur.toList.length = cur.size := Array.length_toList
        have hon : o + xs.length ≤ cur.toList.length := by omega
        have e2 : (List.take (o + xs.length) cur.toList).length = o + xs.length := by rw [List.length_take]; omega
        refine ⟨.slice (some ⟨g, o, none⟩) (xs.length + ys.length) cap, W.setRow g (cur.toList.take (o + xs.length) ++ encs enc ys ++ cur.toList.drop (o + xs.length + (encs enc ys).length)).toArray, ?_, .inr ⟨g, o, cap, (cur.toList.take (o + xs.length) ++ encs enc ys ++ cur.toList.drop (o + xs.length + (encs enc ys).length)).toArray, by rw [List.length_append], hb, setRow_heap W g cur _ e _ hg, by rw [List.length_append]; exact hroom, hm, ?_, ?_⟩, ⟨rfl, rfl, rfl, by simp, fun k _ hk => setRow_other W g k _ (fun e => hk (by simp [Value.ownBlock, e]))⟩, .inl rfl⟩
        · simp [Builtin.append_, run_underlying ht, sizeOf, typeInfo, hi, Builtin.lenOf, hroom, hfc, Addr.add_lit, hz1, hst]
        · simp only [List.size_toArray, List.length_append, List.length_take, List.length_drop, Array.length_toList, hly]
          omega
        · have e1 : (List.take (o + xs.length) cur.toList).drop o = encs enc xs := by rw [List.drop_take, Nat.add_sub_cancel_left, htk]
          simp only [List.append_assoc]
          rw [List.drop_append_of_le_length (by rw [e2]; omega), e1, ← List.append_assoc, List.take_append_of_le_length (by rw [List.length_append, List.length_append, hly, hlx]; omega), List.take_of_length_le (by rw [List.length_append, List.length_append, hly, hlx]; omega), encs, encs, encs, List.map_append]
      · obtain ⟨v', w', hr, hO, hg'⟩ := run_append_arg_grows (P := P) W t ty e i z 1 bytes ht hi hz0 hz1 hz2 hz (by omega) ⟨g, o, none⟩ xs.length cap (encs enc xs) (by rw [hlx]; omega)
          (fun j u hu => by
            have hj : j < xs.length := by rw [← hlx]; exact (List.getElem?_eq_some_iff.1 hu).1
            rw [encs_get (d := d) xs j hj] at hu
            rw [← hu]
            exact HO.cells d j hj)
          ad ys.length c (encs enc ys) (by rw [hly]; omega) hcells (by omega) (by simp only [maxLen]; omega) hl
        have hO' : Own enc w' W.heap.size e v' (xs ++ ys) := by unfold Own; simpa [encs] using hO
        have hO2 := OwnO.of_own hO'
        refine ⟨v', w', hr, hO2.weaken hbase, ⟨hg'.os, hg'.tape, hg'.output, hg'.size, fun k hk _ => hg'.block k hk (by simp)⟩, ?_⟩
        cases hv : v'.ownBlock with
        | none =>
          exfalso
          rcases hO2 with ⟨rfl, h0⟩ | ⟨g1, o1, c1, cur1, rfl, _⟩
          · have := congrArg List.length h0
            rw [List.length_append, List.length_nil] at this
            omega
          · cases hv
        | some b => exact .inr ⟨b, rfl, hO'.ge hv⟩
end Go.Proofs.Ytplmdgimodgekaa
