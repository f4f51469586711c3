/- append: and the cells of the row before it stand. -/
import Derived.Test.YtplmdgimodgekaaOwnO
namespace Go.Proofs.Ytplmdgimodgekaa
open Go.RowKit Go.Proofs.YtplmdgimodgekaaW.PrintWords Go.Proofs.YtplmdgimodgekaaW.PrintLast Go.Proofs.YtplmdgimodgekaaW.PrintMore
set_option linter.unusedVariables false
set_option linter.unusedSimpArgs false

/-- append: what is read, behind what is the call's own. -/
theorem app_runK {P : Program} {α : Type} (enc : α → Value) (d : α) (h1 : ∀ x, (enc x).oneCell' = true) (t ty e : TypeId) (z : Value) (bytes : Nat) (ht : P.underlying t = some (.slice e)) (hinfo : (P.info? e).map (fun i => (i.zero, i.size, i.bytes)) = some (some z, 1, bytes)) (hz : z.cells.size = 1) (hb0 : 0 < bytes)
    {W : World} {base : Nat} {v u : Value} {xs ys : List α} (HO : OwnO enc W base e v xs) (HR : RdE enc d W u ys) (hbase : base ≤ W.heap.size) (hl : (xs.length + ys.length) * bytes ≤ 140737488355328) :
    ∃ v1 w1, (Builtin.append_ #[t, t] ty #[v, u]).run P W = .ok v1 w1 ∧ OwnO enc w1 base e v1 (xs ++ ys) ∧ W.grownBy w1 v.ownBlock ∧ ∀ (A : Addr) (n c : Nat), v = .slice (some A) n c → ∀ j, j < xs.length → w1.cell? (A.add j) = some (enc (xs.getD j d)) := by
  rcases HO with ⟨rfl, rfl⟩ | ⟨g, o, cap, cur, rfl, hb, hg, hn, hm, hs, htk⟩
  · obtain ⟨v1, w1, a, b, c, d'⟩ := app_run (P := P) enc d h1 t ty e z bytes ht hinfo hz hb0 (Own.nil enc W base e) HR hbase hl
    exact ⟨v1, w1, a, .of_own b, c, fun A n c h => by cases h⟩
  · have HO : OwnO enc W base e (.slice (some ⟨g, o, none⟩) xs.length cap) xs := .inr ⟨g, o, cap, cur, rfl, hb, hg, hn, hm, hs, htk⟩
    obtain ⟨A, c, rfl, hc, HR⟩ := HR
    obtain ⟨i, hi, hzz⟩ := Option.map_eq_some_iff.1 hinfo
    simp only [Prod.mk.injEq] at hzz
    obtain ⟨hz0, hz1, hz2⟩ := hzz
    have hlen : xs.length + ys.length ≤ 140737488355328 := Nat.le_trans (Nat.le_mul_of_pos_right _ hb0) hl
    rcases A with _ | ad
    · have h0 : ys.length = 0 := by
        rcases Nat.eq_zero_or_pos ys.length with h0 | h0
        · exact h0
        · obtain ⟨ad, h, _⟩ := HR.2.2 h0
          cases h
      obtain rfl : ys = [] := List.eq_nil_of_length_eq_zero h0
      refine ⟨_, W, ?_, by simpa using HO, World.grownBy.refl W _, fun A n c h j hj => ?_⟩
      · simp [Builtin.append_, run_underlying ht, sizeOf, typeInfo, hi, Builtin.lenOf, Builtin.firstCells, hn, storeCells]
      · simp only [Value.slice.injEq, Option.some.injEq] at h
        obtain ⟨rfl, _, _⟩ := h
        exact HO.cells d j hj
    · have hcells : ∀ j u, (encs enc ys)[j]? = some u → W.cell? (ad.add j) = some u := by
        intro j u hu
        have hj : j < ys.length := by
          rcases Nat.lt_or_ge j ys.length with h | h
          · exact h
          · simp [encs, List.getElem?_eq_none h] at hu
        obtain ⟨ad', h', hc⟩ := HR.2.2 (by omega)
        injection h' with h'
        subst h'
        rw [encs_get (d := d) ys j hj] at hu
        rw [← hu]
        exact hc j (by omega)
      have hone : ∀ u ∈ encs enc ys, u.oneCell' = true := by intro u hu; simp only [encs, List.mem_map] at hu; obtain ⟨q, _, rfl⟩ := hu; exact h1 q
      have hly : (encs enc ys).length = ys.length := by simp [encs]
      have hlx : (encs enc xs).length = xs.length := by simp [encs]
      by_cases hroom : xs.length + ys.length ≤ cap
      · have hfc := run_firstCells_some (P := P) W i.size ys.length ad ys.length c (encs enc ys) (by rw [hz1, hly]; omega) hcells
        have hst := run_storeCells_at P g (o + xs.length) e (encs enc ys) 0 cur W hg (by rw [hly]; omega) hone
        simp only [Nat.add_zero] at hst
        rw [hz1] at hfc
        have hcl : cur.toList.length = cur.size := Array.length_toList
        have hon : o + xs.length ≤ cur.toList.length := by omega
        have e2 : (List.take (o + xs.length) cur.toList).length = o + xs.length := by rw [List.length_take]; omega
        have key : OwnO enc (W.setRow g (cur.toList.take (o + xs.length) ++ encs enc ys ++ cur.toList.drop (o + xs.length + (encs enc ys).length)).toArray) base e (.slice (some ⟨g, o, none⟩) (xs.length + ys.length) cap) (xs ++ ys) := by
          refine .inr ⟨g, o, cap, (cur.toList.take (o + xs.length) ++ encs enc ys ++ cur.toList.drop (o + xs.length + (encs enc ys).length)).toArray, by rw [List.length_append], hb, setRow_heap W g cur _ e _ hg, by rw [List.length_append]; exact hroom, hm, ?_, ?_⟩
          · simp only [List.size_toArray, List.length_append, List.length_take, List.length_drop, Array.length_toList, hly]
            omega
          · have e1 : (List.take (o + xs.length) cur.toList).drop o = encs enc xs := by rw [List.drop_take, Nat.add_sub_cancel_left, htk]
            simp only [List.append_assoc]
            rw [List.drop_append_of_le_length (by rw [e2]; omega), e1, ← List.append_assoc, List.take_append_of_le_length (by rw [List.length_append, List.length_append, hly, hlx]; omega), List.take_of_length_le (by rw [List.length_append, List.length_append, hly, hlx]; omega), encs, encs, encs, List.map_append]
        refine ⟨.slice (some ⟨g, o, none⟩) (xs.length + ys.length) cap, W.setRow g (cur.toList.take (o + xs.length) ++ encs enc ys ++ cur.toList.drop (o + xs.length + (encs enc ys).length)).toArray, ?_, key, ⟨rfl, rfl, rfl, by simp, fun k _ hk => setRow_other W g k _ (fun e => hk (by simp [Value.ownBlock, e]))⟩, fun A n c h j hj => ?_⟩
        · simp [Builtin.append_, run_underlying ht, sizeOf, typeInfo, hi, Builtin.lenOf, hroom, hfc, Addr.add_lit, hz1, hst]
        · simp only [Value.slice.injEq, Option.some.injEq] at h
          obtain ⟨rfl, _, _⟩ := h
          rw [OwnO.cells key d j (by rw [List.length_append]; omega), List.getD_eq_getElem?_getD, List.getElem?_append_left hj, ← List.getD_eq_getElem?_getD]
      · obtain ⟨v', w', hr, hO, hg'⟩ := run_append_arg_grows (P := P) W t ty e i z 1 bytes ht hi hz0 hz1 hz2 hz (by omega) ⟨g, o, none⟩ xs.length cap (encs enc xs) (by rw [hlx]; omega)
          (fun j u hu => by
            have hj : j < xs.length := by rw [← hlx]; exact (List.getElem?_eq_some_iff.1 hu).1
            rw [encs_get (d := d) xs j hj] at hu
            rw [← hu]
            exact HO.cells d j hj)
          ad ys.length c (encs enc ys) (by rw [hly]; omega) hcells (by omega) (by simp only [maxLen]; omega) hl
        have hO' : Own enc w' W.heap.size e v' (xs ++ ys) := by unfold Own; simpa [encs] using hO
        have hO2 := OwnO.of_own hO'
        refine ⟨v', w', hr, hO2.weaken hbase, ⟨hg'.os, hg'.tape, hg'.output, hg'.size, fun k hk _ => hg'.block k hk (by simp)⟩, ?_⟩
        intro A n c h j hj
        simp only [Value.slice.injEq, Option.some.injEq] at h
        obtain ⟨rfl, _, _⟩ := h
        have hc := HO.cells d j hj
        have hb := hg'.block _ (World.block_lt_of_cell? W _ hc) (by simp)
        simp only [World.cell?] at hc ⊢
        rw [hb]
        exact hc
end Go.Proofs.Ytplmdgimodgekaa
