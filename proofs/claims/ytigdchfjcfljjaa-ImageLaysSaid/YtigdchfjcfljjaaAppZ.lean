/- append of zeros: append(s, make([]byte, n)...). -/
import Derived.Test.YtigdchfjcfljjaaAp
import Derived.Lib.AppendZerosOnto
namespace Go.Proofs.Ytigdchfjcfljjaa
open Go.RowKit Go.Proofs.YtigdchfjcfljjaaW.PrintWords Go.Proofs.YtigdchfjcfljjaaW.PrintLast Go.Proofs.YtigdchfjcfljjaaW.PrintMore
set_option linter.unusedVariables false
set_option linter.unusedSimpArgs false
theorem zero_cells (n : Nat) : (Builtin.zeroCells (Value.int .u8 0).cells n).toList = encs (Value.int .u8) (List.replicate n (0 : Int)) := by
  apply List.ext_getElem
  · simp [Builtin.zeroCells, encs, Value.cells]
  · intro i h1 h2
    simp [Builtin.zeroCells, encs, Value.cells, Nat.mod_one]
theorem app_zeros {W : World} {base : Nat} {v : Value} {xs : List Int} {k : Nat} (n : Nat) (HO : OwnO (Value.int .u8) W base 5 v xs) (hk : xs.length = k) (hbase : base ≤ W.heap.size) (h0 : 0 < n) (hl : k + n ≤ 1000000) :
    ∃ A1 c1 w1, (Builtin.append_ #[22, 3] 22 #[v, .int .i64 (n : Int)]).run Try.prog W = .ok (.slice A1 (k + n) c1) w1 ∧ OwnO (Value.int .u8) w1 base 5 (.slice A1 (k + n) c1) (xs ++ List.replicate n 0) ∧ Kp (fun b => v.ownBlock = some b) W w1 ∧
      ((Value.slice A1 (k + n) c1).ownBlock = v.ownBlock ∨ ∃ b, (Value.slice A1 (k + n) c1).ownBlock = some b ∧ W.heap.size ≤ b) := by
  subst hk
  have hinfo := infoU8
  obtain ⟨i, hi, hzz⟩ := Option.map_eq_some_iff.1 hinfo
  simp only [Prod.mk.injEq] at hzz
  obtain ⟨hz0, hz1, hz2⟩ := hzz
  have ht := Try.underlying22
  have htn := Try.underlying3
  have hw : IntKind.i64.wrap (n : Int) = n := by rw [IntKind.wrap_i64]; omega
  have hneg : ¬ ((n : Int) < 0) := by omega
  have hnk : n ≠ 0 := by omega
  have hns : ¬ (n * i.size = 0) := Nat.mul_ne_zero hnk (by omega)
  have h48i : ¬ (281474976710656 < (n : Int) * (i.bytes : Int)) := by rw [hz2]; omega
  have hze := zero_cells n
  have hzl : (Builtin.zeroCells (Value.int .u8 0).cells n).size = n := by rw [size_zeroCells]; simp [Value.cells]
  have grow : ∀ (p : Option Addr) (c : Nat) (hold : (Builtin.firstCells i.size xs.length (.slice p xs.length c)).run Try.prog W.drew = .ok (encs (Value.int .u8) xs).toArray W.drew) (hg : c < xs.length + n) (hr : (Builtin.append_ #[22, 3] 22 #[.slice p xs.length c, .int .i64 (n : Int)]).run Try.prog W =
      .ok (.slice (some ⟨W.heap.size, 0, none⟩) (xs.length + n) (grownCap W (xs.length + n) c 5)) (W.drew.alloc (.cells ((encs (Value.int .u8) xs).toArray ++ Builtin.zeroCells (Value.int .u8 0).cells n ++ Builtin.zeroCells (Value.int .u8 0).cells (grownCap W (xs.length + n) c 5 - (xs.length + n))) 5))),
      ∃ A1 c1 w1, (Builtin.append_ #[22, 3] 22 #[.slice p xs.length c, .int .i64 (n : Int)]).run Try.prog W = .ok (.slice A1 (xs.length + n) c1) w1 ∧ OwnO (Value.int .u8) w1 base 5 (.slice A1 (xs.length + n) c1) (xs ++ List.replicate n 0) ∧ Kp (fun b => (Value.slice p xs.length c).ownBlock = some b) W w1 ∧
      ((Value.slice A1 (xs.length + n) c1).ownBlock = (Value.slice p xs.length c).ownBlock ∨ ∃ b, (Value.slice A1 (xs.length + n) c1).ownBlock = some b ∧ W.heap.size ≤ b) := by
    intro p c hold hg hr
    have hge := grownCap_ge W (xs.length + n) c 5
    have hcm := grownCap_le_maxLen W (xs.length + n) c 5 (by unfold maxLen; omega)
    unfold maxLen at hcm
    refine ⟨_, _, _, hr, .inr ⟨W.heap.size, 0, _, _, by rw [List.length_append, List.length_replicate], hbase, heap_alloc_new W.drew _, by rw [List.length_append, List.length_replicate]; exact hge, hcm, ?_, ?_⟩, ?_, .inr ⟨_, rfl, Nat.le_refl _⟩⟩
    · simp only [Array.size_append, List.size_toArray, size_zeroCells, encs, List.length_map]
      simp [Value.cells]
      omega
    · rw [Array.toList_append, Array.toList_append, hze, List.drop_zero, List.toList_toArray, List.take_append_of_le_length (by simp [encs]), List.take_of_length_le (by simp [encs])]
      simp [encs]
    · exact (Kp.of_below (below_drew (Below.refl _ W)) _).trans (Kp.of_below (below_alloc (Below.refl _ W.drew) _) _) (fun k hk => .inl hk)
  rcases HO with ⟨rfl, rfl⟩ | ⟨g, o, cap, cur, rfl, hb, hg, hn, hm, hs, htk⟩
  · have hr := Lib.run_append_nil_zeros (P := Try.prog) W 22 3 22 5 i (.int .u8 0) .i64 .i64 ht htn hi hz0 n h0 (by omega) (by omega) (by rw [hz2]; omega)
    have := grow none 0 (by simpa [encs] using run_firstCells_none (P := Try.prog) W.drew i.size 0 0 0) (by simp; omega) (by simpa [encs] using hr)
    simpa using this
  · by_cases hroom : xs.length + n ≤ cap
    · have hst := run_storeCells_at Try.prog g (o + xs.length) 5 (encs (Value.int .u8) (List.replicate n 0)) 0 cur W hg (by simp [encs]; omega) (fun u hu => by simp only [encs, List.mem_map] at hu; obtain ⟨q, _, rfl⟩ := hu; rfl)
      simp only [Nat.add_zero] at hst
      rw [← hze] at hst
      have hlx : (encs (Value.int .u8) xs).length = xs.length := by simp [encs]
      have hzl2 : (Builtin.zeroCells (Value.int .u8 0).cells n).toList.length = n := by rw [Array.length_toList]; exact hzl
      have hcl : cur.toList.length = cur.size := Array.length_toList
      have e2 : (List.take (o + xs.length) cur.toList).length = o + xs.length := by rw [List.length_take]; omega
      refine ⟨some ⟨g, o, none⟩, cap, W.setRow g (cur.toList.take (o + xs.length) ++ (Builtin.zeroCells (Value.int .u8 0).cells n).toList ++ cur.toList.drop (o + xs.length + (Builtin.zeroCells (Value.int .u8 0).cells n).toList.length)).toArray, ?_, .inr ⟨g, o, cap, _, by rw [List.length_append, List.length_replicate], hb, setRow_heap W g cur _ _ _ hg, by rw [List.length_append, List.length_replicate]; exact hroom, hm, ?_, ?_⟩, ?_, .inl rfl⟩
      · simp [Builtin.append_, run_underlying ht, run_underlying htn, sizeOf, typeInfo, zeroValue, hi, hz0, asInt, asIntOf, hw, hneg, hns, h48i, hroom, Addr.add_lit, hz1, hnk]
        simp at hst
        rw [hst]
        rfl
      · simp only [List.size_toArray, List.length_append, List.length_take, List.length_drop, hzl2, hcl]
        omega
      · have e1 : (List.take (o + xs.length) cur.toList).drop o = encs (Value.int .u8) xs := by rw [List.drop_take, Nat.add_sub_cancel_left, htk]
        simp only [List.append_assoc, List.toList_toArray]
        rw [List.drop_append_of_le_length (by rw [e2]; omega), e1, ← List.append_assoc, List.take_append_of_le_length (by rw [List.length_append, List.length_append, List.length_replicate, hzl2, hlx]; omega), List.take_of_length_le (by rw [List.length_append, List.length_append, List.length_replicate, hzl2, hlx]; omega), hze, encs, encs, encs, List.map_append]
      · exact ⟨rfl, rfl, rfl, by simp [World.setRow], fun k hk hne => setRow_other W g k _ (fun e => hne (by subst e; rfl))⟩
    · have HO : OwnO (Value.int .u8) W base 5 (.slice (some ⟨g, o, none⟩) xs.length cap) xs := .inr ⟨g, o, cap, cur, rfl, hb, hg, hn, hm, hs, htk⟩
      have hold : (Builtin.firstCells i.size xs.length (.slice (some ⟨g, o, none⟩) xs.length cap)).run Try.prog W.drew = .ok (encs (Value.int .u8) xs).toArray W.drew := by
        rw [hz1]
        refine run_firstCells_some (P := Try.prog) W.drew 1 xs.length ⟨g, o, none⟩ xs.length cap (encs (Value.int .u8) xs) (by simp [encs]) (fun j u hu => ?_)
        have hj : j < xs.length := by simpa [encs] using (List.getElem?_eq_some_iff.1 hu).1
        rw [encs_get (d := (0 : Int)) xs j hj] at hu
        rw [← hu]
        simpa using HO.cells (0 : Int) j hj
      have hby : Builtin.nextslicecap (xs.length + n) cap * i.bytes ≤ 281474976710656 := by
        have := growslice_fits (need := xs.length + n) (bytes := i.bytes) (by omega : cap < xs.length + n) (by rw [hz2]; omega)
        exact this
      have hr := Lib.run_append_grow_zeros (P := Try.prog) W 22 3 22 5 i (.int .u8 0) .i64 .i64 ht htn hi hz0 (some ⟨g, o, none⟩) xs.length cap (encs (Value.int .u8) xs) hold n h0 (by omega) (by omega) (by omega) (by rw [hz2]; omega) hby
      exact grow (some ⟨g, o, none⟩) cap hold (by omega) hr
end Go.Proofs.Ytigdchfjcfljjaa
