/- Slices of structs of k cells: the call's own, read, appended to; a slice whose elements are set. -/
import Derived.Test.YtplmdgimodgekaaAp
namespace Go.Proofs.Ytplmdgimodgekaa
open Go.RowKit Go.Proofs.YtplmdgimodgekaaW.PrintWords Go.Proofs.YtplmdgimodgekaaW.PrintLast Go.Proofs.YtplmdgimodgekaaW.PrintMore
set_option linter.unusedVariables false
set_option linter.unusedSimpArgs false
section
variable {α : Type} {enc : α → List Value} {k e : Nat}
def kcs (enc : α → List Value) (xs : List α) : List Value := xs.flatMap enc
theorem kcs_app (xs ys : List α) : kcs enc (xs ++ ys) = kcs enc xs ++ kcs enc ys := List.flatMap_append
theorem kcs_one (x : α) : kcs enc [x] = enc x := by simp [kcs]
theorem kcs_len (hk : ∀ x, (enc x).length = k) : ∀ (xs : List α), (kcs enc xs).length = xs.length * k
  | [] => by simp [kcs]
  | x :: xs => by
    rw [kcs, List.flatMap_cons, List.length_append, ← kcs, kcs_len hk xs, hk x, List.length_cons, Nat.succ_mul, Nat.add_comm]
theorem kcs_at (hk : ∀ x, (enc x).length = k) : ∀ (xs : List α) (i : Nat) (hi : i < xs.length) (j : Nat), j < k → (kcs enc xs)[i * k + j]? = (enc (xs[i]))[j]?
  | [], i, hi, _, _ => by simp at hi
  | x :: xs, 0, _, j, hj => by
    rw [kcs, List.flatMap_cons, Nat.zero_mul, Nat.zero_add, List.getElem?_append_left (by rw [hk x]; exact hj)]
    rfl
  | x :: xs, i + 1, hi, j, hj => by
    rw [kcs, List.flatMap_cons, List.getElem?_append_right (by rw [hk x, Nat.succ_mul]; omega), hk x, show (i + 1) * k + j - k = i * k + j by rw [Nat.succ_mul]; omega]
    exact kcs_at hk xs i (by simpa using hi) j hj
/-- Structs that are read. -/
def KRd (enc : α → List Value) (k : Nat) (W : World) (v : Value) (xs : List α) : Prop := ∃ A c, v = .slice A xs.length c ∧ xs.length ≤ c ∧ xs.length ≤ 9223372036854775807 ∧ (0 < xs.length → ∃ b o, A = some ⟨b, o, none⟩ ∧ b < W.heap.size ∧ ∀ i (hi : i < xs.length), W.rangeAt b (o + i * k) (enc (xs[i])))
theorem KRd.nil (W : World) : KRd enc k W (.slice none 0 0) [] := ⟨none, 0, rfl, Nat.le_refl _, by simp, fun h => by simp at h⟩
theorem KRd.kp {W W1 : World} {v : Value} {xs : List α} {S : Nat → Prop} (h : KRd enc k W v xs) (hk : Kp S W W1) (hn : ∀ b, v.ownBlock = some b → ¬ S b) : KRd enc k W1 v xs := by
  obtain ⟨A, c, rfl, hc, hm, h⟩ := h
  refine ⟨A, c, rfl, hc, hm, fun h0 => ?_⟩
  obtain ⟨b, o, rfl, hl, hr⟩ := h h0
  refine ⟨b, o, rfl, Nat.lt_of_lt_of_le hl hk.size, fun i hi j v hv => ?_⟩
  have := hr i hi j v hv
  simp only [World.cell?] at this ⊢
  rw [hk.block b hl (hn b rfl)]
  exact this
theorem KRd.below {W W1 : World} {v : Value} {xs : List α} (h : KRd enc k W v xs) (hb : Below W.heap.size W W1) : KRd enc k W1 v xs := h.kp (Kp.of_below hb (fun _ => False)) (fun _ _ => id)
theorem KRd.get {W : World} {A : Option Addr} {n c : Nat} {xs : List α} (h : KRd enc k W (.slice A n c) xs) (h0 : 0 < xs.length) : ∃ b o, A = some ⟨b, o, none⟩ ∧ b < W.heap.size ∧ ∀ i (hi : i < xs.length), W.rangeAt b (o + i * k) (enc (xs[i])) := by
  obtain ⟨A2, c2, ev, _, _, hr⟩ := h
  simp only [Value.slice.injEq] at ev
  obtain ⟨rfl, _, _⟩ := ev
  exact hr h0
/-- A row of structs of one's own. -/
def KRow (enc : α → List Value) (k e : Nat) (W : World) (base : Nat) (v : Value) (xs : List α) : Prop := W.ownsRow base e k v xs.length (kcs enc xs)
theorem KRow.nil (W : World) (base : Nat) : KRow enc k e W base (.slice none 0 0) [] := ⟨by simp [kcs], .inl ⟨rfl, rfl⟩⟩
theorem KRow.move {W W' : World} {base : Nat} {v : Value} {xs : List α} (h : KRow enc k e W base v xs) (hm : ∀ k, v.ownBlock = some k → W'.heap[k]? = W.heap[k]?) : KRow enc k e W' base v xs := by
  obtain ⟨hl, h⟩ := h
  refine ⟨hl, h.imp id ?_⟩
  rintro ⟨g, cap, cur, rfl, hb, hg, r⟩
  exact ⟨g, cap, cur, rfl, hb, (hm g rfl).trans hg, r⟩
theorem KRow.lt {W : World} {base : Nat} {v : Value} {xs : List α} (h : KRow enc k e W base v xs) {b : Nat} (hk : v.ownBlock = some b) : base ≤ b ∧ b < W.heap.size := by
  rcases h.2 with ⟨rfl, _⟩ | ⟨g, cap, cur, rfl, hb, hg, r⟩
  · cases hk
  · injection hk with hk
    subst hk
    exact ⟨hb, blk_lt hg⟩
theorem KRow.below {W W' : World} {base : Nat} {v : Value} {xs : List α} (h : KRow enc k e W base v xs) (hb : Below W.heap.size W W') : KRow enc k e W' base v xs := h.move fun b hk => hb.block b (h.lt hk).2
theorem KRow.kp {W W' : World} {base : Nat} {v : Value} {xs : List α} {S : Nat → Prop} (h : KRow enc k e W base v xs) (hk : Kp S W W') (hn : ∀ k, v.ownBlock = some k → ¬ S k) : KRow enc k e W' base v xs := h.move fun b hk' => hk.block b (h.lt hk').2 (hn b hk')
theorem KRow.weaken {W : World} {base b : Nat} {v : Value} {xs : List α} (h : KRow enc k e W base v xs) (hb : b ≤ base) : KRow enc k e W b v xs := by
  obtain ⟨hl, h⟩ := h
  refine ⟨hl, h.imp id ?_⟩
  rintro ⟨g, cap, cur, rfl, hb', r⟩
  exact ⟨g, cap, cur, rfl, Nat.le_trans hb hb', r⟩
theorem KRow.ne {W : World} {base : Nat} {v : Value} {xs : List α} (h : KRow enc k e W base v xs) {g t : Nat} {cs : Array Value} {fz : Nat × Nat} (hg : W.heap[g]? = some (.cells cs t fz)) (hne : e ≠ t) : v.ownBlock ≠ some g := fun hk => by
  rcases h.2 with ⟨rfl, _⟩ | ⟨g', cap, cur, rfl, hb, hg', r⟩
  · cases hk
  · injection hk with hk
    rw [show g' = g from hk] at hg'
    rw [hg] at hg'
    injection hg' with e
    injection e with _ e
    exact hne e.symm
theorem KRow.slice {W : World} {base : Nat} {v : Value} {xs : List α} (h : KRow enc k e W base v xs) {n : Nat} (hk : xs.length = n) : ∃ A c, v = .slice A n c := by
  subst hk
  rcases h.2 with ⟨rfl, h0⟩ | ⟨g, cap, cur, rfl, _⟩
  · exact ⟨none, 0, by rw [h0]⟩
  · exact ⟨_, _, rfl⟩
theorem KRow.rd {W : World} {base : Nat} {v : Value} {xs : List α} (h : KRow enc k e W base v xs) (hk : ∀ x, (enc x).length = k) : KRd enc k W v xs := by
  obtain ⟨hl, h⟩ := h
  rcases h with ⟨rfl, h0⟩ | ⟨g, cap, cur, rfl, hb, hg, hn, hm, hs, ht⟩
  · exact ⟨none, 0, by rw [h0], by omega, by omega, fun h => by omega⟩
  · refine ⟨_, _, rfl, by omega, by unfold maxLen at hm; omega, fun _ => ⟨g, 0, rfl, blk_lt hg, fun i hi j u hu => ?_⟩⟩
    have hj : j < k := by rw [← hk (xs[i])]; exact (List.getElem?_eq_some_iff.1 hu).1
    have hb2 : i * k + j < xs.length * k := Nat.lt_of_lt_of_le (show i * k + j < i * k + k by omega) (by rw [← Nat.succ_mul]; exact Nat.mul_le_mul_right k hi)
    rw [blk_cell hg, Nat.zero_add]
    rw [← kcs_at hk xs i hi j hj] at hu
    rw [← hu, ← ht, List.getElem?_take_of_lt hb2, Array.getElem?_toList]
/-- append: a struct more. -/
theorem app_k {P : Program} {t ty : TypeId} {z : Value} {bytes : Nat} (hk : ∀ x, (enc x).length = k) (hone : ∀ x u, u ∈ enc x → u.oneCell' = true) (ht : P.underlying t = some (.slice e)) (hinfo : (P.info? e).map (fun i => (i.zero, i.size, i.bytes)) = some (some z, k, bytes)) (hz : z.cells.size = k) (k0 : 0 < k)
    {W : World} {base : Nat} {v : Value} {xs : List α} (x : α) {cs : Array Value} (hcs : cs = (enc x).toArray) {n : Nat} (HO : KRow enc k e W base v xs) (hn : xs.length = n) (hbase : base ≤ W.heap.size) (hl : (n + 1) * bytes ≤ 140737488355328) (hl2 : n ≤ 1000000000) :
    ∃ A1 c1 w1, (Builtin.append_ #[t, t] ty #[v, .slice (some ⟨W.heap.size, 0, none⟩) 1 1]).run P (W.alloc (.cells cs e)) = .ok (.slice A1 (n + 1) c1) w1 ∧ KRow enc k e w1 base (.slice A1 (n + 1) c1) (xs ++ [x]) ∧ Kp (fun b => v.ownBlock = some b) W w1 := by
  subst hn
  subst hcs
  obtain ⟨i, hi, hzz⟩ := Option.map_eq_some_iff.1 hinfo
  simp only [Prod.mk.injEq] at hzz
  obtain ⟨hz0, hz1, hz2⟩ := hzz
  have HW := HO.below (below_alloc (Below.refl _ _) (.cells (enc x).toArray e))
  obtain ⟨v', w', hr, ho, hg, _⟩ := run_append_own (P := P) (W.alloc (.cells (enc x).toArray e)) base t ty e i z k bytes ht hi hz0 hz1 hz2 hz k0 v xs.length (kcs enc xs) HW ⟨W.heap.size, 0, none⟩ 1 1 (enc x) (by rw [hk x, Nat.one_mul]) (fun j u hu => by
      rw [Addr.add_mid, Nat.zero_add, blk_cell (blk_new W _) j]
      simpa using hu) (fun u hu => hone x u hu) (by unfold maxLen; omega) hl (by simp; omega)
  have ho2 : KRow enc k e w' base v' (xs ++ [x]) := by
    rw [KRow, kcs_app, List.length_append, kcs_one]
    exact ho
  obtain ⟨A1, c1, rfl⟩ := ho2.slice (by rw [List.length_append])
  exact ⟨A1, c1, w', hr, ho2, (Kp.of_below (below_alloc (Below.refl _ _) _) _).trans (Kp.of_grown hg) (fun k hk => .inl hk)⟩
end
/-- An element of one's own slice is set. -/
theorem OwnO.set {α : Type} {enc : α → Value} {W : World} {base e g o n c j : Nat} {xs : List α} (y : α) (h : OwnO enc W base e (.slice (some ⟨g, o, none⟩) n c) xs) (hn : xs.length = n) (hj : j < n) : OwnO enc (W.setCell ⟨g, o + j, none⟩ (enc y)) base e (.slice (some ⟨g, o, none⟩) n c) (xs.set j y) := by
  rcases h with ⟨h, _⟩ | ⟨g', o', cap, cur, hv, hb, hg, hm, hmm, hs, ht⟩
  · cases h
  · simp only [Value.slice.injEq, Option.some.injEq, Addr.mk.injEq] at hv
    obtain ⟨⟨rfl, rfl, _⟩, hv1, rfl⟩ := hv
    refine .inr ⟨g, o, c, cur.setIfInBounds (o + j) (enc y), by rw [List.length_set, hn], hb, blk_set hg (o + j) _, by rw [List.length_set]; exact hm, hmm, by simpa using hs, ?_⟩
    rw [List.length_set, Array.toList_setIfInBounds, List.drop_set, if_neg (by omega), Nat.add_sub_cancel_left, List.take_set, ht]
    simp [encs, List.map_set]
theorem OwnO.get {α : Type} {enc : α → Value} {W : World} {base e : Nat} {A : Option Addr} {n c : Nat} {xs : List α} (d : α) (h : OwnO enc W base e (.slice A n c) xs) (hn : xs.length = n) (h0 : 0 < n) : ∃ g o, A = some ⟨g, o, none⟩ ∧ base ≤ g ∧ g < W.heap.size ∧ ∀ j, j < n → W.cell? ⟨g, o + j, none⟩ = some (enc (xs.getD j d)) ∧ W.frozen? ⟨g, o + j, none⟩ = false := by
  rcases h with ⟨h, rfl⟩ | ⟨g, o, cap, cur, hv, hb, hg, hm, hmm, hs, ht⟩
  · simp at hn; omega
  · have h2 : OwnO enc W base e (.slice A n c) xs := .inr ⟨g, o, cap, cur, hv, hb, hg, hm, hmm, hs, ht⟩
    simp only [Value.slice.injEq] at hv
    obtain ⟨rfl, _, rfl⟩ := hv
    refine ⟨g, o, rfl, hb, blk_lt hg, fun j hj => ⟨?_, blk_frozen hg _⟩⟩
    have := OwnO.cells h2 d j (by omega)
    rw [Addr.add_lit] at this
    exact this
/-- A slice as a value of one cell. -/
def SlE (x : Option Addr × Nat × Nat) : Value := .slice x.1 x.2.1 x.2.2
theorem oneSl : ∀ x, (SlE x).oneCell' = true := fun _ => rfl
end Go.Proofs.Ytplmdgimodgekaa
