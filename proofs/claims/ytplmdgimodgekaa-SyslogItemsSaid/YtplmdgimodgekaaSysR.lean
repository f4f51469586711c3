/- Syslog: lines, which messages are right, plain: a line is read again. -/
import Derived.Test.YtplmdgimodgekaaSysP
namespace Go.Proofs.Ytplmdgimodgekaa
open Go.RowKit
set_option linter.unusedVariables false
set_option linter.unusedSimpArgs false
theorem dgL_dig : ∀ (l : List Int) (n v : Int), dgL l n = some v → ∀ c ∈ l, 48 ≤ c ∧ c ≤ 57
  | [], n, v, h => fun x hx => by simp at hx
  | c :: l, n, v, h => by
    rw [dgL] at h
    split at h
    · rename_i hc
      have := of_decide_eq_true hc
      intro x hx
      rcases List.mem_cons.1 hx with rfl | hx
      · omega
      · exact dgL_dig l _ v h x hx
    · cases h
theorem numG_dig {l : List Int} {v : Int} (h : numG l = some v) : ∀ c ∈ l, 48 ≤ c ∧ c ≤ 57 := by
  rw [numG] at h
  split at h
  · cases h
  · exact dgL_dig l 0 v h
theorem numG_ne {l : List Int} {v : Int} (h : numG l = some v) : l ≠ [] := by
  rintro rfl
  rw [numG, if_pos (.inl rfl)] at h
  cases h
theorem cutI_at (l r : List Int) (c : Int) (h : c ∉ l) : cutI (l ++ c :: r) c = (l, r, true) := by
  rw [cutI, idxI_front l r c h, if_neg (by omega)]
  simp
theorem offI_hit (r : List Int) (c : Int) : offI (c :: r) c = (r, true) := by rw [offI, if_pos (by simp)]; rfl
theorem offI_miss {l : List Int} {c : Int} (h : l.getD 0 (-1) ≠ c) : offI l c = (l, false) := by
  rw [offI, if_neg]
  cases l with
  | nil => simp
  | cons b l => simpa using h
/-- A line's front is read. -/
theorem frL_line (sv fc : Int) (r : List Int) (h : 0 ≤ sv ∧ sv ≤ 7) (h2 : 0 ≤ fc ∧ fc ≤ 23) : frL (60 :: (decD 20 (8 * fc + sv) ++ 62 :: r)) = (sv, fc, r) := by
  have hn : numG (decD 20 (8 * fc + sv)) = some (8 * fc + sv) := numG_decD _ (by omega) (by unfold dMax; omega)
  have hl := numG_len3 hn (by omega)
  have hd : (62 : Int) ∉ decD 20 (8 * fc + sv) := fun hh => by have := numG_dig hn _ hh; omega
  have h1 : frP (60 :: (decD 20 (8 * fc + sv) ++ 62 :: r)) = some (8 * fc + sv, r) := by
    rw [frP, offI_hit]
    dsimp only
    rw [cutI_at _ _ _ hd]
    dsimp only
    rw [if_pos ⟨rfl, rfl, hl⟩, hn]
    dsimp only
    rw [if_pos (by omega)]
  rw [frL, h1]
  dsimp only
  rw [show (8 * fc + sv) % 8 = sv by omega, show (8 * fc + sv) / 8 = fc by omega]
/-- What stands behind a line's number. -/
def bkL (nm pi tx : List Int) : List Int := if nm = [] then tx else nm ++ ((if pi = [] then [] else 91 :: (pi ++ [93])) ++ 58 :: 32 :: tx)
/-- A line. -/
def lnL (m : Int × Int × List Int × List Int × List Int) : List Int := 60 :: (decD 20 (8 * m.2.1 + m.1) ++ 62 :: bkL m.2.2.1 m.2.2.2.1 m.2.2.2.2)
theorem tw_app (p : Int → Bool) : ∀ (l : List Int) (c : Int) (r : List Int), tw p l = l.length → p c = false → tw p (l ++ c :: r) = l.length
  | [], c, r, _, h => by rw [List.nil_append, tw, h]; rfl
  | b :: l, c, r, h1, h => by
    rw [tw] at h1
    split at h1
    · rename_i hb
      rw [List.cons_append, tw, if_pos hb, tw_app p l c r (by rw [List.length_cons] at h1; omega) h, List.length_cons]
    · rw [List.length_cons] at h1; omega
theorem tw_nil {p : Int → Bool} : tw p [] = 0 := rfl
/-- Which messages are right. -/
def riP (m : Int × Int × List Int × List Int × List Int) : Prop := (0 ≤ m.1 ∧ m.1 ≤ 7 ∧ 0 ≤ m.2.1 ∧ m.2.1 ≤ 23 ∧ m.2.2.1.length ≤ 48) ∧ tw namB m.2.2.1 = m.2.2.1.length ∧ (m.2.2.2.1 = [] ∨ (numG m.2.2.2.1).isSome = true ∧ m.2.2.1 ≠ []) ∧ (m.2.2.1 ≠ [] ∨ syP (lnL m) = m)
theorem ri_back {m : Int × Int × List Int × List Int × List Int} (h : riP m) : syP (lnL m) = m := by
  obtain ⟨⟨h1, h2, h3, h4, h5⟩, h6, h7, h8⟩ := h
  rcases h8 with h8 | h8
  · obtain ⟨sv, fc, nm, pi, tx⟩ := m
    dsimp only at h1 h2 h3 h4 h5 h6 h7 h8
    have hf := frL_line sv fc (bkL nm pi tx) ⟨h1, h2⟩ ⟨h3, h4⟩
    have hb : ∃ c r, bkL nm pi tx = nm ++ c :: r ∧ namB c = false := by
      rw [bkL, if_neg h8]
      by_cases hp : pi = []
      · exact ⟨58, 32 :: tx, by rw [if_pos hp]; rfl, by decide⟩
      · exact ⟨91, _, by rw [if_neg hp]; rfl, by decide⟩
    have ht : tgN (bkL nm pi tx) = nm.length := by
      obtain ⟨c, r, hb, hc⟩ := hb
      rw [tgN, hb, tw_app namB nm c r h6 hc]
      omega
    have hd : (bkL nm pi tx).drop nm.length = (if pi = [] then [] else 91 :: (pi ++ [93])) ++ 58 :: 32 :: tx := by rw [bkL, if_neg h8, List.drop_left]
    have hk : (bkL nm pi tx).take nm.length = nm := by rw [bkL, if_neg h8, List.take_left]
    have hp : piP ((if pi = [] then [] else 91 :: (pi ++ [93])) ++ 58 :: 32 :: tx) = (pi, 58 :: 32 :: tx) := by
      by_cases hp : pi = []
      · subst hp
        rw [if_pos rfl, List.nil_append, piP, offI_miss (by simp), if_neg (by simp)]
      · rw [if_neg hp]
        have hs := (h7.resolve_left hp).1
        cases hg : numG pi with
        | none => rw [hg] at hs; cases hs
        | some v =>
          have hn : (93 : Int) ∉ pi := fun hh => by have := numG_dig hg _ hh; omega
          rw [show (91 :: (pi ++ [93])) ++ 58 :: 32 :: tx = 91 :: (pi ++ 93 :: (58 :: 32 :: tx)) by simp, piP, offI_hit]
          dsimp only
          rw [cutI_at _ _ _ hn]
          dsimp only
          rw [hg, if_pos ⟨rfl, rfl, rfl⟩]
    have hlen : nm.length ≠ 0 := fun h => h8 (List.length_eq_zero_iff.1 h)
    rw [lnL]
    dsimp only
    rw [syP, hf]
    dsimp only
    rw [ht, hd, hp, hk, offI_hit]
    dsimp only
    rw [if_neg (by simp [hlen]), offI_hit]
  · exact h8
theorem tw_take (p : Int → Bool) : ∀ (l : List Int) (k : Nat), k ≤ tw p l → tw p (l.take k) = (l.take k).length
  | [], k, _ => by simp [tw]
  | c :: l, 0, _ => rfl
  | c :: l, k + 1, h => by
    rw [tw] at h
    split at h
    · rename_i hc
      rw [List.take_succ_cons, tw, if_pos hc, tw_take p l k (by omega), List.length_cons]
    · omega
theorem frL_bd (l : List Int) : 0 ≤ (frL l).1 ∧ (frL l).1 ≤ 7 ∧ 0 ≤ (frL l).2.1 ∧ (frL l).2.1 ≤ 23 := by
  rw [frL]
  cases h : frP l with
  | none => exact (by decide : (0:Int) ≤ 6 ∧ (6:Int) ≤ 7 ∧ (0:Int) ≤ 1 ∧ (1:Int) ≤ 23)
  | some x =>
    rw [frP] at h
    split at h
    · split at h
      · rename_i hg
        split at h
        · injection h with h; subst h
          have := (numG_dec hg).2
          dsimp only
          omega
        · cases h
      · cases h
    · cases h
theorem piP_num (l : List Int) : (piP l).1 = [] ∨ (numG (piP l).1).isSome = true := by
  rw [piP]
  split
  · rename_i h; exact .inr h.2.2
  · exact .inl rfl
/-- Whatever is read is right. -/
theorem sy_ri (l : List Int) : riP (syP l) := by
  obtain ⟨b1, b2, b3, b4⟩ := frL_bd l
  rw [syP]
  split
  · rename_i h
    refine ⟨⟨b1, b2, b3, b4, by simp⟩, rfl, .inl rfl, .inr ?_⟩
    rw [lnL]
    dsimp only
    rw [bkL, if_pos rfl, syP, frL_line _ _ _ ⟨b1, b2⟩ ⟨b3, b4⟩]
    dsimp only
    rw [if_pos h]
  · rename_i h
    have h1 : tgN (frL l).2.2 ≠ 0 := fun e => h (.inl e)
    have hle := tw_le namB (frL l).2.2
    have ht : tgN (frL l).2.2 ≤ tw namB (frL l).2.2 := by rw [tgN]; omega
    have h48 : tgN (frL l).2.2 ≤ 48 := by rw [tgN]; omega
    have hlen : ((frL l).2.2.take (tgN (frL l).2.2)).length = tgN (frL l).2.2 := by rw [List.length_take]; omega
    have hne : (frL l).2.2.take (tgN (frL l).2.2) ≠ [] := fun e => by rw [e] at hlen; exact h1 hlen.symm
    refine ⟨⟨b1, b2, b3, b4, by dsimp only; omega⟩, tw_take _ _ _ ht, ?_, .inl hne⟩
    rcases piP_num ((frL l).2.2.drop (tgN (frL l).2.2)) with h2 | h2
    · exact .inl h2
    · exact .inr ⟨h2, hne⟩
end Go.Proofs.Ytplmdgimodgekaa
