/- SinceWrites: the text of a span, plain; it reads back. -/
import Derived.Test.YtplmdgimodgekaaSinR
namespace Go.Proofs.Ytplmdgimodgekaa
open Go.RowKit
set_option linter.unusedVariables false
set_option linter.unusedSimpArgs false

def uts : List (List Int × Int) := [([119], 604800000000), ([100], 86400000000), ([104], 3600000000), ([109, 105, 110], 60000000), ([115], 1000000), ([109, 115], 1000), ([117, 115], 1)]
/-- One part: nothing, or how many and the unit's name. -/
def prtP (nm : List Int) (k : Int) : List Int := if 0 < k then decD 20 k ++ nm else []
def txF : List (List Int × Int) → Int → List Int
  | [], _ => []
  | x :: r, n => prtP x.1 (n / x.2) ++ txF r (n % x.2)
def textP (n : Int) : List Int := if n = 0 then [48] else txF uts n
theorem tw_app (p : Int → Bool) : ∀ (a b : List Int), (∀ x ∈ a, p x = true) → (b = [] ∨ p (b.getD 0 0) = false) → tw p (a ++ b) = a.length
  | [], b, _, hb => by
    rcases hb with rfl | hb
    · rfl
    · cases b with
      | nil => rfl
      | cons c t => rw [List.getD_cons_zero] at hb; rw [List.nil_append, tw, if_neg (by rw [hb]; decide)]; rfl
  | c :: a, b, ha, hb => by
    rw [List.cons_append, tw, if_pos (ha c (by simp)), tw_app p a b (fun x hx => ha x (List.mem_cons_of_mem _ hx)) hb, List.length_cons]
theorem decD_dig : ∀ (k : Nat) (n : Int), 0 ≤ n → ∀ x ∈ decD k n, dgt x = true
  | 0, _, _ => fun x hx => by simp [decD] at hx
  | k + 1, n, h => by
    unfold decD
    split
    · intro x hx; simp at hx; rw [dgt]; exact decide_eq_true (by omega)
    · intro x hx
      rw [List.mem_append] at hx
      rcases hx with hx | hx
      · exact decD_dig k (n / 10) (by omega) x hx
      · simp at hx; rw [dgt]; exact decide_eq_true (by omega)
theorem ltr_dgt {c : Int} (h : dgt c = true) : ltr c = false := by
  rw [dgt] at h; have := of_decide_eq_true h; rw [ltr]; exact decide_eq_false (by omega)
theorem dgt_ltr {c : Int} (h : ltr c = true) : dgt c = false := by
  rw [ltr] at h; have := of_decide_eq_true h; rw [dgt]; exact decide_eq_false (by omega)
/-- What stands behind reads back. -/
def Cl (t : List Int) (n : Int) : Prop := ∀ s f, 0 ≤ s → s + n ≤ most → t.length ≤ f → (t = [] ∧ n = 0) ∨ (t ≠ [] ∧ ltr (t.getD 0 0) = false ∧ spF f t s = some (s + n))
theorem Cl_step {nm : List Int} {u n : Int} {t : List Int} (h1 : nm ≠ []) (h2 : ∀ x ∈ nm, ltr x = true) (h3 : unitP nm = u) (h4 : 1 ≤ u) (h0 : 0 ≤ n) (h9 : n ≤ most) (h : Cl t (n % u)) : Cl (prtP nm (n / u) ++ t) n := by
  intro s f s0 s1 hf
  rw [prtP] at hf ⊢
  have hd : n / u * u + n % u = n := by rw [Int.mul_comm]; exact Int.mul_ediv_add_emod n u
  have hm0 : 0 ≤ n % u := Int.emod_nonneg n (by omega)
  have hq0 : 0 ≤ n / u := Int.ediv_nonneg h0 (by omega)
  obtain ⟨q, hq⟩ : ∃ q, n / u = q := ⟨_, rfl⟩
  obtain ⟨m, hmm⟩ : ∃ m, n % u = m := ⟨_, rfl⟩
  rw [hq, hmm] at hd
  rw [hmm] at hm0 h
  rw [hq] at hq0 hf ⊢
  by_cases c : 0 < q
  · rw [if_pos c] at hf ⊢
    obtain ⟨D, hD⟩ : ∃ D, decD 20 q = D := ⟨_, rfl⟩
    have hdl := decD_len 19 q
    have hdd := decD_dig 20 q hq0
    have hqu : 0 ≤ q * u := Int.mul_nonneg hq0 (by omega)
    have hq1 : q ≤ q * u := by have := Int.mul_le_mul_of_nonneg_left h4 hq0; omega
    have hg := numG_decD q hq0 (by unfold most at h9; unfold dMax; omega)
    rw [show 19 + 1 = 20 from rfl] at hdl
    rw [hD] at hdl hdd hg hf ⊢
    obtain ⟨a, nm', rfl⟩ : ∃ a b, nm = a :: b := by cases nm with | nil => exact absurd rfl h1 | cons a b => exact ⟨a, b, rfl⟩
    obtain ⟨NM, hN⟩ : ∃ N, a :: nm' = N := ⟨_, rfl⟩
    have e0 : tw dgt (D ++ (NM ++ t)) = D.length := tw_app dgt D (NM ++ t) hdd (.inr (by rw [← hN, List.cons_append, List.getD_cons_zero]; exact dgt_ltr (h2 a (by simp))))
    rw [hN] at h1 h2 h3 hf ⊢
    rw [List.append_assoc] at hf ⊢
    have ht := h (s + q * u) (f - 1) (by omega) (by omega) (by
      have : 1 ≤ NM.length := by rw [← hN]; simp
      rw [List.length_append, List.length_append] at hf; omega)
    have e1 : tw ltr (NM ++ t) = NM.length := tw_app ltr NM t h2 (by
      rcases ht with ⟨rfl, _⟩ | ⟨_, hh, _⟩
      · exact .inl rfl
      · exact .inr hh)
    have ea : aL (D ++ (NM ++ t)) = D := by rw [aL, e0]; exact List.take_left' rfl
    have ed : (D ++ (NM ++ t)).drop (tw dgt (D ++ (NM ++ t))) = NM ++ t := by rw [e0]; exact List.drop_left' rfl
    have et : tL (D ++ (NM ++ t)) = NM := by rw [tL, ed, e1]; exact List.take_left' rfl
    have er : rL (D ++ (NM ++ t)) = t := by rw [rL, ed, e1]; exact List.drop_left' rfl
    have eu : uOf (D ++ (NM ++ t)) = u := by rw [uOf, et, if_neg h1, h3]
    obtain ⟨d0, D', rfl⟩ : ∃ a b, D = a :: b := by cases D with | nil => simp at hdl | cons a b => exact ⟨a, b, rfl⟩
    obtain ⟨f', rfl⟩ : ∃ f', f = f' + 1 := ⟨f - 1, by rw [List.length_append, List.length_cons] at hf; omega⟩
    refine .inr ⟨by simp, ?_, ?_⟩
    · rw [List.cons_append, List.getD_cons_zero]; exact ltr_dgt (hdd d0 (by simp))
    · rw [spF_some f' _ s (by rw [ea]; exact hg), eu, er, if_neg (by omega)]
      rcases ht with ⟨rfl, h0'⟩ | ⟨hne, _, hsp⟩
      · rw [if_pos rfl]; congr 1; omega
      · rw [if_neg hne, show f' = f' + 1 - 1 from rfl, hsp]; congr 1; omega
  · rw [if_neg c] at hf ⊢
    have : q = 0 := by omega
    subst this
    rw [Int.zero_mul, Int.zero_add] at hd
    subst hd
    exact h s f s0 s1 hf
theorem Cl_nil (n : Int) : Cl (txF [] (n % 1)) (n % 1) := fun s f _ _ _ => .inl ⟨rfl, by omega⟩
theorem Cl_text (n : Int) (h0 : 0 ≤ n) (h9 : n ≤ most) : Cl (txF uts n) n := by
  unfold uts
  refine Cl_step (nm := [119]) (u := 604800000000) (by decide) (by decide) (by decide) (by decide) (by (try dsimp only); omega) (by unfold most at *; (try dsimp only); omega) ?_
  refine Cl_step (nm := [100]) (u := 86400000000) (by decide) (by decide) (by decide) (by decide) (by (try dsimp only); omega) (by unfold most at *; (try dsimp only); omega) ?_
  refine Cl_step (nm := [104]) (u := 3600000000) (by decide) (by decide) (by decide) (by decide) (by (try dsimp only); omega) (by unfold most at *; (try dsimp only); omega) ?_
  refine Cl_step (nm := [109, 105, 110]) (u := 60000000) (by decide) (by decide) (by decide) (by decide) (by (try dsimp only); omega) (by unfold most at *; (try dsimp only); omega) ?_
  refine Cl_step (nm := [115]) (u := 1000000) (by decide) (by decide) (by decide) (by decide) (by (try dsimp only); omega) (by unfold most at *; (try dsimp only); omega) ?_
  refine Cl_step (nm := [109, 115]) (u := 1000) (by decide) (by decide) (by decide) (by decide) (by (try dsimp only); omega) (by unfold most at *; (try dsimp only); omega) ?_
  refine Cl_step (nm := [117, 115]) (u := 1) (by decide) (by decide) (by decide) (by decide) (by (try dsimp only); omega) (by unfold most at *; (try dsimp only); omega) ?_
  exact Cl_nil _
theorem text_back (n : Int) (h0 : 0 ≤ n) (h9 : n ≤ most) : spanP (textP n) = some n := by
  rw [textP]
  by_cases c : n = 0
  · rw [if_pos c, c]; decide +kernel
  · rw [if_neg c, spanP]
    rcases Cl_text n h0 h9 0 _ (by omega) (by omega) (Nat.le_refl _) with ⟨_, h⟩ | ⟨h, _, e⟩
    · exact absurd h c
    · rw [if_neg h, e, Int.zero_add]
theorem prt_isB (nm : List Int) (k : Int) (h : isB nm) : isB (prtP nm k) := by
  rw [prtP]; split
  · exact (decD_isB 20 k (by omega)).app h
  · exact fun x hx => by cases hx
theorem prt_len (nm : List Int) (k : Int) : (prtP nm k).length ≤ 20 + nm.length := by
  rw [prtP]; split
  · have := decD_len 19 k; rw [show 19 + 1 = 20 from rfl] at this; rw [List.length_append]; omega
  · simp
end Go.Proofs.Ytplmdgimodgekaa
