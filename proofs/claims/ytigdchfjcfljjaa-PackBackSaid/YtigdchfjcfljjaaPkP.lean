/- Packed bytes: signs, what they stand for, how many bytes they take (plain). -/
import Derived.Test.YtigdchfjcfljjaaLe3
namespace Go.Proofs.Ytigdchfjcfljjaa
open Go.RowKit Go.Proofs.YtigdchfjcfljjaaW.PrintWords Go.Proofs.YtigdchfjcfljjaaW.PrintLast Go.Proofs.YtigdchfjcfljjaaW.PrintMore
set_option linter.unusedVariables false
/-- A sign: bytes that stand for themselves (back = 0), or a run of n bytes that stands so far back. -/
structure Tok where
  back : Nat
  n : Nat
  c : List Int
def Tok.ok (m : Nat) (t : Tok) : Prop := (t.back = 0 ∧ 1 ≤ t.c.length ∧ t.c.length ≤ 128) ∨ (1 ≤ t.back ∧ t.back ≤ m ∧ t.back ≤ 4096 ∧ 4 ≤ t.n ∧ t.n ≤ 130)
def cpR (x : List Int) (back : Nat) : Nat → List Int
  | 0 => x
  | n + 1 => cpR x back n ++ [(cpR x back n).getD ((cpR x back n).length - back) 0]
theorem cpR_len (x : List Int) (back : Nat) : ∀ n, (cpR x back n).length = x.length + n
  | 0 => rfl
  | n + 1 => by rw [cpR, List.length_append, cpR_len x back n]; rfl
def Tok.enc (t : Tok) : List Int := if t.back = 0 then ((t.c.length : Int) - 1) :: t.c else ((124 + t.n : Nat) : Int) :: leB (t.back : Int) 2
def Tok.out (x : List Int) (t : Tok) : List Int := if t.back = 0 then x ++ t.c else cpR x t.back t.n
def pkE (ts : List Tok) : List Int := ts.flatMap Tok.enc
def pkX (ts : List Tok) : List Int := ts.foldl Tok.out []
theorem pkE_snoc (ts : List Tok) (t : Tok) : pkE (ts ++ [t]) = pkE ts ++ t.enc := by simp [pkE, List.flatMap_append]
theorem pkX_snoc (ts : List Tok) (t : Tok) : pkX (ts ++ [t]) = Tok.out (pkX ts) t := by simp [pkX, List.foldl_append]
def pkOk (ts : List Tok) : Prop := ∀ (i : Nat) (t : Tok), ts[i]? = some t → t.ok (pkX (ts.take i)).length
theorem pkOk_snoc {ts : List Tok} {t : Tok} (h : pkOk ts) (ht : t.ok (pkX ts).length) : pkOk (ts ++ [t]) := fun i u hu => by
  by_cases hi : i < ts.length
  · rw [List.getElem?_append_left hi] at hu
    rw [List.take_append_of_le_length (by omega)]
    exact h i u hu
  · rw [List.getElem?_append_right (by omega)] at hu
    have h0 : i - ts.length < 1 := (List.getElem?_eq_some_iff.1 hu).1
    have e : i = ts.length := by omega
    subst e
    rw [Nat.sub_self] at hu
    simp at hu
    subst hu
    rw [List.take_append_of_le_length (Nat.le_refl _), List.take_length]
    exact ht
/-- A run that stood ahead. -/
theorem cpR_take (B : List Int) (frm at_ : Nat) (hf : frm < at_) : ∀ n, at_ + n ≤ B.length → (∀ i, i < n → B.getD (frm + i) 0 = B.getD (at_ + i) 0) → cpR (B.take at_) (at_ - frm) n = B.take (at_ + n)
  | 0, _, _ => rfl
  | n + 1, h, he => by
    have ih := cpR_take B frm at_ hf n (by omega) (fun i hi => he i (by omega))
    have hl : (B.take (at_ + n)).length = at_ + n := by rw [List.length_take]; omega
    rw [cpR, ih, hl, show at_ + n - (at_ - frm) = frm + n by omega, show at_ + (n + 1) = (at_ + n) + 1 by omega, List.take_add_one, List.getElem?_eq_getElem (show at_ + n < B.length by omega)]
    have h1 := he n (by omega)
    rw [List.getD_eq_getElem?_getD, List.getElem?_take_of_lt (by omega), ← List.getD_eq_getElem?_getD, h1, List.getD_eq_getElem?_getD, List.getElem?_eq_getElem (show at_ + n < B.length by omega)]
    rfl
/-- What the packer holds: signs that stand for the first bytes. -/
structure PkS (B : List Int) (ts : List Tok) (p : Nat) : Prop where
  ok : pkOk ts
  x : pkX ts = B.take p
  le : p ≤ B.length
theorem PkS.nil (B : List Int) : PkS B [] 0 := ⟨fun i t h => by simp at h, rfl, Nat.zero_le _⟩
theorem PkS.lit {B : List Int} {ts : List Tok} {p : Nat} (h : PkS B ts p) (n : Nat) (h1 : 1 ≤ n) (h2 : n ≤ 128) (h3 : p + n ≤ B.length) : PkS B (ts ++ [⟨0, 0, (B.drop p).take n⟩]) (p + n) := by
  have hl : ((B.drop p).take n).length = n := by rw [List.length_take, List.length_drop]; omega
  refine ⟨pkOk_snoc h.ok (.inl ⟨rfl, by show 1 ≤ ((B.drop p).take n).length; omega, by show ((B.drop p).take n).length ≤ 128; omega⟩), ?_, h3⟩
  rw [pkX_snoc, h.x, Tok.out, if_pos rfl, List.take_add]
theorem PkS.run {B : List Int} {ts : List Tok} {frm p n : Nat} (h : PkS B ts p) (hf : frm < p) (hb : p - frm ≤ 4096) (h1 : 4 ≤ n) (h2 : n ≤ 130) (h3 : p + n ≤ B.length) (he : ∀ i, i < n → B.getD (frm + i) 0 = B.getD (p + i) 0) : PkS B (ts ++ [⟨p - frm, n, []⟩]) (p + n) := by
  have hl : (pkX ts).length = p := by rw [h.x, List.length_take]; have := h.le; omega
  refine ⟨pkOk_snoc h.ok (.inr ⟨by show 1 ≤ p - frm; omega, by rw [hl]; show p - frm ≤ p; omega, hb, h1, h2⟩), ?_, h3⟩
  rw [pkX_snoc, h.x, Tok.out, if_neg (by show p - frm ≠ 0; omega)]
  exact cpR_take B frm p hf n h3 he
theorem enc_lit (c : List Int) : (Tok.enc ⟨0, 0, c⟩) = ((c.length : Int) - 1) :: c := by rw [Tok.enc, if_pos rfl]
theorem enc_run {back n : Nat} (h : 1 ≤ back) : (Tok.enc ⟨back, n, []⟩) = ((124 + n : Nat) : Int) :: leB (back : Int) 2 := by rw [Tok.enc, if_neg (by show back ≠ 0; omega)]
/-- How many bytes: behind a run, and at the end. q: bytes that stand for themselves behind the last run; k: their signs. -/
def szI (e p q : Nat) : Prop := ∃ b k, b + q = p ∧ e ≤ b + b / 128 + q + k ∧ k = (q + 127) / 128
theorem szI.nil : szI 0 0 0 := ⟨0, 0, rfl, Nat.le_refl _, rfl⟩
theorem szI.last {e p q : Nat} (h : szI e p q) : e ≤ p + (p + 127) / 128 := by
  obtain ⟨b, k, h1, h2, h3⟩ := h
  omega
theorem szI.run {e p q n : Nat} (h : szI e p q) (hn : 4 ≤ n) : szI (e + 3) (p + n) 0 := by
  obtain ⟨b, k, h1, h2, h3⟩ := h
  exact ⟨p + n, 0, rfl, by omega, rfl⟩
theorem szI.lit {e p q : Nat} (h : szI e p q) (n : Nat) (hq : q % 128 = 0) (h1 : 1 ≤ n) (h2 : n ≤ 128) : szI (e + 1 + n) (p + n) (q + n) := by
  obtain ⟨b, k, h3, h4, h5⟩ := h
  exact ⟨b, k + 1, by omega, by omega, by omega⟩
/-- What is unpacked is what the signs stand for: the place of a sign. -/
theorem pkE_take (ts : List Tok) (i : Nat) (t : Tok) (h : ts[i]? = some t) : pkE (ts.take (i + 1)) = pkE (ts.take i) ++ t.enc ∧ pkX (ts.take (i + 1)) = Tok.out (pkX (ts.take i)) t := by
  rw [List.take_add_one, h]
  exact ⟨pkE_snoc _ _, pkX_snoc _ _⟩
theorem pkE_split (ts : List Tok) (i : Nat) : pkE ts = pkE (ts.take i) ++ pkE (ts.drop i) := by rw [pkE, pkE, pkE, ← List.flatMap_append, List.take_append_drop]
theorem pkX_mono (ts : List Tok) : ∀ i, (pkX (ts.take i)).length ≤ (pkX ts).length := by
  have key : ∀ (us : List Tok) (x : List Int), x.length ≤ (us.foldl Tok.out x).length := by
    intro us
    induction us with
    | nil => intro x; exact Nat.le_refl _
    | cons u us ih =>
      intro x
      refine Nat.le_trans ?_ (ih (Tok.out x u))
      rw [Tok.out]
      split
      · rw [List.length_append]; omega
      · rw [cpR_len]; omega
  intro i
  have e : pkX ts = (ts.drop i).foldl Tok.out (pkX (ts.take i)) := by rw [pkX, pkX, ← List.foldl_append, List.take_append_drop]
  rw [e]
  exact key _ _
end Go.Proofs.Ytigdchfjcfljjaa
