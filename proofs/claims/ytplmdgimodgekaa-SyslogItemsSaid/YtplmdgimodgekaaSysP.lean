/- Syslog: what Parse reads, plain: the program's words and the reference's agree. -/
import Derived.Test.YtplmdgimodgekaaSysF
import Derived.Test.YtplmdgimodgekaaSinS
namespace Go.Proofs.Ytplmdgimodgekaa
open Go.RowKit
set_option linter.unusedVariables false
set_option linter.unusedSimpArgs false
theorem wi_cut (l : List Int) (o c : Int) : ((offI l o).2 = true ∧ (cutI (offI l o).1 c).2.2 = true ∧ 0 < (wiP l o c).2 ∧ (wiP l o c).1 = (cutI (offI l o).1 c).1 ∧ (cutI (offI l o).1 c).2.1 = l.drop (wiP l o c).2.toNat) ∨
    (¬ ((offI l o).2 = true ∧ (cutI (offI l o).1 c).2.2 = true) ∧ wiP l o c = ([], 0)) := by
  by_cases h1 : l.take 1 = [o]
  · by_cases h2 : idxI (l.drop 1) c < 0
    · refine .inr ⟨?_, ?_⟩
      · rw [offI, if_pos h1, cutI, if_pos h2]; simp
      · rw [wiP, if_neg (by omega)]
    · refine .inl ⟨?_, ?_, ?_, ?_, ?_⟩
      · rw [offI, if_pos h1]
      · rw [offI, if_pos h1, cutI, if_neg h2]
      · rw [wiP, if_pos ⟨h1, by omega⟩]; show 0 < idxI (l.drop 1) c + 2; omega
      · rw [wiP, if_pos ⟨h1, by omega⟩, offI, if_pos h1, cutI, if_neg h2]
      · rw [wiP, if_pos ⟨h1, by omega⟩, offI, if_pos h1, cutI, if_neg h2]
        show (l.drop 1).drop ((idxI (l.drop 1) c).toNat + 1) = l.drop (idxI (l.drop 1) c + 2).toNat
        rw [List.drop_drop]; congr 1; omega
  · refine .inr ⟨?_, ?_⟩
    · rw [offI, if_neg h1]; simp
    · rw [wiP, if_neg (fun h => h1 h.1)]
theorem numG_len3 {l : List Int} {n : Int} (h : numG l = some n) (hn : n ≤ 191) : l.length ≤ 3 := by
  obtain ⟨e, h0, -⟩ := numG_dec h
  have := decD_up 17 2 n h0 (by omega)
  rw [show 2 + 1 + 17 = 20 from rfl] at this
  rw [← e, this]
  exact (decD_len 2 n).1
/-- The front as the reference reads it. -/
theorem fr_ref (l : List Int) : frP l = if 0 < (wiP l 60 62).2 then (match numG (wiP l 60 62).1 with | some n => if n ≤ 191 then some (n, l.drop (wiP l 60 62).2.toNat) else none | none => none) else none := by
  rw [frP]
  rcases wi_cut l 60 62 with ⟨h1, h2, h3, h4, h5⟩ | ⟨h1, h2⟩
  · rw [if_pos h3, h4, ← h5]
    by_cases h6 : (cutI (offI l 60).1 62).1.length ≤ 3
    · rw [if_pos ⟨h1, h2, h6⟩]
      cases numG (cutI (offI l 60).1 62).1 <;> rfl
    · rw [if_neg (fun h => h6 h.2.2)]
      cases hg : numG (cutI (offI l 60).1 62).1 with
      | none => rfl
      | some n =>
        show none = if n ≤ 191 then _ else _
        rw [if_neg (fun hn => h6 (numG_len3 hg hn))]
  · rw [if_neg (fun h => h1 ⟨h.1, h.2.1⟩), h2, if_neg (by decide)]
theorem pi_ref (l : List Int) : piP l = if 0 < (wiP l 91 93).2 ∧ (numG (wiP l 91 93).1).isSome = true then ((wiP l 91 93).1, l.drop (wiP l 91 93).2.toNat) else ([], l) := by
  rw [piP]
  rcases wi_cut l 91 93 with ⟨h1, h2, h3, h4, h5⟩ | ⟨h1, h2⟩
  · rw [h4, ← h5]
    by_cases h6 : (numG (cutI (offI l 91).1 93).1).isSome = true
    · rw [if_pos ⟨h1, h2, h6⟩, if_pos ⟨h3, h6⟩]
    · rw [if_neg (fun h => h6 h.2.2), if_neg (fun h => h6 h.2)]
  · rw [if_neg (fun h => h1 ⟨h.1, h.2.1⟩), h2, if_neg (fun h => absurd h.1 (by decide))]
/-- Severity, facility, what follows. -/
def frL (l : List Int) : Int × Int × List Int := match frP l with | some x => (x.1 % 8, x.1 / 8, x.2) | none => (6, 1, l)
/-- How long the name is. -/
def tgN (l : List Int) : Nat := min 48 (tw namB l)
/-- What Parse reads: severity, facility, name, number, text. -/
def syP (l : List Int) : Int × Int × List Int × List Int × List Int :=
  if tgN (frL l).2.2 = 0 ∨ (offI (piP ((frL l).2.2.drop (tgN (frL l).2.2))).2 58).2 = false then ((frL l).1, (frL l).2.1, [], [], (frL l).2.2)
  else ((frL l).1, (frL l).2.1, (frL l).2.2.take (tgN (frL l).2.2), (piP ((frL l).2.2.drop (tgN (frL l).2.2))).1, (offI (offI (piP ((frL l).2.2.drop (tgN (frL l).2.2))).2 58).1 32).1)
end Go.Proofs.Ytplmdgimodgekaa
