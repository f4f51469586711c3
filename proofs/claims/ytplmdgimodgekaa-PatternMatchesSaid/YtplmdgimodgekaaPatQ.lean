/- Patterns: how they are read (plain). -/
import Derived.Test.YtplmdgimodgekaaPatP
namespace Go.Proofs.Ytplmdgimodgekaa
open Go.RowKit Go.Proofs.YtplmdgimodgekaaW.PrintWords Go.Proofs.YtplmdgimodgekaaW.PrintLast Go.Proofs.YtplmdgimodgekaaW.PrintMore
set_option linter.unusedVariables false
set_option linter.unusedSimpArgs false
/-- A byte, behind a backslash or not. -/
def litP : List Int → Option (Int × List Int)
  | [] => none
  | c :: r => if c = 92 then (match r with | [] => none | d :: r' => some (d, r')) else some (c, r)
theorem litP_cons (c : Int) (r : List Int) : litP (c :: r) = if c = 92 then (match r with | [] => none | d :: r' => some (d, r')) else some (c, r) := by cases r <;> rfl
def dashB (l : List Int) : Bool := decide (2 ≤ l.length) && (l.getD 0 0 == 45 && l.getD 1 0 != 93)
/-- A byte or a range of a set. -/
def rngP (l : List Int) : Option ((Int × Int) × List Int) :=
  match litP l with
  | none => none
  | some (low, r) => if dashB r = true then (match litP (r.drop 1) with | none => none | some (high, r2) => if high < low then none else some ((low, high), r2)) else some ((low, low), r)
def setP : Nat → List Int → Bool → List (Int × Int) → Option (List (Int × Int) × List Int)
  | 0, _, _, _ => none
  | n + 1, l, first, acc => if l = [] then none else if first = false ∧ l.getD 0 0 = 93 then some (acc, l.drop 1) else match rngP l with | none => none | some (r, l') => setP n l' false (acc ++ [r])
theorem setP_nil (f : Nat) (l : List Int) (b : Bool) (acc : List (Int × Int)) (h : l = []) : setP f l b acc = none := by
  cases f with
  | zero => rfl
  | succ f => rw [setP, if_pos h]
theorem setP_close (f : Nat) (l : List Int) (acc : List (Int × Int)) (h : l ≠ []) (h1 : l.getD 0 0 = 93) : setP (f + 1) l false acc = some (acc, l.drop 1) := by rw [setP, if_neg h, if_pos ⟨rfl, h1⟩]
theorem setP_step (f : Nat) (l : List Int) (b : Bool) (acc : List (Int × Int)) (h : l ≠ []) (h1 : ¬ (b = false ∧ l.getD 0 0 = 93)) : setP (f + 1) l b acc = match rngP l with | none => none | some (r, l') => setP f l' false (acc ++ [r]) := by rw [setP, if_neg h, if_neg h1]
theorem rng_no {l r : List Int} {d : Int} {ok : Bool} (h : litP l = if ok = true then some (d, r) else none) (hd : dashB r = false) : rngP l = if ok = true ∧ d ≤ d then some ((d, d), r) else none := by
  cases ok with
  | false => rw [if_neg (by decide)] at h; rw [rngP, h, if_neg (fun h => by cases h.1)]
  | true => rw [if_pos rfl] at h; rw [rngP, h, if_pos ⟨rfl, by omega⟩]; dsimp only; rw [hd, if_neg (by decide)]
theorem rng_yes {l r r2 : List Int} {d high : Int} {ok : Bool} (h : litP l = some (d, r)) (hd : dashB r = true) (h2 : litP (r.drop 1) = if ok = true then some (high, r2) else none) : rngP l = if ok = true ∧ d ≤ high then some ((d, high), r2) else none := by
  rw [rngP, h]
  dsimp only
  rw [hd, if_pos rfl, h2]
  cases ok with
  | false => rw [if_neg (by decide), if_neg (fun h => by cases h.1)]
  | true =>
    rw [if_pos rfl]
    dsimp only
    by_cases e : high < d
    · rw [if_pos e, if_neg (fun h => by have := h.2; omega)]
    · rw [if_neg e, if_pos ⟨rfl, by omega⟩]
def setR (neg : Bool) (l : List Int) : Option (Pt × List Int) := match setP (l.length + 1) l true [] with | none => none | some (acc, r) => some (⟨3, 0, acc, neg⟩, r)
/-- A set, behind its bracket. -/
def setQ (l : List Int) : Option (Pt × List Int) := if l.getD 0 0 = 33 then setR true (l.drop 1) else setR false l
def partP (l : List Int) : Option (Pt × List Int) :=
  if l.getD 0 0 = 63 then some (⟨1, 0, [], false⟩, l.drop 1)
  else if l.getD 0 0 = 42 then some (⟨2, 0, [], false⟩, l.drop 1)
  else if l.getD 0 0 = 91 then
    setQ (l.drop 1)
  else match litP l with | none => none | some (c, r) => some (⟨0, c, [], false⟩, r)
def patP : Nat → List Int → Nat → List (List Pt) → List Pt → Option (List (List Pt) × Nat)
  | 0, _, _, _, _ => none
  | f + 1, l, n, D, C => if l = [] then some (D ++ [C], n) else if l.getD 0 0 = 124 then patP f (l.drop 1) (n + 1) (D ++ [C]) [] else match partP l with | none => none | some (x, r) => patP f r (n + 1) D (C ++ [x])
def compP (l : List Int) : Option (List (List Pt)) := match patP (l.length + 1) l 0 [] [] with | some (ch, n) => if n ≤ 64 then some ch else none | none => none
def patIs (fold : Bool) (ch : List (List Pt)) (s : List Int) : Bool := ch.any fun l => mtB fold l s
/-! ### What is read gets shorter. -/
theorem litP_len {l r : List Int} {c : Int} (h : litP l = some (c, r)) : r.length < l.length ∧ l.length ≤ r.length + 2 := by
  match l, h with
  | c :: l, h =>
    rw [litP_cons] at h
    by_cases e : c = 92
    · rw [if_pos e] at h
      match l, h with
      | d :: l, h => cases h; simp only [List.length_cons]; omega
    · rw [if_neg e] at h
      cases h; simp
theorem rngP_len {l r : List Int} {x : Int × Int} (h : rngP l = some (x, r)) : r.length < l.length := by
  rw [rngP] at h
  cases e : litP l with
  | none => rw [e] at h; cases h
  | some q =>
    obtain ⟨low, r1⟩ := q
    rw [e] at h
    dsimp only at h
    have h1 := (litP_len e).1
    split at h
    · cases e2 : litP (r1.drop 1) with
      | none => rw [e2] at h; cases h
      | some q =>
        obtain ⟨high, r2⟩ := q
        rw [e2] at h
        dsimp only at h
        have h2 := (litP_len e2).1
        rw [List.length_drop] at h2
        split at h
        · cases h
        · cases h; omega
    · cases h; exact h1
theorem setP_len : ∀ {n : Nat} {l r : List Int} {b : Bool} {acc acc' : List (Int × Int)}, setP n l b acc = some (acc', r) → r.length < l.length
  | 0, _, _, _, _, _, h => by cases h
  | n + 1, l, r, b, acc, acc', h => by
    rw [setP] at h
    by_cases hl : l = []
    · rw [if_pos hl] at h; cases h
    · rw [if_neg hl] at h
      have : 0 < l.length := List.length_pos_iff.2 hl
      split at h
      · cases h; rw [List.length_drop]; omega
      · cases e : rngP l with
        | none => rw [e] at h; cases h
        | some q =>
          obtain ⟨x, l'⟩ := q
          rw [e] at h
          have := rngP_len e
          have := setP_len h
          omega
theorem setR_len {neg : Bool} {l r : List Int} {x : Pt} (h : setR neg l = some (x, r)) : r.length < l.length := by
  rw [setR] at h
  cases e : setP (l.length + 1) l true [] with
  | none => rw [e] at h; cases h
  | some q =>
    obtain ⟨x, l'⟩ := q
    rw [e] at h
    cases h
    exact setP_len e
theorem setQ_len {l r : List Int} {x : Pt} (h : setQ l = some (x, r)) : r.length < l.length := by
  rw [setQ] at h
  split at h
  · have := setR_len h
    rw [List.length_drop] at this
    omega
  · exact setR_len h
theorem partP_len {l r : List Int} {x : Pt} (hl : l ≠ []) (h : partP l = some (x, r)) : r.length < l.length := by
  have h0 : 0 < l.length := List.length_pos_iff.2 hl
  have hd : (l.drop 1).length < l.length := by rw [List.length_drop]; omega
  rw [partP] at h
  split at h
  · cases h; exact hd
  · split at h
    · cases h; exact hd
    · split at h
      · have := setQ_len h
        omega
      · cases e : litP l with
        | none => rw [e] at h; cases h
        | some q =>
          obtain ⟨x, l'⟩ := q
          rw [e] at h
          cases h
          exact (litP_len e).1
/-! ### What is left stands behind. -/
theorem litP_sub {l r : List Int} {c : Int} (h : litP l = some (c, r)) : r <:+ l := by
  match l, h with
  | c :: l, h =>
    rw [litP_cons] at h
    by_cases e : c = 92
    · rw [if_pos e] at h
      match l, h with
      | d :: l, h => cases h; exact ⟨[c, _], rfl⟩
    · rw [if_neg e] at h
      cases h; exact ⟨[c], rfl⟩
theorem rngP_sub {l r : List Int} {x : Int × Int} (h : rngP l = some (x, r)) : r <:+ l := by
  rw [rngP] at h
  cases e : litP l with
  | none => rw [e] at h; cases h
  | some q =>
    obtain ⟨low, r1⟩ := q
    rw [e] at h
    dsimp only at h
    have h1 := litP_sub e
    split at h
    · cases e2 : litP (r1.drop 1) with
      | none => rw [e2] at h; cases h
      | some q =>
        obtain ⟨high, r2⟩ := q
        rw [e2] at h
        dsimp only at h
        have h2 := litP_sub e2
        split at h
        · cases h
        · cases h; exact (h2.trans (List.drop_suffix 1 _)).trans h1
    · cases h; exact h1
theorem setP_sub : ∀ {n : Nat} {l r : List Int} {b : Bool} {acc acc' : List (Int × Int)}, setP n l b acc = some (acc', r) → r <:+ l
  | 0, _, _, _, _, _, h => by cases h
  | n + 1, l, r, b, acc, acc', h => by
    rw [setP] at h
    by_cases hl : l = []
    · rw [if_pos hl] at h; cases h
    · rw [if_neg hl] at h
      split at h
      · cases h; exact List.drop_suffix 1 _
      · cases e : rngP l with
        | none => rw [e] at h; cases h
        | some q =>
          obtain ⟨x, l'⟩ := q
          rw [e] at h
          exact (setP_sub h).trans (rngP_sub e)
theorem setR_sub {neg : Bool} {l r : List Int} {x : Pt} (h : setR neg l = some (x, r)) : r <:+ l := by
  rw [setR] at h
  cases e : setP (l.length + 1) l true [] with
  | none => rw [e] at h; cases h
  | some q =>
    obtain ⟨x, l'⟩ := q
    rw [e] at h
    cases h
    exact setP_sub e
theorem setQ_sub {l r : List Int} {x : Pt} (h : setQ l = some (x, r)) : r <:+ l := by
  rw [setQ] at h
  split at h
  · exact (setR_sub h).trans (List.drop_suffix 1 _)
  · exact setR_sub h
theorem partP_sub {l r : List Int} {x : Pt} (h : partP l = some (x, r)) : r <:+ l := by
  rw [partP] at h
  split at h
  · cases h; exact List.drop_suffix 1 _
  · split at h
    · cases h; exact List.drop_suffix 1 _
    · split at h
      · exact (setQ_sub h).trans (List.drop_suffix 1 _)
      · cases e : litP l with
        | none => rw [e] at h; cases h
        | some q =>
          obtain ⟨x, l'⟩ := q
          rw [e] at h
          cases h
          exact litP_sub e
theorem patP_n : ∀ {f : Nat} {l : List Int} {n m : Nat} {D ch : List (List Pt)} {C : List Pt}, patP f l n D C = some (ch, m) → n ≤ m
  | 0, _, _, _, _, _, _, h => by cases h
  | f + 1, l, n, m, D, ch, C, h => by
    rw [patP] at h
    split at h
    · cases h; exact Nat.le_refl _
    · split at h
      · have := patP_n h; omega
      · cases e : partP l with
        | none => rw [e] at h; cases h
        | some q =>
          obtain ⟨x, l'⟩ := q
          rw [e] at h
          have := patP_n h
          omega
/-! ### More behind: what was read is read alike. -/
theorem getD_app {l t : List Int} {i : Nat} (h : i < l.length) : (l ++ t).getD i 0 = l.getD i 0 := by
  rw [List.getD_eq_getElem?_getD, List.getElem?_append_left h, ← List.getD_eq_getElem?_getD]
theorem drop_app {l t : List Int} {i : Nat} (h : i ≤ l.length) : (l ++ t).drop i = l.drop i ++ t := List.drop_append_of_le_length h
theorem litP_app {l r : List Int} {c : Int} (t : List Int) (h : litP l = some (c, r)) : litP (l ++ t) = some (c, r ++ t) := by
  match l, h with
  | d :: l, h =>
    rw [litP_cons] at h
    rw [List.cons_append, litP_cons]
    by_cases e : d = 92
    · rw [if_pos e] at h ⊢
      match l, h with
      | d :: l, h => cases h; rfl
    · rw [if_neg e] at h ⊢
      cases h; rfl
theorem dashB_app {l : List Int} (t : List Int) (h : 2 ≤ l.length) : dashB (l ++ t) = dashB l := by
  unfold dashB
  rw [getD_app (by omega), getD_app (by omega), List.length_append, decide_eq_true h, decide_eq_true (by omega)]
/-- A range that something stands behind. -/
theorem rngP_app {l r : List Int} {x : Int × Int} (t : List Int) (h : rngP l = some (x, r)) (hr : 0 < r.length) (hr1 : r.length = 1 → r.getD 0 0 ≠ 45) : rngP (l ++ t) = some (x, r ++ t) := by
  rw [rngP] at h
  cases e : litP l with
  | none => rw [e] at h; cases h
  | some q =>
    obtain ⟨low, r1⟩ := q
    rw [e] at h
    dsimp only at h
    rw [rngP, litP_app t e]
    dsimp only
    by_cases hd : dashB r1 = true
    · rw [if_pos hd] at h
      have h2 : 2 ≤ r1.length := by
        unfold dashB at hd
        rw [Bool.and_eq_true, decide_eq_true_eq] at hd
        exact hd.1
      rw [if_pos (by rw [dashB_app t h2]; exact hd), drop_app (by omega)]
      cases e2 : litP (r1.drop 1) with
      | none => rw [e2] at h; cases h
      | some q =>
        obtain ⟨high, r2⟩ := q
        rw [e2] at h
        rw [litP_app t e2]
        dsimp only at h ⊢
        split at h
        · cases h
        · rename_i e3
          cases h
          rw [if_neg e3]
    · rw [if_neg hd] at h
      cases h
      have : dashB (r ++ t) ≠ true := by
        by_cases h2 : 2 ≤ r.length
        · rw [dashB_app t h2]; exact hd
        · unfold dashB
          rw [getD_app hr]
          have := hr1 (by omega)
          intro hh
          simp only [Bool.and_eq_true, beq_iff_eq] at hh
          exact this hh.2.1
      rw [if_neg this]
theorem setP_fuel : ∀ {n m : Nat} {l : List Int} {b : Bool} {acc : List (Int × Int)}, l.length < n → l.length < m → setP n l b acc = setP m l b acc
  | 0, _, _, _, _, h, _ => by omega
  | _ + 1, 0, _, _, _, _, h => by omega
  | n + 1, m + 1, l, b, acc, h1, h2 => by
    rw [setP, setP]
    split
    · rfl
    · split
      · rfl
      · cases e : rngP l with
        | none => rfl
        | some q =>
          obtain ⟨x, l'⟩ := q
          have := rngP_len e
          exact setP_fuel (by omega) (by omega)
theorem setP_app : ∀ {n m : Nat} {l r : List Int} {b : Bool} {acc acc' : List (Int × Int)} (t : List Int), setP n l b acc = some (acc', r) → n ≤ m → setP m (l ++ t) b acc = some (acc', r ++ t)
  | 0, _, _, _, _, _, _, _, h, _ => by cases h
  | _ + 1, 0, _, _, _, _, _, _, _, h => by omega
  | n + 1, m + 1, l, r, b, acc, acc', t, h, hm => by
    rw [setP] at h
    rw [setP]
    by_cases hl : l = []
    · rw [if_pos hl] at h; cases h
    · have h0 : 0 < l.length := List.length_pos_iff.2 hl
      rw [if_neg hl] at h
      rw [if_neg (fun e => hl (List.append_eq_nil_iff.1 e).1), getD_app h0]
      split at h
      · rename_i e
        rw [if_pos e, drop_app h0]
        cases h; rfl
      · rename_i e
        rw [if_neg e]
        cases e2 : rngP l with
        | none => rw [e2] at h; cases h
        | some q =>
          obtain ⟨x, l'⟩ := q
          rw [e2] at h
          dsimp only at h
          have hlen := setP_len h
          rw [rngP_app t e2 (by omega) (fun h1 h45 => by
            match n, h with
            | n + 1, h =>
              match l', h1, h45 with
              | [y], _, h45 =>
                have : y = 45 := h45
                subst this
                rw [setP, if_neg (by simp), if_neg (by simp)] at h
                have e3 : rngP [45] = some ((45, 45), []) := by decide
                rw [e3] at h
                have := setP_len h
                simp at this)]
          exact setP_app t h (by omega)
theorem setR_app {neg : Bool} {l r : List Int} {x : Pt} (t : List Int) (h : setR neg l = some (x, r)) : setR neg (l ++ t) = some (x, r ++ t) := by
  rw [setR] at h
  rw [setR]
  cases e2 : setP (l.length + 1) l true [] with
  | none => rw [e2] at h; cases h
  | some q =>
    obtain ⟨x, l'⟩ := q
    rw [e2] at h
    rw [setP_app t e2 (by rw [List.length_append]; omega)]
    cases h; rfl
theorem setR_nil (neg : Bool) : setR neg [] = none := by rw [setR, setP, if_pos rfl]
theorem setQ_app {l r : List Int} {x : Pt} (t : List Int) (h : setQ l = some (x, r)) : setQ (l ++ t) = some (x, r ++ t) := by
  by_cases h0 : 0 < l.length
  · rw [setQ] at h
    rw [setQ, getD_app h0]
    split at h
    · rename_i e; rw [if_pos e, drop_app h0]; exact setR_app t h
    · rename_i e; rw [if_neg e]; exact setR_app t h
  · obtain rfl : l = [] := List.eq_nil_of_length_eq_zero (by omega)
    rw [setQ, if_neg (by decide), setR_nil] at h
    cases h
theorem partP_app {l r : List Int} {x : Pt} (t : List Int) (hl : l ≠ []) (h : partP l = some (x, r)) : partP (l ++ t) = some (x, r ++ t) := by
  have h0 : 0 < l.length := List.length_pos_iff.2 hl
  rw [partP] at h
  rw [partP, getD_app h0, drop_app h0]
  split at h
  · rename_i e; rw [if_pos e]; cases h; rfl
  · rename_i e; rw [if_neg e]
    split at h
    · rename_i e; rw [if_pos e]; cases h; rfl
    · rename_i e; rw [if_neg e]
      split at h
      · rename_i e; rw [if_pos e]; exact setQ_app t h
      · rename_i e; rw [if_neg e]
        cases e : litP l with
        | none => rw [e] at h; cases h
        | some q =>
          obtain ⟨x, l'⟩ := q
          rw [e] at h
          rw [litP_app t e]
          cases h; rfl
theorem patP_fuel : ∀ {f g : Nat} {l : List Int} {n : Nat} {D : List (List Pt)} {C : List Pt}, l.length < f → l.length < g → patP f l n D C = patP g l n D C
  | 0, _, _, _, _, _, h, _ => by omega
  | _ + 1, 0, _, _, _, _, _, h => by omega
  | f + 1, g + 1, l, n, D, C, h1, h2 => by
    rw [patP, patP]
    split
    · rfl
    · rename_i hl
      have h0 : 0 < l.length := List.length_pos_iff.2 hl
      split
      · exact patP_fuel (by rw [List.length_drop]; omega) (by rw [List.length_drop]; omega)
      · cases e : partP l with
        | none => rfl
        | some q =>
          obtain ⟨x, l'⟩ := q
          have := partP_len hl e
          exact patP_fuel (by omega) (by omega)
/-- A choice more behind. -/
theorem patP_app : ∀ {f g : Nat} {l : List Int} {n m : Nat} {D ch : List (List Pt)} {C : List Pt} (t : List Int), patP f l n D C = some (ch, m) → (l ++ 124 :: t).length < g → patP g (l ++ 124 :: t) n D C = patP g t (m + 1) ch []
  | 0, _, _, _, _, _, _, _, _, h, _ => by cases h
  | _ + 1, 0, _, _, _, _, _, _, _, _, h => by omega
  | f + 1, g + 1, l, n, m, D, ch, C, t, h, hg => by
    rw [patP] at h
    by_cases hl : l = []
    · rw [if_pos hl] at h
      subst hl
      cases h
      rw [List.nil_append] at hg ⊢
      rw [patP, if_neg (by simp), if_pos (by rfl)]
      have hg2 : t.length + 1 < g + 1 := hg
      exact patP_fuel (show t.length < g by omega) (show t.length < g + 1 by omega)
    · have h0 : 0 < l.length := List.length_pos_iff.2 hl
      rw [if_neg hl] at h
      rw [patP, if_neg (fun e => hl (List.append_eq_nil_iff.1 e).1), getD_app h0]
      have hgl : (l ++ 124 :: t).length = l.length + (t.length + 1) := by simp
      split at h
      · rename_i e
        rw [if_pos e, drop_app h0]
        rw [patP_app t h (by simp at hg ⊢; omega)]
        exact patP_fuel (by omega) (by omega)
      · rename_i e
        rw [if_neg e]
        cases e2 : partP l with
        | none => rw [e2] at h; cases h
        | some q =>
          obtain ⟨x, l'⟩ := q
          rw [e2] at h
          rw [partP_app _ hl e2]
          dsimp only at h ⊢
          have := partP_len hl e2
          rw [patP_app t h (by simp at hg ⊢; omega)]
          exact patP_fuel (by omega) (by omega)
/-- What stands ahead. -/
theorem patP_front : ∀ {f : Nat} {l : List Int} {n m : Nat} {D ch : List (List Pt)} {C : List Pt} (k : Nat) (D0 : List (List Pt)), patP f l n D C = some (ch, m) → patP f l (n + k) (D0 ++ D) C = some (D0 ++ ch, m + k)
  | 0, _, _, _, _, _, _, _, _, h => by cases h
  | f + 1, l, n, m, D, ch, C, k, D0, h => by
    rw [patP] at h
    rw [patP]
    split at h
    · rename_i e; rw [if_pos e]; cases h; rw [List.append_assoc]
    · rename_i e; rw [if_neg e]
      split at h
      · rename_i e; rw [if_pos e]
        have := patP_front k D0 h
        rw [List.append_assoc, show n + k + 1 = n + 1 + k by omega]
        exact this
      · rename_i e; rw [if_neg e]
        cases e2 : partP l with
        | none => rw [e2] at h; cases h
        | some q =>
          obtain ⟨x, l'⟩ := q
          rw [e2] at h
          dsimp only at h ⊢
          rw [show n + k + 1 = n + 1 + k by omega]
          exact patP_front k D0 h
theorem patIs_app (fold : Bool) (a b : List (List Pt)) (s : List Int) : patIs fold (a ++ b) s = (patIs fold a s || patIs fold b s) := by
  unfold patIs
  rw [List.any_append]
/-- P39.2: two choices. -/
theorem comp_join {a b : List Int} {p q r : List (List Pt)} (ha : compP a = some p) (hb : compP b = some q) (hr : compP (a ++ 124 :: b) = some r) : r = p ++ q := by
  unfold compP at ha hb hr
  cases ea : patP (a.length + 1) a 0 [] [] with
  | none => rw [ea] at ha; cases ha
  | some x =>
    obtain ⟨ca, na⟩ := x
    cases eb : patP (b.length + 1) b 0 [] [] with
    | none => rw [eb] at hb; cases hb
    | some y =>
      obtain ⟨cb, nb⟩ := y
      rw [ea] at ha
      rw [eb] at hb
      dsimp only at ha hb
      have hp : ca = p := by split at ha; exact Option.some.inj ha; cases ha
      have hq : cb = q := by split at hb; exact Option.some.inj hb; cases hb
      subst hp hq
      have e1 := patP_app b ea (show (a ++ 124 :: b).length < (a ++ 124 :: b).length + 1 by omega)
      have e2 := patP_front (na + 1) ca eb
      rw [Nat.zero_add, List.append_nil] at e2
      rw [e1, patP_fuel (f := (a ++ 124 :: b).length + 1) (g := b.length + 1) (by simp; omega) (by omega), e2] at hr
      dsimp only at hr
      split at hr
      · exact (Option.some.inj hr).symm
      · cases hr
/-- One choice alone: no bar. -/
theorem patP_one : ∀ {f : Nat} {l : List Int} {n m : Nat} {ch : List (List Pt)} {C : List Pt} (X : List Pt), (∀ x ∈ l, x ≠ 124) → patP f l n [] C = some (ch, m) → ∃ c, ch = [c] ∧ patP f l (n + 1) [] (X ++ C) = some ([X ++ c], m + 1)
  | 0, _, _, _, _, _, _, _, h => by cases h
  | f + 1, l, n, m, ch, C, X, hb, h => by
    rw [patP] at h
    by_cases e : l = []
    · rw [if_pos e] at h; cases h; exact ⟨C, rfl, by rw [patP, if_pos e]; rfl⟩
    · have h0 : 0 < l.length := List.length_pos_iff.2 e
      have h1 : l.getD 0 0 ≠ 124 := by
        rw [List.getD_eq_getElem?_getD, List.getElem?_eq_getElem h0]
        exact hb _ (List.getElem_mem h0)
      rw [if_neg e, if_neg h1] at h
      cases e2 : partP l with
      | none => rw [e2] at h; cases h
      | some q =>
        obtain ⟨x, l'⟩ := q
        rw [e2] at h
        dsimp only at h
        have hsub : ∀ y ∈ l', y ≠ 124 := fun y hy => hb y ((partP_sub e2).subset hy)
        obtain ⟨c, h3, h4⟩ := patP_one X hsub h
        refine ⟨c, h3, ?_⟩
        rw [patP, if_neg e, if_neg h1, e2]
        dsimp only
        rw [List.append_assoc]
        exact h4
/-- P39.2: behind a star. -/
theorem comp_star {a : List Int} {p r : List (List Pt)} (hb : ∀ x ∈ a, x ≠ 124) (ha : compP a = some p) (hr : compP (42 :: a) = some r) (s t : List Int) (hs : patIs false p s = true) : patIs false r (t ++ s) = true := by
  unfold compP at ha hr
  cases ea : patP (a.length + 1) a 0 [] [] with
  | none => rw [ea] at ha; cases ha
  | some x =>
    obtain ⟨ca, na⟩ := x
    rw [ea] at ha
    dsimp only at ha
    have hp : ca = p := by split at ha; exact Option.some.inj ha; cases ha
    subst hp
    obtain ⟨c, rfl, h2⟩ := patP_one [⟨2, 0, [], false⟩] hb ea
    have e : patP ((42 :: a).length + 1) (42 :: a) 0 [] [] = patP (a.length + 1) a 1 [] [⟨2, 0, [], false⟩] := by
      rw [List.length_cons, patP, if_neg (by simp), if_neg (by simp), partP, if_neg (by simp), if_pos (by rfl)]
      rfl
    rw [e] at hr
    rw [List.append_nil, Nat.zero_add] at h2
    rw [h2] at hr
    dsimp only at hr
    have hq : [[(⟨2, 0, [], false⟩ : Pt)] ++ c] = r := by split at hr; exact Option.some.inj hr; cases hr
    subst hq
    unfold patIs at hs ⊢
    simp only [List.any_cons, List.any_nil, Bool.or_false] at hs ⊢
    exact (mt_many rfl).2 ⟨t.length, by rw [List.length_append]; omega, by rw [List.drop_left]; exact hs⟩
/-! ### Quoted. -/
def spcB (c : Int) : Bool := c == 42 || c == 63 || c == 91 || c == 93 || c == 124 || c == 33 || c == 45 || c == 92
def quoP (l : List Int) : List Int := l.flatMap fun c => if spcB c = true then [92, c] else [c]
theorem quoP_snoc (l : List Int) (c : Int) : quoP (l ++ [c]) = quoP l ++ (if spcB c = true then [92, c] else [c]) := by rw [quoP, List.flatMap_append]; simp [quoP]
def oneP (c : Int) : Pt := ⟨0, c, [], false⟩
theorem patP_quo : ∀ (f : Nat) (l : List Int) (n : Nat) (D : List (List Pt)) (C : List Pt), (quoP l).length < f → patP f (quoP l) n D C = some (D ++ [C ++ l.map oneP], n + l.length)
  | 0, _, _, _, _, h => by omega
  | f + 1, [], n, D, C, h => by
    show patP (f + 1) [] n D C = _
    rw [patP, if_pos rfl]; simp
  | f + 1, c :: l, n, D, C, h => by
    have e : quoP (c :: l) = (if spcB c = true then [92, c] else [c]) ++ quoP l := rfl
    rw [e] at h ⊢
    by_cases hc : spcB c = true
    · rw [if_pos hc] at h ⊢
      simp only [List.cons_append, List.nil_append, List.length_cons] at h ⊢
      rw [patP, if_neg (by simp), if_neg (by simp), partP, if_neg (by simp), if_neg (by simp), if_neg (by simp), litP_cons, if_pos rfl]
      dsimp only
      rw [patP_quo f l _ D _ (by omega)]
      simp only [List.map_cons, List.append_assoc, List.cons_append, List.nil_append, oneP, Option.some.injEq, Prod.mk.injEq, true_and]
      omega
    · rw [if_neg hc] at h ⊢
      simp only [List.cons_append, List.nil_append, List.length_cons] at h ⊢
      have h8 : c ≠ 42 ∧ c ≠ 63 ∧ c ≠ 91 ∧ c ≠ 93 ∧ c ≠ 124 ∧ c ≠ 33 ∧ c ≠ 45 ∧ c ≠ 92 := by
        unfold spcB at hc
        simpa [and_assoc] using hc
      rw [patP, if_neg (by simp), if_neg (by simpa using h8.2.2.2.2.1), partP, if_neg (by simpa using h8.2.1), if_neg (by simpa using h8.1), if_neg (by simpa using h8.2.2.1), litP_cons, if_neg h8.2.2.2.2.2.2.2]
      dsimp only
      rw [patP_quo f l _ D _ (by omega)]
      simp only [List.map_cons, List.append_assoc, List.cons_append, List.nil_append, oneP, Option.some.injEq, Prod.mk.injEq, true_and]
      omega
theorem comp_quo (l : List Int) (h : l.length ≤ 64) : compP (quoP l) = some [l.map oneP] := by
  unfold compP
  rw [patP_quo _ l 0 [] [] (by omega)]
  dsimp only
  rw [if_pos (by omega)]
  simp
theorem mt_ones : ∀ (l t : List Int), mtB false (l.map oneP) t = decide (t = l)
  | [], t => by rw [Bool.eq_iff_iff, decide_eq_true_iff]; exact mt_nil
  | c :: l, t => by
    rw [Bool.eq_iff_iff, decide_eq_true_iff, List.map_cons, mt_one (show (oneP c).kind ≠ 2 by show (0 : Nat) ≠ 2; decide), mt_ones l]
    cases t with
    | nil => simp
    | cons d t =>
      simp only [isP, oneP, if_pos, Bool.false_and, Bool.or_false, beq_iff_eq, List.getD_cons_zero, List.drop_succ_cons, List.drop_zero, decide_eq_true_eq, List.cons.injEq, List.length_cons]
      constructor
      · rintro ⟨_, h1, h2⟩; exact ⟨h1.symm, h2⟩
      · rintro ⟨h1, h2⟩; exact ⟨by omega, h1.symm, h2⟩
theorem quo_is (l t : List Int) : patIs false [l.map oneP] t = decide (t = l) := by
  unfold patIs
  simp only [List.any_cons, List.any_nil, Bool.or_false]
  exact mt_ones l t
end Go.Proofs.Ytplmdgimodgekaa
