/- Patterns: what they are, and for which texts they stand (plain). -/
import Derived.Test.YtplmdgimodgekaaStr
namespace Go.Proofs.Ytplmdgimodgekaa
open Go.RowKit Go.Proofs.YtplmdgimodgekaaW.PrintWords Go.Proofs.YtplmdgimodgekaaW.PrintLast Go.Proofs.YtplmdgimodgekaaW.PrintMore
set_option linter.unusedVariables false
set_option linter.unusedSimpArgs false
/-- A part: 0 a byte, 1 any byte, 2 any bytes, 3 a byte of a set of ranges. -/
structure Pt where
  kind : Nat
  c : Int
  ins : List (Int × Int)
  neg : Bool
def memI (L : List (Int × Int)) (c : Int) : Bool := L.any fun r => decide (r.1 ≤ c) && decide (c ≤ r.2)
def lowI (c : Int) : Int := if 65 ≤ c ∧ c ≤ 90 then c + 32 else c
def uppI (c : Int) : Int := if 97 ≤ c ∧ c ≤ 122 then c - 32 else c
def othI (c : Int) : Int := if 65 ≤ c ∧ c ≤ 90 then c + 32 else if 97 ≤ c ∧ c ≤ 122 then c - 32 else c
def isP (p : Pt) (c : Int) (fold : Bool) : Bool :=
  if p.kind = 0 then p.c == c || fold && lowI p.c == lowI c
  else if p.kind = 3 then (memI p.ins c || fold && (memI p.ins (lowI c) || memI p.ins (uppI c))) != p.neg
  else p.kind == 1
theorem low_oth (a c : Int) : (a == c || lowI a == lowI c) = (a == c || a == othI c) := by
  unfold lowI othI
  rw [Bool.eq_iff_iff]
  simp only [Bool.or_eq_true, beq_iff_eq]
  split <;> split <;> omega
theorem mem_oth (f : Int → Bool) (c : Int) : (f c || (f (lowI c) || f (uppI c))) = (f c || f (othI c)) := by
  unfold lowI uppI othI
  by_cases h1 : 65 ≤ c ∧ c ≤ 90
  · rw [if_pos h1, if_neg (by omega), if_pos h1]; cases f c <;> simp
  · rw [if_neg h1, if_neg h1]
    cases f c <;> simp
/-- As the document asks. -/
theorem isP_doc (p : Pt) (c : Int) (fold : Bool) : isP p c fold = if p.kind = 0 then p.c == c || fold && p.c == othI c else if p.kind = 3 then (memI p.ins c || fold && memI p.ins (othI c)) != p.neg else p.kind == 1 := by
  unfold isP
  cases fold
  · simp
  · simp only [Bool.true_and]
    rw [low_oth, mem_oth]
def mtB (fold : Bool) : List Pt → List Int → Bool
  | [], s => s.isEmpty
  | p :: l, s => if p.kind = 2 then (List.range (s.length + 1)).any (fun k => mtB fold l (s.drop k)) else match s with | [] => false | c :: s' => isP p c fold && mtB fold l s'
theorem mt_nil {fold : Bool} {s : List Int} : mtB fold [] s = true ↔ s = [] := by rw [mtB]; simp
theorem mt_many {fold : Bool} {p : Pt} {l : List Pt} {s : List Int} (h : p.kind = 2) : mtB fold (p :: l) s = true ↔ ∃ k, k ≤ s.length ∧ mtB fold l (s.drop k) = true := by
  rw [mtB.eq_def]
  dsimp only
  rw [if_pos h, List.any_eq_true]
  constructor
  · rintro ⟨k, hk, h2⟩
    exact ⟨k, by have := List.mem_range.1 hk; omega, h2⟩
  · rintro ⟨k, hk, h2⟩
    exact ⟨k, List.mem_range.2 (by omega), h2⟩
theorem mt_one {fold : Bool} {p : Pt} {l : List Pt} {s : List Int} (h : p.kind ≠ 2) : mtB fold (p :: l) s = true ↔ 0 < s.length ∧ isP p (s.getD 0 0) fold = true ∧ mtB fold l (s.drop 1) = true := by
  rw [mtB.eq_def]
  dsimp only
  rw [if_neg h]
  cases s with
  | nil => simp
  | cons c s => simp
theorem mt_app {fold : Bool} : ∀ (l1 l2 : List Pt) (s : List Int), mtB fold (l1 ++ l2) s = true ↔ ∃ k, k ≤ s.length ∧ mtB fold l1 (s.take k) = true ∧ mtB fold l2 (s.drop k) = true
  | [], l2, s => by
    simp only [List.nil_append, mt_nil]
    constructor
    · intro h; exact ⟨0, Nat.zero_le _, rfl, by simpa using h⟩
    · rintro ⟨k, h1, h2, h3⟩
      have : (s.take k).length = 0 := by rw [h2]; rfl
      rw [List.length_take] at this
      obtain rfl : k = 0 := by omega
      simpa using h3
  | p :: l1, l2, s => by
    rw [List.cons_append]
    by_cases h : p.kind = 2
    · rw [mt_many h]
      constructor
      · rintro ⟨j, hj, h2⟩
        obtain ⟨k, h3, h4, h5⟩ := (mt_app l1 l2 _).1 h2
        rw [List.length_drop] at h3
        refine ⟨j + k, by omega, (mt_many h).2 ⟨j, by rw [List.length_take]; omega, ?_⟩, by rw [List.drop_drop] at h5; exact h5⟩
        rw [List.drop_take, Nat.add_sub_cancel_left]; exact h4
      · rintro ⟨k, h1, h2, h3⟩
        obtain ⟨j, h4, h5⟩ := (mt_many h).1 h2
        rw [List.length_take] at h4
        refine ⟨j, by omega, (mt_app l1 l2 _).2 ⟨k - j, by rw [List.length_drop]; omega, ?_, ?_⟩⟩
        · rw [← List.drop_take]; exact h5
        · rw [List.drop_drop, show j + (k - j) = k by omega]; exact h3
    · rw [mt_one h]
      constructor
      · rintro ⟨h1, h2, h3⟩
        obtain ⟨k, h4, h5, h6⟩ := (mt_app l1 l2 _).1 h3
        rw [List.length_drop] at h4
        refine ⟨k + 1, by omega, (mt_one h).2 ⟨by rw [List.length_take]; omega, ?_, ?_⟩, ?_⟩
        · rw [List.getD_eq_getElem?_getD, List.getElem?_take_of_lt (by omega), ← List.getD_eq_getElem?_getD]; exact h2
        · rw [List.drop_take, Nat.add_sub_cancel]; exact h5
        · rw [List.drop_drop] at h6; rw [Nat.add_comm]; exact h6
      · rintro ⟨k, h1, h2, h3⟩
        obtain ⟨h4, h5, h6⟩ := (mt_one h).1 h2
        rw [List.length_take] at h4
        obtain ⟨j, rfl⟩ : ∃ j, k = j + 1 := ⟨k - 1, by omega⟩
        refine ⟨by omega, ?_, (mt_app l1 l2 _).2 ⟨j, by rw [List.length_drop]; omega, ?_, ?_⟩⟩
        · rw [List.getD_eq_getElem?_getD, List.getElem?_take_of_lt (by omega), ← List.getD_eq_getElem?_getD] at h5; exact h5
        · rw [List.drop_take, Nat.add_sub_cancel] at h6; exact h6
        · rw [List.drop_drop, Nat.add_comm]; exact h3
/-- A part more, by the table's rule: a star. -/
theorem mt_star {fold : Bool} {p : Pt} {l : List Pt} {s : List Int} (h : p.kind = 2) (at_ : Nat) (ha : at_ ≤ s.length) : mtB fold (l ++ [p]) (s.take at_) = (mtB fold l (s.take at_) || decide (0 < at_) && mtB fold (l ++ [p]) (s.take (at_ - 1))) := by
  have hst : ∀ t, mtB fold [p] t = true := fun t => (mt_many h).2 ⟨t.length, Nat.le_refl _, by rw [List.drop_length]; rfl⟩
  rw [Bool.eq_iff_iff, Bool.or_eq_true, Bool.and_eq_true, decide_eq_true_eq, mt_app, mt_app]
  simp only [hst, and_true, List.length_take, List.take_take]
  constructor
  · rintro ⟨k, h1, h2⟩
    by_cases e : k = at_
    · subst e; rw [Nat.min_self] at h2; exact .inl h2
    · exact .inr ⟨by omega, k, by omega, by rw [show min k (at_ - 1) = k by omega]; rw [show min k at_ = k by omega] at h2; exact h2⟩
  · rintro (h2 | ⟨h1, k, h3, h4⟩)
    · exact ⟨at_, by omega, by rw [Nat.min_self]; exact h2⟩
    · exact ⟨k, by omega, by rw [show min k (at_ - 1) = k by omega] at h4; rw [show min k at_ = k by omega]; exact h4⟩
/-- A part more: one byte. -/
theorem mt_byte {fold : Bool} {p : Pt} {l : List Pt} {s : List Int} (h : p.kind ≠ 2) (at_ : Nat) (ha : at_ ≤ s.length) : mtB fold (l ++ [p]) (s.take at_) = (decide (0 < at_) && (mtB fold l (s.take (at_ - 1)) && isP p (s.getD (at_ - 1) 0) fold)) := by
  rw [Bool.eq_iff_iff, Bool.and_eq_true, Bool.and_eq_true, decide_eq_true_eq, mt_app]
  simp only [mt_one h, mt_nil, List.length_take, List.take_take, List.length_drop, List.drop_drop]
  constructor
  · rintro ⟨k, h1, h2, h3, h4, h5⟩
    have hl := congrArg List.length h5
    simp only [List.length_drop, List.length_take, List.length_nil] at hl
    obtain rfl : k = at_ - 1 := by omega
    rw [show min (at_ - 1) at_ = at_ - 1 by omega] at h2
    rw [List.getD_eq_getElem?_getD, List.getElem?_drop, List.getElem?_take_of_lt (by omega), Nat.add_zero, ← List.getD_eq_getElem?_getD] at h4
    exact ⟨by omega, h2, h4⟩
  · rintro ⟨h1, h2, h3⟩
    refine ⟨at_ - 1, by omega, by rw [show min (at_ - 1) at_ = at_ - 1 by omega]; exact h2, by omega, ?_, List.drop_eq_nil_of_le (by rw [List.length_take]; omega)⟩
    rw [List.getD_eq_getElem?_getD, List.getElem?_drop, List.getElem?_take_of_lt (by omega), Nat.add_zero, ← List.getD_eq_getElem?_getD]
    exact h3
/-- Parts that stand for one byte each. -/
theorem mt_fix {fold : Bool} {l : List Pt} {s : List Int} (b f : Nat) : ∀ n, (∀ k, k < n → ∃ p, l[b + k]? = some p ∧ p.kind ≠ 2) → (mtB fold (l.drop b) (s.drop f) = true ↔ (n = 0 ∨ f + n ≤ s.length) ∧ (∀ k, k < n → ∀ p, l[b + k]? = some p → isP p (s.getD (f + k) 0) fold = true) ∧ mtB fold (l.drop (b + n)) (s.drop (f + n)) = true)
  | 0, _ => by simp
  | n + 1, h => by
    rw [mt_fix b f n (fun k hk => h k (by omega))]
    obtain ⟨p, hp, hk⟩ := h n (by omega)
    obtain ⟨hlt, he⟩ := List.getElem?_eq_some_iff.1 hp
    have hd : l.drop (b + n) = p :: l.drop (b + n + 1) := by rw [← he]; exact List.drop_eq_getElem_cons hlt
    rw [hd, mt_one hk, List.length_drop, List.drop_drop, List.getD_eq_getElem?_getD, List.getElem?_drop, Nat.add_zero, ← List.getD_eq_getElem?_getD]
    constructor
    · rintro ⟨h1, h2, h3, h4, h5⟩
      refine ⟨.inr (by omega), fun k hk' q hq => ?_, h5⟩
      by_cases e : k < n
      · exact h2 k e q hq
      · obtain rfl : k = n := by omega
        rw [hp] at hq
        injection hq with hq
        subst hq
        exact h4
    · rintro ⟨h1, h2, h3⟩
      exact ⟨by omega, fun k hk' => h2 k (by omega), by omega, h2 n (by omega) p hp, h3⟩
/-- Where the program stands: parts from b on stand for the bytes from f on, up to i and at; nothing is lost. -/
structure Gr (fold : Bool) (l : List Pt) (s : List Int) (i at_ : Nat) (star : Int) (frm b : Nat) : Prop where
  hi : b ≤ i ∧ i ≤ l.length
  ha : frm ≤ at_ ∧ at_ ≤ s.length
  hn : b + at_ = i + frm
  hf : ∀ k, k < i - b → ∃ p, l[b + k]? = some p ∧ p.kind ≠ 2 ∧ isP p (s.getD (frm + k) 0) fold = true
  h0 : star = -1 → b = 0 ∧ frm = 0
  h1 : star ≠ -1 → star + 1 = b ∧ (mtB fold l s = true ↔ ∃ f, frm ≤ f ∧ f ≤ s.length ∧ mtB fold (l.drop b) (s.drop f) = true)
theorem Gr.start (fold : Bool) (l : List Pt) (s : List Int) : Gr fold l s 0 0 (-1) 0 0 := ⟨⟨Nat.le_refl _, Nat.zero_le _⟩, ⟨Nat.le_refl _, Nat.zero_le _⟩, rfl, fun k hk => by omega, fun _ => ⟨rfl, rfl⟩, fun h => absurd rfl h⟩
section
variable {fold : Bool} {l : List Pt} {s : List Int} {i at_ frm b : Nat} {sr : Int}
theorem Gr.go (h : Gr fold l s i at_ sr frm b) : mtB fold (l.drop b) (s.drop frm) = true ↔ mtB fold (l.drop i) (s.drop at_) = true := by
  obtain ⟨⟨hi1, hi2⟩, ⟨ha1, ha2⟩, hn, hf, _, _⟩ := h
  rw [mt_fix b frm (i - b) (fun k hk => by obtain ⟨p, h1, h2, _⟩ := hf k hk; exact ⟨p, h1, h2⟩), show b + (i - b) = i by omega, show frm + (i - b) = at_ by omega]
  constructor
  · rintro ⟨_, _, h⟩; exact h
  · intro h
    refine ⟨by omega, fun k hk p hp => ?_, h⟩
    obtain ⟨q, h1, _, h3⟩ := hf k hk
    rw [h1] at hp
    injection hp with hp
    subst hp
    exact h3
theorem Gr.other (h : Gr fold l s i at_ sr frm b) (f : Nat) (hm : mtB fold (l.drop b) (s.drop f) = true) (hfl : f ≤ s.length) : f + (i - b) ≤ s.length ∧ mtB fold (l.drop i) (s.drop (f + (i - b))) = true := by
  obtain ⟨⟨hi1, hi2⟩, ⟨ha1, ha2⟩, hn, hf, _, _⟩ := h
  rw [mt_fix b f (i - b) (fun k hk => by obtain ⟨p, h1, h2, _⟩ := hf k hk; exact ⟨p, h1, h2⟩), show b + (i - b) = i by omega] at hm
  exact ⟨by rcases hm.1 with h | h <;> omega, hm.2.2⟩
theorem Gr.many {p : Pt} (h : Gr fold l s i at_ sr frm b) (hp : l[i]? = some p) (hk : p.kind = 2) : Gr fold l s (i + 1) at_ i at_ (i + 1) := by
  obtain ⟨hlt, he⟩ := List.getElem?_eq_some_iff.1 hp
  have hd : l.drop i = p :: l.drop (i + 1) := by rw [← he]; exact List.drop_eq_getElem_cons hlt
  refine ⟨⟨Nat.le_refl _, hlt⟩, ⟨Nat.le_refl _, h.ha.2⟩, by omega, fun k hk => by omega, fun h => by omega, fun _ => ⟨by omega, ?_⟩⟩
  have key : mtB fold (l.drop i) (s.drop at_) = true ↔ ∃ f, at_ ≤ f ∧ f ≤ s.length ∧ mtB fold (l.drop (i + 1)) (s.drop f) = true := by
    rw [hd, mt_many hk]
    have ha := h.ha.2
    constructor
    · rintro ⟨k, h1, h2⟩
      rw [List.length_drop] at h1
      exact ⟨at_ + k, by omega, by omega, by rw [List.drop_drop] at h2; exact h2⟩
    · rintro ⟨f, h1, h2, h3⟩
      exact ⟨f - at_, by rw [List.length_drop]; omega, by rw [List.drop_drop, show at_ + (f - at_) = f by omega]; exact h3⟩
  by_cases e : sr = -1
  · obtain ⟨rfl, rfl⟩ := h.h0 e
    rw [← key, ← h.go]
    exact Iff.rfl
  · rw [(h.h1 e).2, ← key]
    constructor
    · rintro ⟨f, h1, h2, h3⟩
      obtain ⟨h4, h5⟩ := h.other f h3 h2
      rw [key]
      rw [hd, mt_many hk] at h5
      obtain ⟨k, h6, h7⟩ := h5
      rw [List.length_drop] at h6
      have := h.hn
      have := h.hi
      exact ⟨f + (i - b) + k, by omega, by omega, by rw [List.drop_drop] at h7; exact h7⟩
    · intro h3
      exact ⟨frm, Nat.le_refl _, Nat.le_trans h.ha.1 h.ha.2, h.go.2 h3⟩
theorem Gr.one {p : Pt} (h : Gr fold l s i at_ sr frm b) (ha : at_ < s.length) (hp : l[i]? = some p) (hk : p.kind ≠ 2) (hm : isP p (s.getD at_ 0) fold = true) : Gr fold l s (i + 1) (at_ + 1) sr frm b := by
  obtain ⟨⟨hi1, hi2⟩, ⟨ha1, ha2⟩, hn, hf, h0, h1⟩ := h
  obtain ⟨hlt, he⟩ := List.getElem?_eq_some_iff.1 hp
  refine ⟨⟨by omega, hlt⟩, ⟨by omega, ha⟩, by omega, fun k hk' => ?_, h0, h1⟩
  by_cases e : k < i - b
  · exact hf k e
  · obtain rfl : k = i - b := by omega
    rw [show b + (i - b) = i by omega, show frm + (i - b) = at_ by omega]
    exact ⟨p, hp, hk, hm⟩
/-- It does not go on here. -/
theorem Gr.no (h : Gr fold l s i at_ sr frm b) (ha : at_ < s.length) (hp : ∀ p, l[i]? = some p → p.kind ≠ 2 ∧ isP p (s.getD at_ 0) fold = false) : ¬ mtB fold (l.drop i) (s.drop at_) = true := by
  intro hm
  cases hq : l[i]? with
  | none =>
    rw [List.drop_eq_nil_of_le (List.getElem?_eq_none_iff.1 hq), mt_nil] at hm
    have := congrArg List.length hm
    rw [List.length_drop, List.length_nil] at this
    omega
  | some p =>
    obtain ⟨hlt, he⟩ := List.getElem?_eq_some_iff.1 hq
    obtain ⟨h1, h2⟩ := hp p hq
    rw [List.drop_eq_getElem_cons hlt, he, mt_one h1] at hm
    have := hm.2.1
    rw [List.getD_eq_getElem?_getD, List.getElem?_drop, Nat.add_zero, ← List.getD_eq_getElem?_getD, h2] at this
    cases this
theorem Gr.back (h : Gr fold l s i at_ sr frm b) (ha : at_ < s.length) (hp : ∀ p, l[i]? = some p → p.kind ≠ 2 ∧ isP p (s.getD at_ 0) fold = false) (hs : sr ≠ -1) : Gr fold l s b (frm + 1) sr (frm + 1) b := by
  have hno := h.no ha hp
  rw [← h.go] at hno
  obtain ⟨⟨hi1, hi2⟩, ⟨ha1, ha2⟩, hn, hf, h0, h1⟩ := h
  obtain ⟨h2, h3⟩ := h1 hs
  refine ⟨⟨Nat.le_refl _, by omega⟩, ⟨Nat.le_refl _, by omega⟩, by omega, fun k hk => by omega, fun h => absurd h hs, fun _ => ⟨h2, h3.trans ?_⟩⟩
  constructor
  · rintro ⟨f, h4, h5, h6⟩
    by_cases e : f = frm
    · subst e; exact absurd h6 hno
    · exact ⟨f, by omega, h5, h6⟩
  · rintro ⟨f, h4, h5, h6⟩
    exact ⟨f, by omega, h5, h6⟩
theorem Gr.never (h : Gr fold l s i at_ sr frm b) (ha : at_ < s.length) (hp : ∀ p, l[i]? = some p → p.kind ≠ 2 ∧ isP p (s.getD at_ 0) fold = false) (hs : sr = -1) : mtB fold l s = false := by
  have hno := h.no ha hp
  rw [← h.go] at hno
  obtain ⟨rfl, rfl⟩ := h.h0 hs
  simpa using hno
theorem Gr.last (h : Gr fold l s i at_ sr frm b) (ha : at_ = s.length) : mtB fold l s = mtB fold (l.drop i) [] := by
  have hg := h.go
  rw [show s.drop at_ = [] from List.drop_eq_nil_of_le (by omega)] at hg
  rw [Bool.eq_iff_iff, ← hg]
  by_cases e : sr = -1
  · obtain ⟨rfl, rfl⟩ := h.h0 e
    exact Iff.rfl
  · rw [(h.h1 e).2]
    constructor
    · rintro ⟨f, h1, h2, h3⟩
      obtain ⟨h4, h5⟩ := h.other f h3 h2
      have := h.hn
      have := h.hi
      obtain rfl : f = frm := by omega
      exact h3
    · intro h3
      exact ⟨frm, Nat.le_refl _, Nat.le_trans h.ha.1 h.ha.2, h3⟩
end
theorem mt_end_skip {fold : Bool} {l : List Pt} {i : Nat} {p : Pt} (hp : l[i]? = some p) (hk : p.kind = 2) : mtB fold (l.drop i) [] = mtB fold (l.drop (i + 1)) [] := by
  obtain ⟨hlt, he⟩ := List.getElem?_eq_some_iff.1 hp
  rw [List.drop_eq_getElem_cons hlt, he, Bool.eq_iff_iff, mt_many hk]
  constructor
  · rintro ⟨k, _, h⟩; simpa using h
  · intro h; exact ⟨0, Nat.zero_le _, by simpa using h⟩
theorem mt_end_no {fold : Bool} {l : List Pt} {i : Nat} {p : Pt} (hp : l[i]? = some p) (hk : p.kind ≠ 2) : mtB fold (l.drop i) [] = false := by
  obtain ⟨hlt, he⟩ := List.getElem?_eq_some_iff.1 hp
  rw [List.drop_eq_getElem_cons hlt, he, mtB.eq_def]
  dsimp only
  rw [if_neg hk]
theorem mt_end_all {fold : Bool} {l : List Pt} {i : Nat} (h : l.length ≤ i) : mtB fold (l.drop i) [] = true := by
  rw [List.drop_eq_nil_of_le h]; rfl
end Go.Proofs.Ytplmdgimodgekaa
