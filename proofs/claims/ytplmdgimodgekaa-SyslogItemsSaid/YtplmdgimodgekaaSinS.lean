/- Spans: split, Span; the document's Span. -/
import Derived.Test.YtplmdgimodgekaaSinU
namespace Go.Proofs.Ytplmdgimodgekaa
open Go.RowKit Go.Proofs.YtplmdgimodgekaaW.PrintWords Go.Proofs.YtplmdgimodgekaaW.PrintLast Go.Proofs.YtplmdgimodgekaaW.PrintMore
attribute [local go_sem] max2_int min2_int max_two min_two max_three min_three max_four min_four   -- for this text's walks alone
set_option linter.unusedVariables false
set_option linter.unusedSimpArgs false

def dgt (c : Int) : Bool := decide (48 ≤ c ∧ c ≤ 57)
def ltr (c : Int) : Bool := decide (97 ≤ c ∧ c ≤ 122)
/-- How many at the front are such. -/
def tw (p : Int → Bool) : List Int → Nat
  | [] => 0
  | c :: l => if p c then tw p l + 1 else 0
theorem tw_le (p : Int → Bool) : ∀ l : List Int, tw p l ≤ l.length
  | [] => Nat.le_refl _
  | c :: l => by
    have := tw_le p l
    rw [tw, List.length_cons]; split <;> omega
theorem tw_all (p : Int → Bool) : ∀ (l : List Int) (j : Nat), j < tw p l → p (l.getD j 0) = true
  | [], j, h => by simp [tw] at h
  | c :: l, j, h => by
    rw [tw] at h
    split at h
    · rename_i hc
      cases j with
      | zero => simpa using hc
      | succ j => rw [List.getD_cons_succ]; exact tw_all p l j (by omega)
    · omega
theorem tw_end (p : Int → Bool) : ∀ (l : List Int), tw p l < l.length → p (l.getD (tw p l) 0) = false
  | [], h => by simp at h
  | c :: l, h => by
    by_cases hc : p c = true
    · rw [tw, if_pos hc] at h ⊢
      rw [List.getD_cons_succ]
      exact tw_end p l (by rw [List.length_cons] at h; omega)
    · rw [tw, if_neg hc]
      simpa using hc
def aL (l : List Int) : List Int := l.take (tw dgt l)
def tL (l : List Int) : List Int := (l.drop (tw dgt l)).take (tw ltr (l.drop (tw dgt l)))
def rL (l : List Int) : List Int := (l.drop (tw dgt l)).drop (tw ltr (l.drop (tw dgt l)))
def most : Int := 1152921504606846976
def uOf (l : List Int) : Int := if tL l = [] then (if rL l = [] then 1000000 else 0) else unitP (tL l)
def spF : Nat → List Int → Int → Option Int
  | 0, _, _ => none
  | f + 1, l, s => match numG (aL l) with
    | none => none
    | some n => if uOf l = 0 ∨ most - s < n * uOf l then none else if rL l = [] then some (s + n * uOf l) else spF f (rL l) (s + n * uOf l)
def spanP (l : List Int) : Option Int := if l = [] then none else spF l.length l 0
def spV (l : List Int) : Value := .tuple #[.int .u64 ((spanP l).getD 0), .bool (spanP l).isSome]
theorem spV_none {l : List Int} (h : spanP l = none) : spV l = .tuple #[.int .u64 0, .bool false] := by rw [spV, h]; rfl
theorem spV_some {l : List Int} {v : Int} (h : spanP l = some v) : spV l = .tuple #[.int .u64 v, .bool true] := by rw [spV, h]; rfl
theorem rL_len {l : List Int} {n : Int} (h : numG (aL l) = some n) : (rL l).length < l.length := by
  have h1 : aL l ≠ [] := fun e => by rw [e] at h; cases h
  have h2 : 0 < tw dgt l := by
    rcases Nat.eq_zero_or_pos (tw dgt l) with e | e
    · exact absurd (by rw [aL, e]; rfl) h1
    · exact e
  have h3 := tw_le dgt l
  rw [rL, List.length_drop, List.length_drop]; omega
theorem numG_bd {l : List Int} {n : Int} (h : numG l = some n) : 0 ≤ n ∧ n ≤ 18446744073709551615 := (numG_dec h).2
theorem aL_isB {l : List Int} (h : isB l) : isB (aL l) := h.take _
theorem tL_isB {l : List Int} (h : isB l) : isB (tL l) := (h.drop _).take _
theorem rL_isB {l : List Int} (h : isB l) : isB (rL l) := (h.drop _).drop _
theorem ndec {n u s : Int} (hn : 0 ≤ n) (hu : 1 ≤ u) (hs : s ≤ most) : (n ≤ (most - s) / u ↔ ¬ most - s < n * u) := by
  rw [Int.le_ediv_iff_mul_le (by omega)]; omega
theorem tw_abs (p : Int → Bool) (l : List Int) (B n E : Nat) (hn : l.length = n) (hB : B ≤ n) (hE : E = B + tw p (l.drop B)) : B ≤ E ∧ E ≤ n ∧ (∀ q, B ≤ q → q < E → p (l.getD q 0) = true) ∧ (E < n → p (l.getD E 0) = false) := by
  have h1 := tw_le p (l.drop B)
  rw [List.length_drop] at h1
  have hg : ∀ j, (l.drop B).getD j 0 = l.getD (B + j) 0 := fun j => by rw [List.getD_eq_getElem?_getD, List.getD_eq_getElem?_getD, List.getElem?_drop]
  refine ⟨by omega, by omega, fun q h2 h3 => ?_, fun h2 => ?_⟩
  · have := tw_all p (l.drop B) (q - B) (by omega)
    rw [hg, show B + (q - B) = q by omega] at this
    exact this
  · have := tw_end p (l.drop B) (by rw [List.length_drop]; omega)
    rw [hg, ← hE] at this
    exact this

set_option maxHeartbeats 8000000 in
set_option maxRecDepth 100000 in
theorem split_calls (l : List Int) (w : World) (hl : isB l) (hm : l.length ≤ 100000) :
    Calls Try.prog 69 #[.string (strOfNums l)] w fun e w' => e = .returned (.tuple #[.string (strOfNums (aL l)), .string (strOfNums (tL l)), .string (strOfNums (rL l))]) ∧ Below w.heap.size w w' := by
  have hs := strOf_size l
  obtain ⟨n, hn⟩ : ∃ n, l.length = n := ⟨_, rfl⟩
  obtain ⟨E1, e1⟩ : ∃ E, E = 0 + tw dgt (l.drop 0) := ⟨_, rfl⟩
  obtain ⟨hB1, hE1, fa1, fe1⟩ := tw_abs dgt l 0 n E1 hn (Nat.zero_le _) e1
  obtain ⟨E2, e2⟩ : ∃ E, E = E1 + tw ltr (l.drop E1) := ⟨_, rfl⟩
  obtain ⟨hB2, hE2, fa2, fe2⟩ := tw_abs ltr l E1 n E2 hn hE1 e2
  have e1' : tw dgt l = E1 := by rw [e1, Nat.zero_add, List.drop_zero]
  have ha : aL l = l.take E1 := by rw [aL, e1']
  have ht : tL l = (l.take E2).drop E1 := by rw [tL, e1', List.drop_take, e2, Nat.add_sub_cancel_left]
  have hr : rL l = l.drop E2 := by rw [rL, e1', List.drop_drop, e2]
  have x1 : (strOfNums l).extract 0 E1 = strOfNums (aL l) := by rw [strOf_extract, List.drop_zero, ha]
  have x2 : (strOfNums l).extract E1 E2 = strOfNums (tL l) := by rw [strOf_extract, ht]
  have x3 : (strOfNums l).extract E2 n = strOfNums (rL l) := by rw [strOf_extract, ← hn, List.take_of_length_le (Nat.le_refl _), hr]
  have HI := Aside0.mk hl
  have HN := Aside0.mk hn
  have FA1 := Aside0.mk fa1
  have FE1 := Aside0.mk fe1
  have FA2 := Aside0.mk fa2
  have FE2 := Aside0.mk fe2
  obtain ⟨S, hS⟩ : ∃ S, strOfNums l = S := ⟨_, rfl⟩
  obtain ⟨S1, hS1⟩ : ∃ S, strOfNums (aL l) = S := ⟨_, rfl⟩
  obtain ⟨S2, hS2⟩ : ∃ S, strOfNums (tL l) = S := ⟨_, rfl⟩
  obtain ⟨S3, hS3⟩ : ∃ S, strOfNums (rL l) = S := ⟨_, rfl⟩
  rw [hS, hn] at hs
  rw [hS, hS1] at x1
  rw [hS, hS2] at x2
  rw [hS, hS3] at x3
  rw [hS, hS1, hS2, hS3]
  have HS := Aside0.mk hS
  rw [hn] at hm
  clear hl hn fa1 fe1 fa2 fe2 hS hS1 hS2 hS3 e1 e2 e1' ha ht hr hB1
  go_enter Try.func69, Try.ntmps69
  go_upto_block 0 with (fail)
  go_cut [5] (fun v wx => v = .int .i64 (E1 : Nat) ∧ w = wx)
  case first =>
    go_wp2_with fail
    go_loop [5] (fun v => ∃ jj : Nat, 0 ≤ jj ∧ jj ≤ E1 ∧ v = .int .i64 jj) (fun v => n - (intOf v).toNat)
    case atStart => exact ⟨0, by omega, by omega, rfl⟩
    case round =>
      obtain ⟨jj, hpB, hpE, rfl⟩ := hrel
      by_cases d1 : jj < E1
      · have hx := FA1.out jj hpB d1
        have hix := str_at l HI.out jj jj rfl (by rw [HN.out]; omega)
        rw [HS.out] at hix
        obtain ⟨x, ex⟩ : ∃ x, l.getD jj 0 = x := ⟨_, rfl⟩
        rw [ex] at hix hx
        obtain ⟨x0, x1⟩ := (of_decide_eq_true hx : 48 ≤ x ∧ x ≤ 57)
        have hpl : jj < n := by omega
        clear hx ex
        go_wp2_with fail
        go_round
        case rel => exact ⟨jj + 1, by omega, by omega, by go_num⟩
        case measure => simp [intOf] <;> omega
      · have hpe : jj = E1 := by omega
        subst hpe
        by_cases d2 : jj < n
        · have hx := FE1.out d2
          have hix := str_at l HI.out jj jj rfl (by rw [HN.out]; omega)
          rw [HS.out] at hix
          obtain ⟨x, ex⟩ : ∃ x, l.getD jj 0 = x := ⟨_, rfl⟩
          rw [ex] at hix hx
          have hx2 : x < 48 ∨ (¬ x < 48 ∧ 57 < x) := by have := of_decide_eq_false hx; omega
          clear hx ex
          rcases hx2 with x0 | ⟨x0, x1⟩
          · go_wp2_with fail
            go_meet
            exact ⟨rfl, rfl⟩
          · go_wp2_with fail
            go_meet
            exact ⟨rfl, rfl⟩
        · go_wp2_with fail
          go_meet
          exact ⟨rfl, rfl⟩
  obtain ⟨rfl, rfl⟩ := hcut
  go_upto_block 2 with (fail)
  go_cut [6] (fun v wx => v = .int .i64 (E2 : Nat) ∧ w = wx)
  case first =>
    go_wp2_with fail
    go_loop [6] (fun v => ∃ jj : Nat, E1 ≤ jj ∧ jj ≤ E2 ∧ v = .int .i64 jj) (fun v => n - (intOf v).toNat)
    case atStart => exact ⟨E1, by omega, by omega, rfl⟩
    case round =>
      obtain ⟨jj, hpB, hpE, rfl⟩ := hrel
      by_cases d1 : jj < E2
      · have hx := FA2.out jj hpB d1
        have hix := str_at l HI.out jj jj rfl (by rw [HN.out]; omega)
        rw [HS.out] at hix
        obtain ⟨x, ex⟩ : ∃ x, l.getD jj 0 = x := ⟨_, rfl⟩
        rw [ex] at hix hx
        obtain ⟨x0, x1⟩ := (of_decide_eq_true hx : 97 ≤ x ∧ x ≤ 122)
        have hpl : jj < n := by omega
        clear hx ex
        go_wp2_with fail
        go_round
        case rel => exact ⟨jj + 1, by omega, by omega, by go_num⟩
        case measure => simp [intOf] <;> omega
      · have hpe : jj = E2 := by omega
        subst hpe
        by_cases d2 : jj < n
        · have hx := FE2.out d2
          have hix := str_at l HI.out jj jj rfl (by rw [HN.out]; omega)
          rw [HS.out] at hix
          obtain ⟨x, ex⟩ : ∃ x, l.getD jj 0 = x := ⟨_, rfl⟩
          rw [ex] at hix hx
          have hx2 : x < 97 ∨ (¬ x < 97 ∧ 122 < x) := by have := of_decide_eq_false hx; omega
          clear hx ex
          rcases hx2 with x0 | ⟨x0, x1⟩
          · go_wp2_with fail
            go_meet
            exact ⟨rfl, rfl⟩
          · go_wp2_with fail
            go_meet
            exact ⟨rfl, rfl⟩
        · go_wp2_with fail
          go_meet
          exact ⟨rfl, rfl⟩
  obtain ⟨rfl, rfl⟩ := hcut
  have k0 : (0 : Int) ≤ (E1 : Int) := by omega
  have k1 : (E1 : Int) ≤ (E2 : Int) := by omega
  have k2 : (E2 : Int) ≤ (n : Int) := by omega
  have k3 : (E1 : Int) ≤ (n : Int) := by omega
  have k4 : (0 : Int) ≤ (E2 : Int) := by omega
  go_wp2_with fail
  go_quiet (fail)
  go_wp2_with fail
  go_ret3
  exact ⟨rfl, pw_below_drewN (Below.refl _ _) _⟩
theorem spF_none (f : Nat) (r : List Int) (s : Int) (h : numG (aL r) = none) : spF (f + 1) r s = none := by rw [spF, h]
theorem spF_some (f : Nat) (r : List Int) (s : Int) {x : Int} (h : numG (aL r) = some x) : spF (f + 1) r s = if uOf r = 0 ∨ most - s < x * uOf r then none else if rL r = [] then some (s + x * uOf r) else spF f (rL r) (s + x * uOf r) := by rw [spF, h]
theorem unitQ_bd (l : List Int) : 0 ≤ unitQ l ∧ unitQ l ≤ 604800000000 := by
  unfold unitQ; split
  · omega
  · exact unit_bd l
theorem str_ne {l : List Int} (h : l ≠ []) : (strOfNums l).toList.isEmpty = false ∧ ((strOfNums l).toList == []) = false := by
  rw [strOfNums_toList']
  cases l with
  | nil => exact absurd rfl h
  | cons => exact ⟨rfl, rfl⟩
theorem tL_len (l : List Int) : (tL l).length ≤ l.length := by rw [tL, List.length_take, List.length_drop]; omega
theorem aL_len (l : List Int) : (aL l).length ≤ l.length := by rw [aL, List.length_take]; omega
/-- The state at a round's head: r is left, the sum is s. -/
def SpI (l r : List Int) (s : Int) : Prop := ∃ f, r.length ≤ f ∧ (if r = [] then some s else spF f r s) = spanP l
theorem SpI.none {l r : List Int} {s : Int} (h : SpI l r s) (hr : r ≠ []) (hn : ∀ f, spF (f + 1) r s = none) : spanP l = none := by
  obtain ⟨f, hf, h⟩ := h
  rw [if_neg hr] at h
  cases f with
  | zero => exact absurd (List.eq_nil_of_length_eq_zero (by omega)) hr
  | succ f => rw [← h]; exact hn f
theorem SpI.next {l r : List Int} {s s' : Int} (h : SpI l r s) (hr : r ≠ []) (hlt : (rL r).length < r.length) (hn : ∀ f, spF (f + 1) r s = if rL r = [] then some s' else spF f (rL r) s') : SpI l (rL r) s' := by
  obtain ⟨f, hf, h⟩ := h
  rw [if_neg hr] at h
  cases f with
  | zero => exact absurd (List.eq_nil_of_length_eq_zero (by omega)) hr
  | succ f => exact ⟨f, by omega, by rw [← h, hn f]⟩
set_option maxHeartbeats 8000000 in
set_option maxRecDepth 100000 in
theorem Span_calls (l : List Int) (w : World) (hl : isB l) (hm : l.length ≤ 1000) :
    Calls Try.prog 27 #[.string (strOfNums l)] w fun e w' => e = .returned (spV l) ∧ Below w.heap.size w w' := by
  by_cases h0 : l = []
  · subst h0
    rw [show strOfNums [] = ByteArray.empty from rfl]
    go_enter Try.func27, Try.ntmps27
    go_wp2_with fail
    go_ret2
    exact ⟨rfl, Below.refl _ _⟩
  · obtain ⟨e0, e1⟩ := str_ne h0
    obtain ⟨n, hn⟩ : ∃ n, l.length = n := ⟨_, rfl⟩
    rw [hn] at hm
    have HI := Aside0.mk hl
    have H0 := Aside0.mk (show SpI l l 0 from ⟨l.length, Nat.le_refl _, by rw [if_neg h0, spanP, if_neg h0]⟩)
    have HN := Aside0.mk (show l.length ≤ n by omega)
    obtain ⟨S, hS⟩ : ∃ S, strOfNums l = S := ⟨_, rfl⟩
    rw [hS] at e0 e1 ⊢
    have HS := Aside0.mk hS
    clear hl hn h0 hS
    go_enter Try.func27, Try.ntmps27
    go_wp2_with fail
    clear e0 e1
    rw [← HS.out]
    go_loopg [0, 4] n (fun kq v0 v4 w' => ∃ (r : List Int) (s : Int), 0 ≤ s ∧ s ≤ 1152921504606846976 ∧ v0 = .string (strOfNums r) ∧ v4 = .int .u64 s ∧ Aside0 (r.length ≤ kq ∧ kq ≤ 1000) ∧ Aside0 (isB r) ∧ Aside0 (SpI l r s) ∧ Aside0 (Below w.heap.size w w'))
    case atStart => exact ⟨l, 0, by omega, by decide, rfl, rfl, ⟨⟨HN.out, hm⟩⟩, HI, H0, ⟨Below.refl _ _⟩⟩
    case round =>
      clear HI H0
      obtain ⟨r, s, s0, s1, rfl, rfl, HK, HI, HT, HB⟩ := hrel
      by_cases c0 : r = []
      · subst c0
        have HV := Aside0.mk (spV_some (l := l) (v := s) (by obtain ⟨f, _, h⟩ := HT.out; rw [if_pos rfl] at h; exact h.symm))
        rw [show strOfNums [] = ByteArray.empty from rfl]
        go_wp2_with fail
        go_ret2
        exact ⟨congrArg Ending.returned HV.out.symm, HB.out⟩
      · obtain ⟨e0, e1⟩ := str_ne c0
        have HNE := Aside0.mk c0
        have C1 := Aside0.mk (fun w => split_calls r w HI.out (by have := HK.out; omega))
        have C2 := Aside0.mk (fun w => eNumber_calls (aL r) w (aL_isB HI.out) (by have := aL_len r; have := HK.out; omega))
        have C3 := Aside0.mk (fun w => unit_calls (tL r) w (tL_isB HI.out))
        obtain ⟨R, hR⟩ : ∃ S, strOfNums r = S := ⟨_, rfl⟩
        obtain ⟨S1, hS1⟩ : ∃ S, strOfNums (aL r) = S := ⟨_, rfl⟩
        obtain ⟨S2, hS2⟩ : ∃ S, strOfNums (tL r) = S := ⟨_, rfl⟩
        obtain ⟨S3, hS3⟩ : ∃ S, strOfNums (rL r) = S := ⟨_, rfl⟩
        rw [hR, hS1, hS2, hS3] at C1
        rw [hS1] at C2
        rw [hS2] at C3
        rw [hR] at e0 e1 ⊢
        have HS2 := Aside0.mk hS2
        have HS3 := Aside0.mk hS3
        clear c0 hR hS1 hS2 hS3
        cases hg : numG (aL r) with
        | none =>
          have HV := Aside0.mk (spV_none (HT.out.none HNE.out (fun f => spF_none f r s hg)))
          rw [nuV_none hg] at C2
          clear hg
          obtain ⟨u, hu⟩ : ∃ u, unitQ (tL r) = u := ⟨_, rfl⟩
          rw [hu] at C3
          clear hu
          go_wp2_with fail
          with_reducible refine (C1.out _).mono ?_
          rintro _ w1 ⟨rfl, hb⟩
          have HB1 := Aside0.mk (below_step HB.out hb)
          clear hb
          go_wp2_with fail
          with_reducible refine (C2.out _).mono ?_
          rintro _ w2 ⟨rfl, hb⟩
          replace HB1 := Aside0.mk (below_step HB1.out hb)
          clear hb
          go_wp2_with fail
          with_reducible refine (C3.out _).mono ?_
          rintro _ w3 ⟨rfl, rfl⟩
          go_wp2_with fail
          go_ret2
          exact ⟨congrArg Ending.returned HV.out.symm, HB1.out⟩
        | some x =>
          obtain ⟨x0, x1⟩ := numG_bd hg
          rw [nuV_some hg] at C2
          have HLT := Aside0.mk (rL_len hg)
          have HSP := Aside0.mk (fun f => spF_some f r s hg)
          clear hg
          obtain ⟨u0, u1⟩ := unitQ_bd (tL r)
          obtain ⟨u, hu⟩ : ∃ u, unitQ (tL r) = u := ⟨_, rfl⟩
          rw [hu] at C3 u0 u1
          have HU := Aside0.mk hu
          have HUO := Aside0.mk (show (tL r = [] ∧ rL r ≠ [] → uOf r = 0) ∧ (¬ (tL r = [] ∧ rL r ≠ []) → uOf r = u) by
            rw [← hu, uOf, unitQ]
            refine ⟨fun h => by rw [if_pos h.1, if_neg h.2], fun h => ?_⟩
            by_cases h1 : tL r = []
            · rw [if_pos h1, if_pos h1]
              by_cases h2 : rL r = []
              · rw [if_pos h2]
              · exact absurd ⟨h1, h2⟩ h
            · rw [if_neg h1, if_neg h1])
          clear hu
          go_wp2_with fail
          with_reducible refine (C1.out _).mono ?_
          rintro _ w1 ⟨rfl, hb⟩
          have HB1 := Aside0.mk (below_step HB.out hb)
          clear hb
          go_wp2_with fail
          with_reducible refine (C2.out _).mono ?_
          rintro _ w2 ⟨rfl, hb⟩
          replace HB1 := Aside0.mk (below_step HB1.out hb)
          clear hb
          go_wp2_with fail
          with_reducible refine (C3.out _).mono ?_
          rintro _ w3 ⟨rfl, rfl⟩
          by_cases g1 : u = 0
          · have HV := Aside0.mk (spV_none (HT.out.none HNE.out (fun f => by
              rw [HSP.out f, if_pos (.inl (by
                by_cases h : tL r = [] ∧ rL r ≠ []
                · exact HUO.out.1 h
                · rw [HUO.out.2 h, g1]))])))
            subst g1
            clear x1
            go_wp2_with fail
            go_ret2
            exact ⟨congrArg Ending.returned HV.out.symm, HB1.out⟩
          · have g2 : 1 ≤ u := by omega
            have g3 : (u == 0) = false := by rw [beq_eq_false_iff_ne]; exact g1
            obtain ⟨q, hq⟩ : ∃ q, (1152921504606846976 : Int) / u = q := ⟨_, rfl⟩
            obtain ⟨m, hm⟩ : ∃ m, x * u = m := ⟨_, rfl⟩
            have HNQ := Aside0.mk (show x ≤ q ↔ ¬ 1152921504606846976 < m by
              have := ndec (s := 0) x0 g2 (by decide)
              unfold most at this
              rw [Int.sub_zero, hq, hm] at this
              exact this)
            have hm0 : 0 ≤ m := by rw [← hm]; exact Int.mul_nonneg x0 u0
            have HM := Aside0.mk hm
            have hq2 : (1152921504606846976 : Int).tdiv u = q := by rw [Int.tdiv_eq_ediv_of_nonneg (by decide)]; exact hq
            have hq0 : 0 ≤ q := by rw [← hq]; exact Int.ediv_nonneg (by decide) u0
            have hq1 : q ≤ 1152921504606846976 := by rw [← hq]; exact Int.ediv_le_self u (by decide)
            have hwq : IntKind.u64.wrap q = q := by rw [IntKind.wrap_u64]; omega
            clear x1
            by_cases g4 : q < x
            · have HV := Aside0.mk (spV_none (HT.out.none HNE.out (fun f => by
                rw [HSP.out f, if_pos (by
                  by_cases h : tL r = [] ∧ rL r ≠ []
                  · exact .inl (HUO.out.1 h)
                  · right; rw [HUO.out.2 h, HM.out]; unfold most; have := HNQ.out; omega)])))
              go_wp2_with fail
              go_ret2
              exact ⟨congrArg Ending.returned HV.out.symm, HB1.out⟩
            · have hm1 : m ≤ 1152921504606846976 := by have := HNQ.out; omega
              have hwm : IntKind.u64.wrap m = m := by rw [IntKind.wrap_u64]; omega
              have hws : IntKind.u64.wrap (s + m) = s + m := by rw [IntKind.wrap_u64]; omega
              by_cases g5 : 1152921504606846976 < s + m
              · have HV := Aside0.mk (spV_none (HT.out.none HNE.out (fun f => by
                  rw [HSP.out f, if_pos (by
                    by_cases h : tL r = [] ∧ rL r ≠ []
                    · exact .inl (HUO.out.1 h)
                    · right; rw [HUO.out.2 h, HM.out]; unfold most; omega)])))
                go_wp2_with fail
                go_ret2
                exact ⟨congrArg Ending.returned HV.out.symm, HB1.out⟩
              · have HNX := Aside0.mk (show ¬ (tL r = [] ∧ rL r ≠ []) → SpI l (rL r) (s + m) from fun h => HT.out.next HNE.out HLT.out (fun f => by
                  rw [HSP.out f, HUO.out.2 h, HM.out, if_neg (by unfold most; omega)]))
                by_cases g6 : rL r = []
                · have h3 : S3 = ByteArray.empty := by rw [← HS3.out, g6]; rfl
                  have HN2 := Aside0.mk (HNX.out (fun h => h.2 g6))
                  subst h3
                  have HS3' := Aside0.mk (show ByteArray.empty = strOfNums (rL r) from HS3.out.symm)
                  clear g6 HS3
                  go_wp2_with fail
                  rw [HS3'.out]
                  go_roundg (rL r).length
                  case measure => have := HLT.out; have := HK.out; omega
                  case rel => exact ⟨rL r, s + m, by omega, by omega, rfl, rfl, ⟨⟨Nat.le_refl _, by have := HLT.out; have := HK.out; omega⟩⟩, ⟨rL_isB HI.out⟩, HN2, HB1⟩
                · obtain ⟨f0, f1⟩ := str_ne g6
                  rw [HS3.out] at f0 f1
                  by_cases g7 : tL r = []
                  · have HV := Aside0.mk (spV_none (HT.out.none HNE.out (fun f => by rw [HSP.out f, if_pos (.inl (HUO.out.1 ⟨g7, g6⟩))])))
                    have h2 : S2 = ByteArray.empty := by rw [← HS2.out, g7]; rfl
                    subst h2
                    clear g6 g7
                    go_wp2_with fail
                    go_ret2
                    exact ⟨congrArg Ending.returned HV.out.symm, HB1.out⟩
                  · obtain ⟨f2, f3⟩ := str_ne g7
                    rw [HS2.out] at f2 f3
                    have HN2 := Aside0.mk (HNX.out (fun h => g7 h.1))
                    clear g6 g7
                    go_wp2_with fail
                    rw [← HS3.out]
                    go_roundg (rL r).length
                    case measure => have := HLT.out; have := HK.out; omega
                    case rel => exact ⟨rL r, s + m, by omega, by omega, rfl, rfl, ⟨⟨Nat.le_refl _, by have := HLT.out; have := HK.out; omega⟩⟩, ⟨rL_isB HI.out⟩, HN2, HB1⟩
end Go.Proofs.Ytplmdgimodgekaa
