/- Patterns: Is; what is read is right; Quote. -/
import Derived.Test.YtplmdgimodgekaaPatG
import Derived.Test.YtplmdgimodgekaaBld
import Derived.Test.YtplmdgimodgekaaConvB
namespace Go.Proofs.Ytplmdgimodgekaa
open Go.RowKit Go.Proofs.YtplmdgimodgekaaW.PrintWords Go.Proofs.YtplmdgimodgekaaW.PrintLast Go.Proofs.YtplmdgimodgekaaW.PrintMore
attribute [local go_sem] max2_int min2_int max_two min_two max_three min_three max_four min_four   -- for this text's walks alone
set_option linter.unusedVariables false
set_option linter.unusedSimpArgs false

theorem litP_ok {l r : List Int} {c : Int} (hb : isB l) (h : litP l = some (c, r)) : 0 ≤ c ∧ c ≤ 255 := by
  match l, h with
  | d :: l, h =>
    rw [litP_cons] at h
    by_cases e : d = 92
    · rw [if_pos e] at h
      match l, h with
      | f :: l, h => cases h; exact hb _ (by simp)
    · rw [if_neg e] at h
      cases h; exact hb _ (by simp)
theorem setQ_kind {l r : List Int} {x : Pt} (h : setQ l = some (x, r)) : x.kind = 3 ∧ x.c = 0 := by
  have key : ∀ {neg : Bool} {l : List Int}, setR neg l = some (x, r) → x.kind = 3 ∧ x.c = 0 := fun {neg l} h => by
    rw [setR] at h
    cases e : setP (l.length + 1) l true [] with
    | none => rw [e] at h; cases h
    | some q =>
      obtain ⟨y, l'⟩ := q
      rw [e] at h
      cases h
      exact ⟨rfl, rfl⟩
  rw [setQ] at h
  split at h
  · exact key h
  · exact key h
theorem partP_ok {l r : List Int} {x : Pt} (hb : isB l) (h : partP l = some (x, r)) : x.ok := by
  rw [partP] at h
  split at h
  · cases h; exact ⟨by decide, by decide⟩
  · split at h
    · cases h; exact ⟨by decide, by decide⟩
    · split at h
      · obtain ⟨h1, h2⟩ := setQ_kind h
        exact ⟨by rw [h2]; decide, by rw [h1]; decide⟩
      · cases e : litP l with
        | none => rw [e] at h; cases h
        | some q =>
          obtain ⟨y, l'⟩ := q
          rw [e] at h
          cases h
          exact ⟨litP_ok hb e, Nat.zero_le _⟩
theorem patP_ok : ∀ {f : Nat} {l : List Int} {n m : Nat} {D ch : List (List Pt)} {C : List Pt}, isB l → (∀ c ∈ D, ∀ p ∈ c, Pt.ok p) → (∀ p ∈ C, Pt.ok p) → patP f l n D C = some (ch, m) → ∀ c ∈ ch, ∀ p ∈ c, Pt.ok p
  | 0, _, _, _, _, _, _, _, _, _, h => by cases h
  | f + 1, l, n, m, D, ch, C, hb, hD, hC, h => by
    rw [patP] at h
    have hDC : ∀ c ∈ D ++ [C], ∀ p ∈ c, Pt.ok p := fun c hc => by
      rcases List.mem_append.1 hc with hc | hc
      · exact hD c hc
      · simp at hc; subst hc; exact hC
    split at h
    · cases h; exact hDC
    · split at h
      · exact patP_ok (hb.drop _) hDC (fun p hp => by simp at hp) h
      · cases e : partP l with
        | none => rw [e] at h; cases h
        | some q =>
          obtain ⟨x, l'⟩ := q
          rw [e] at h
          refine patP_ok (fun y hy => hb y ((partP_sub e).subset hy)) hD (fun p hp => ?_) h
          rcases List.mem_append.1 hp with hp | hp
          · exact hC p hp
          · simp at hp; subst hp; exact partP_ok hb e
theorem compP_ok {l : List Int} {ch : List (List Pt)} (hb : isB l) (h : compP l = some ch) : ∀ c ∈ ch, ∀ p ∈ c, Pt.ok p := by
  rw [compP] at h
  cases e : patP (l.length + 1) l 0 [] [] with
  | none => rw [e] at h; cases h
  | some q =>
    obtain ⟨x, m⟩ := q
    rw [e] at h
    dsimp only at h
    split at h
    · cases h; exact patP_ok hb (fun c hc => by simp at hc) (fun p hp => by simp at hp) e
    · cases h
/-- How many parts all choices have. -/
theorem patP_len : ∀ {f : Nat} {l : List Int} {n m : Nat} {D ch : List (List Pt)} {C : List Pt}, D.length + 1 ≤ n + 1 → (∀ c ∈ D, c.length ≤ n) → C.length ≤ n → patP f l n D C = some (ch, m) → ch.length ≤ m + 1 ∧ ∀ c ∈ ch, c.length ≤ m
  | 0, _, _, _, _, _, _, _, _, _, h => by cases h
  | f + 1, l, n, m, D, ch, C, h0, hD, hC, h => by
    rw [patP] at h
    split at h
    · cases h
      refine ⟨by rw [List.length_append]; simpa using h0, fun c hc => ?_⟩
      rcases List.mem_append.1 hc with hc | hc
      · exact hD c hc
      · simp at hc; subst hc; exact hC
    · split at h
      · refine patP_len (by rw [List.length_append]; simp; omega) (fun c hc => ?_) (by simp) h
        rcases List.mem_append.1 hc with hc | hc
        · have := hD c hc; omega
        · simp at hc; subst hc; omega
      · cases e : partP l with
        | none => rw [e] at h; cases h
        | some q =>
          obtain ⟨x, l'⟩ := q
          rw [e] at h
          exact patP_len (by omega) (fun c hc => by have := hD c hc; omega) (by rw [List.length_append]; simp; omega) h
theorem compP_len {l : List Int} {ch : List (List Pt)} (h : compP l = some ch) : ch.length ≤ 65 ∧ ∀ c ∈ ch, c.length ≤ 64 := by
  rw [compP] at h
  cases e : patP (l.length + 1) l 0 [] [] with
  | none => rw [e] at h; cases h
  | some q =>
    obtain ⟨x, m⟩ := q
    rw [e] at h
    dsimp only at h
    split at h
    · cases h
      obtain ⟨h1, h2⟩ := patP_len (D := []) (C := []) (n := 0) (Nat.le_refl _) (fun c hc => by cases hc) (Nat.le_refl _) e
      exact ⟨by omega, fun c hc => by have := h2 c hc; omega⟩
    · cases h
/-- What a pattern may be. -/
structure ChOk (chs : List (List Pt)) : Prop where
  ok : ∀ c ∈ chs, ∀ p ∈ c, Pt.ok p
  n : chs.length ≤ 65
  m : ∀ c ∈ chs, c.length ≤ 64
theorem ChOk.of {l : List Int} {ch : List (List Pt)} (hb : isB l) (h : compP l = some ch) : ChOk ch := ⟨compP_ok hb h, (compP_len h).1, (compP_len h).2⟩
set_option maxHeartbeats 8000000 in
set_option maxRecDepth 100000 in
theorem pIs_nil (w : World) (s : ByteArray) : Calls Try.prog 18 #[.pointer none, .string s] w fun e w' => e = .returned (.bool false) ∧ w = w' := by
  go_enter Try.func18, Try.ntmps18
  go_wp2_with fail
  go_ret
  exact ⟨rfl, rfl⟩
set_option maxHeartbeats 8000000 in
set_option maxRecDepth 100000 in
theorem pIs_some (w : World) (g : Nat) (chs : List (List Pt)) (s : List Int) (fold : Bool) (h : PatV w g chs fold) (hok : ChOk chs) (hib : isB s) (hs : s.length ≤ 100000) :
    Calls Try.prog 18 #[.pointer (some ⟨g, 0, none⟩), .string (strOfNums s)] w fun e w' => e = .returned (.bool (patIs fold chs s)) ∧ Below w.heap.size w w' := by
  obtain ⟨vc, ds, h1, h2, h3, h4⟩ := h
  obtain ⟨K, hK⟩ : ∃ K, chs.length = K := ⟨_, rfl⟩
  have HP := Aside0.mk h1
  have H4 := Aside0.mk h4
  have HOK := Aside0.mk hok
  have HIB := Aside0.mk hib
  have HS := Aside0.mk hs
  have HK := Aside0.mk hK
  have hK9 : K ≤ 65 := by rw [← hK]; exact hok.n
  have H2 := Aside0.mk h2
  obtain ⟨A, c0, rfl, hc0, _⟩ := h2
  have HD := Aside0.mk (show ds.length = K by rw [h3, hK])
  rw [h3, hK] at hc0 H2 h1
  rw [show ds.length = K by rw [h3, hK]] at HP
  have x0 : w.cell? ⟨g, 0, none⟩ = some (.slice A K c0) := blk_cell h1 0
  obtain ⟨RES, hRES⟩ : ∃ R, patIs fold chs s = R := ⟨_, rfl⟩
  have HRES := Aside0.mk hRES
  rw [hRES]
  clear h1 h3 h4 hok hib hs hK hRES
  go_enter Try.func18, Try.ntmps18
  go_upto_block 0 with (fail)
  clear x0
  go_cut [] (fun wx => Aside0 (RES = false) ∧ Aside0 (Below w.heap.size w wx))
  case first =>
    go_wp2_with fail
    go_loopg [14] (K + 1) (fun kq v14 w' => ∃ i : Nat, v14 = .int .i64 (i : Int) ∧ i ≤ K ∧ K + 1 ≤ i + kq ∧ Aside0 (∀ j, j < i → mtB fold (chs.getD j []) s = false) ∧ Aside0 (Below w.heap.size w w'))
    case atStart => exact ⟨0, rfl, Nat.zero_le _, by omega, Aside0.mk (fun j hj => by omega), Aside0.mk (Below.refl _ _)⟩
    case round =>
      obtain ⟨i, rfl, hi, hik, HF, HB⟩ := hrel
      by_cases c1 : i < K
      · have g1 : decide ((i : Int) < (K : Int)) = true := decide_eq_true (by omega)
        have g1' : decide (i < K) = true := decide_eq_true c1
        obtain ⟨ad, eA, y0⟩ := rdE_at (H2.out.below HB.out) i (by rw [HD.out]; exact c1)
        subst eA
        have hil : i < chs.length := by rw [HK.out]; exact c1
        have HV := Aside0.mk ((H4.out i hil).below HB.out)
        obtain ⟨l, hl⟩ : ∃ l, chs.getD i [] = l := ⟨_, rfl⟩
        have HLM := Aside0.mk (show l ∈ chs by rw [← hl, List.getD_eq_getElem?_getD, List.getElem?_eq_getElem hil]; exact List.getElem_mem hil)
        obtain ⟨v, hv⟩ : ∃ v, SlE (ds.getD i (none, 0, 0)) = v := ⟨_, rfl⟩
        rw [hl, hv] at HV
        rw [hv] at y0
        have HL := Aside0.mk hl
        have HPB := Aside0.mk (show PaV wr g (.slice (some ad) K c0) fold from blk_below HP.out HB.out)
        clear hl hv hil
        go_wp2_with fail
        with_reducible refine (pMatch_calls _ g _ v l s fold HPB.out HV.out (HOK.out.ok l HLM.out) HIB.out HS.out (by have := HOK.out.m l HLM.out; omega)).mono ?_
        rintro e w1 ⟨rfl, hb⟩
        have HB1 := Aside0.mk (below_step HB.out hb)
        clear hb
        obtain ⟨bb, hbb⟩ : ∃ bb, mtB fold l s = bb := ⟨_, rfl⟩
        have HBB := Aside0.mk hbb
        rw [hbb]
        clear hbb
        have wi : IntKind.i64.wrap ((i : Int) + 1) = (i : Int) + 1 := by rw [IntKind.wrap_i64]; omega
        cases bb with
        | true =>
          have HRT := Aside0.mk (show RES = true by rw [← HRES.out, patIs, List.any_eq_true]; exact ⟨l, HLM.out, HBB.out⟩)
          go_wp2_with fail
          go_ret
          exact ⟨by rw [HRT.out]; rfl, HB1.out⟩
        | false =>
          go_wp2_with fail
          go_roundg (gk - 1)
          case measure => omega
          case rel => exact ⟨i + 1, by go_num, c1, by omega, Aside0.mk (fun j hj => by
            by_cases e : j < i
            · exact HF.out j e
            · obtain rfl : j = i := by omega
              rw [HL.out]; exact HBB.out), HB1⟩
      · have g1 : decide ((i : Int) < (K : Int)) = false := decide_eq_false (by omega)
        have g1' : decide (i < K) = false := decide_eq_false c1
        go_wp2_with fail
        go_meet
        refine ⟨Aside0.mk ?_, HB⟩
        rw [← HRES.out, patIs, Bool.eq_false_iff]
        intro e
        obtain ⟨l, hl, hm⟩ := List.any_eq_true.1 e
        obtain ⟨j, hj, rfl⟩ := List.getElem_of_mem hl
        have := HF.out j (by rw [HK.out] at hj; omega)
        rw [List.getD_eq_getElem?_getD, List.getElem?_eq_getElem hj] at this
        exact absurd hm (by rw [show chs[j] = ((some chs[j] : Option (List Pt)).getD []) from rfl, this]; decide)
  case rest =>
  obtain ⟨HRF, HB⟩ := hcut
  go_wp2_with fail
  go_ret
  exact ⟨by rw [HRF.out]; rfl, HB.out⟩
end Go.Proofs.Ytplmdgimodgekaa
