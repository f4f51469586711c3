/- Syslog: the program's front and pid. -/
import Derived.Test.YtplmdgimodgekaaSysN
import Derived.Test.YtplmdgimodgekaaDecN
namespace Go.Proofs.Ytplmdgimodgekaa
open Go.RowKit Go.Proofs.YtplmdgimodgekaaW.PrintWords Go.Proofs.YtplmdgimodgekaaW.PrintLast Go.Proofs.YtplmdgimodgekaaW.PrintMore
attribute [local go_sem] max2_int min2_int max_two min_two max_three min_three max_four min_four   -- for this text's walks alone
set_option linter.unusedVariables false
set_option linter.unusedSimpArgs false
/-- Cut at a byte: what is ahead, what is behind, whether it is there. -/
def cutI (l : List Int) (c : Int) : List Int × List Int × Bool := if idxI l c < 0 then (l, [], false) else (l.take (idxI l c).toNat, l.drop ((idxI l c).toNat + 1), true)
theorem cut_calls (l : List Int) (c : Int) (C : ByteArray) (w : World) (hC : C = strOfNums [c]) (hl : isB l) (hc : 0 ≤ c ∧ c ≤ 255) (hm : l.length ≤ 9223372036854775807) :
    Calls Try.prog 117 #[.string (strOfNums l), .string C] w fun e w' => e = .returned (.tuple #[.string (strOfNums (cutI l c).1), .string (strOfNums (cutI l c).2.1), .bool (cutI l c).2.2]) ∧ Below w.heap.size w w' := by
  have hg := idxI_ge l c
  by_cases h : idxI l c < 0
  · rw [cutI, if_pos h]
    exact s_Cut_no l c C w hC hl hc (fun hm => by have := idxI_mem hm; omega)
  · rw [cutI, if_neg h]
    exact s_Cut_yes l c (idxI l c).toNat C w hC hl hc (by omega) hm
theorem cutI_isB {l : List Int} (h : isB l) (c : Int) : isB (cutI l c).1 ∧ isB (cutI l c).2.1 := by
  rw [cutI]; split
  · exact ⟨h, fun x hx => by cases hx⟩
  · exact ⟨h.take _, h.drop _⟩
theorem cutI_len (l : List Int) (c : Int) : (cutI l c).1.length ≤ l.length ∧ (cutI l c).2.1.length ≤ l.length := by
  rw [cutI]; split
  · exact ⟨Nat.le_refl _, by simp⟩
  · simp only [List.length_take, List.length_drop]; omega
/-- Cut off a first byte. -/
def offI (l : List Int) (c : Int) : List Int × Bool := if l.take 1 = [c] then (l.drop 1, true) else (l, false)
theorem off_calls (l : List Int) (c : Int) (C : ByteArray) (w : World) (hC : C = strOfNums [c]) (hl : isB l) (hc : 0 ≤ c ∧ c ≤ 255) (hm : l.length ≤ 9223372036854775807) :
    Calls Try.prog 86 #[.string (strOfNums l), .string C] w fun e w' => e = .returned (.tuple #[.string (strOfNums (offI l c).1), .bool (offI l c).2]) ∧ Below w.heap.size w w' := by
  have h := s_CutPrefix l [c] (decide (l.take 1 = [c])) C w hC hl (fun x hx => by simp at hx; omega) hm (by simp) rfl
  refine h.mono ?_
  rintro e w1 ⟨rfl, hw⟩
  refine ⟨?_, hw⟩
  rw [offI]
  by_cases e : l.take 1 = [c]
  · rw [if_pos e, decide_eq_true e]; rfl
  · rw [if_neg e, decide_eq_false e]; rfl
theorem offI_isB {l : List Int} (h : isB l) (c : Int) : isB (offI l c).1 := by
  rw [offI]; split
  · exact h.drop _
  · exact h
theorem offI_len (l : List Int) (c : Int) : (offI l c).1.length ≤ l.length := by
  rw [offI]; split
  · simp only [List.length_drop]; omega
  · exact Nat.le_refl _
/-- The priority in front: its number and what follows. -/
def frP (l : List Int) : Option (Int × List Int) :=
  if (offI l 60).2 = true ∧ (cutI (offI l 60).1 62).2.2 = true ∧ (cutI (offI l 60).1 62).1.length ≤ 3 then
    match numG (cutI (offI l 60).1 62).1 with
    | some n => if n ≤ 191 then some (n, (cutI (offI l 60).1 62).2.1) else none
    | none => none
  else none
def frV (l : List Int) : Value := match frP l with | some x => .tuple #[.int .i64 x.1, .string (strOfNums x.2), .bool true] | none => .tuple #[.int .i64 0, .string (strOfNums l), .bool false]
/-- A number in brackets in front. -/
def piP (l : List Int) : List Int × List Int :=
  if (offI l 91).2 = true ∧ (cutI (offI l 91).1 93).2.2 = true ∧ (numG (cutI (offI l 91).1 93).1).isSome = true then ((cutI (offI l 91).1 93).1, (cutI (offI l 91).1 93).2.1) else ([], l)

set_option maxHeartbeats 8000000 in
set_option maxRecDepth 100000 in
theorem front_calls (l : List Int) (w : World) (hl : isB l) (hm : l.length ≤ 140737488351232) : Calls Try.prog 83 #[.string (strOfNums l)] w fun e w' => e = .returned (frV l) ∧ Below w.heap.size w w' := by
  rw [frV, frP]
  have hR := offI_isB hl 60
  have hRL := offI_len l 60
  have C1 := Aside0.mk (fun w => off_calls l 60 ⟨#[60]⟩ w rfl hl (by decide) (by omega))
  obtain ⟨R, eR⟩ : ∃ R, offI l 60 = R := ⟨_, rfl⟩
  rw [eR] at hR hRL C1 ⊢
  obtain ⟨r, ok⟩ := R
  dsimp only at hR hRL C1 ⊢
  have hK := cutI_isB hR 62
  have hKL := cutI_len r 62
  have C2 := Aside0.mk (fun w => cut_calls r 62 ⟨#[62]⟩ w rfl hR (by decide) (by omega))
  obtain ⟨K, eK⟩ : ∃ K, cutI r 62 = K := ⟨_, rfl⟩
  rw [eK] at hK hKL C2 ⊢
  obtain ⟨a, t, is⟩ := K
  dsimp only at hK hKL C2 ⊢
  have C3 := Aside0.mk (fun w => eNumber_calls a w hK.1 (by omega))
  clear eR eK hR hK

  have hs := strOf_size a
  obtain ⟨S, hS⟩ : ∃ S, strOfNums l = S := ⟨_, rfl⟩
  obtain ⟨X, hX⟩ : ∃ S, strOfNums r = S := ⟨_, rfl⟩
  obtain ⟨Y, hY⟩ : ∃ S, strOfNums a = S := ⟨_, rfl⟩
  obtain ⟨Z, hZ⟩ : ∃ S, strOfNums t = S := ⟨_, rfl⟩
  obtain ⟨n, hn⟩ : ∃ n, a.length = n := ⟨_, rfl⟩
  rw [hS] at C1 ⊢
  rw [hX] at C1 C2
  rw [hY] at C2 C3 hs
  rw [hZ] at C2
  rw [hn] at hs hKL ⊢
  have HZ := Aside0.mk hZ
  clear hS hX hY hZ hn hl
  by_cases c1 : ok = true ∧ is = true ∧ n ≤ 3
  · obtain ⟨rfl, rfl, c3⟩ := c1
    rw [if_pos ⟨rfl, rfl, c3⟩]
    cases hg : numG a with
    | none =>
      rw [nuV_none hg] at C3
      clear hg
      go_enter Try.func83, Try.ntmps83

      go_wp2_with fail
      refine (C1.out _).mono ?_
      rintro _ w1 ⟨rfl, hb⟩
      have HB := Aside0.mk hb
      clear hb
      go_wp2_with fail
      refine (C2.out _).mono ?_
      rintro _ w2 ⟨rfl, hb⟩
      replace HB := Aside0.mk (below_step HB.out hb)
      clear hb
      go_wp2_with fail
      refine (C3.out _).mono ?_
      rintro _ w3 ⟨rfl, hb⟩
      replace HB := Aside0.mk (below_step HB.out hb)
      clear hb
      go_wp2_with fail
      go_ret3
      exact ⟨rfl, HB.out⟩
    | some v =>
      rw [nuV_some hg] at C3
      obtain ⟨v0, v1⟩ := (numG_dec hg).2
      clear hg v1
      dsimp only
      by_cases c4 : v ≤ 191
      · rw [if_pos c4]
        dsimp only
        rw [HZ.out]
        have hcv : IntKind.i64.wrap v = v := by rw [IntKind.wrap_i64]; omega
        go_enter Try.func83, Try.ntmps83

        go_wp2_with fail
        refine (C1.out _).mono ?_
        rintro _ w1 ⟨rfl, hb⟩
        have HB := Aside0.mk hb
        clear hb
        go_wp2_with fail
        refine (C2.out _).mono ?_
        rintro _ w2 ⟨rfl, hb⟩
        replace HB := Aside0.mk (below_step HB.out hb)
        clear hb
        go_wp2_with fail
        refine (C3.out _).mono ?_
        rintro _ w3 ⟨rfl, hb⟩
        replace HB := Aside0.mk (below_step HB.out hb)
        clear hb
        go_wp2_with fail
        go_ret3
        exact ⟨rfl, HB.out⟩
      · rw [if_neg c4]
        go_enter Try.func83, Try.ntmps83

        go_wp2_with fail
        refine (C1.out _).mono ?_
        rintro _ w1 ⟨rfl, hb⟩
        have HB := Aside0.mk hb
        clear hb
        go_wp2_with fail
        refine (C2.out _).mono ?_
        rintro _ w2 ⟨rfl, hb⟩
        replace HB := Aside0.mk (below_step HB.out hb)
        clear hb
        go_wp2_with fail
        refine (C3.out _).mono ?_
        rintro _ w3 ⟨rfl, hb⟩
        replace HB := Aside0.mk (below_step HB.out hb)
        clear hb
        go_wp2_with fail
        go_ret3
        exact ⟨rfl, HB.out⟩
  · rw [if_neg c1]
    dsimp only
    have HC := Aside0.mk c1
    clear c1
    go_enter Try.func83, Try.ntmps83

    go_wp2_with fail
    refine (C1.out _).mono ?_
    rintro _ w1 ⟨rfl, hb⟩
    have HB := Aside0.mk hb
    clear hb
    go_wp2_with fail
    refine (C2.out _).mono ?_
    rintro _ w2 ⟨rfl, hb⟩
    replace HB := Aside0.mk (below_step HB.out hb)
    clear hb
    cases ok with
    | false =>
      go_wp2_with fail
      go_ret3
      exact ⟨rfl, HB.out⟩
    | true =>
      cases is with
      | false =>
        go_wp2_with fail
        go_ret3
        exact ⟨rfl, HB.out⟩
      | true =>
        have h3 : 3 < n := by
          rcases Nat.lt_or_ge 3 n with h | h
          · exact h
          · exact absurd ⟨rfl, rfl, h⟩ HC.out
        go_wp2_with fail
        go_ret3
        exact ⟨rfl, HB.out⟩
theorem strNil : strOfNums [] = (⟨#[]⟩ : ByteArray) := rfl
set_option maxHeartbeats 8000000 in
set_option maxRecDepth 100000 in
theorem pid_calls (l : List Int) (w : World) (hl : isB l) (hm : l.length ≤ 140737488351232) : Calls Try.prog 85 #[.string (strOfNums l)] w fun e w' => e = .returned (.tuple #[.string (strOfNums (piP l).1), .string (strOfNums (piP l).2)]) ∧ Below w.heap.size w w' := by
  rw [piP]
  have hR := offI_isB hl 91
  have hRL := offI_len l 91
  have C1 := Aside0.mk (fun w => off_calls l 91 ⟨#[91]⟩ w rfl hl (by decide) (by omega))
  obtain ⟨R, eR⟩ : ∃ R, offI l 91 = R := ⟨_, rfl⟩
  rw [eR] at hR hRL C1 ⊢
  obtain ⟨r, ok⟩ := R
  dsimp only at hR hRL C1 ⊢
  have hK := cutI_isB hR 93
  have hKL := cutI_len r 93
  have C2 := Aside0.mk (fun w => cut_calls r 93 ⟨#[93]⟩ w rfl hR (by decide) (by omega))
  obtain ⟨K, eK⟩ : ∃ K, cutI r 93 = K := ⟨_, rfl⟩
  rw [eK] at hK hKL C2 ⊢
  obtain ⟨a, t, is⟩ := K
  dsimp only at hK hKL C2 ⊢
  have C3 := Aside0.mk (fun w => eNumber_calls a w hK.1 (by omega))
  clear eR eK hR hK

  rw [nuV] at C3
  obtain ⟨n, hn⟩ : ∃ n, (numG a).getD 0 = n := ⟨_, rfl⟩
  obtain ⟨fine, hf⟩ : ∃ n, (numG a).isSome = n := ⟨_, rfl⟩
  rw [hn, hf] at C3
  rw [hf]
  obtain ⟨X, hX⟩ : ∃ S, strOfNums r = S := ⟨_, rfl⟩
  rw [hX] at C1 C2
  clear hX hn hf
  by_cases c1 : ok = true ∧ is = true ∧ fine = true
  · obtain ⟨rfl, rfl, rfl⟩ := c1
    rw [if_pos ⟨rfl, rfl, rfl⟩]
    dsimp only
    obtain ⟨S, hS⟩ : ∃ S, strOfNums l = S := ⟨_, rfl⟩
    obtain ⟨Y, hY⟩ : ∃ S, strOfNums a = S := ⟨_, rfl⟩
    obtain ⟨Z, hZ⟩ : ∃ S, strOfNums t = S := ⟨_, rfl⟩
    rw [hS] at C1 ⊢
    rw [hY] at C2 C3 ⊢
    rw [hZ] at C2 ⊢
    clear hS hY hZ hl
    go_enter Try.func85, Try.ntmps85

    go_wp2_with fail
    refine (C1.out _).mono ?_
    rintro _ w1 ⟨rfl, hb⟩
    have HB := Aside0.mk hb
    clear hb
    go_wp2_with fail
    refine (C2.out _).mono ?_
    rintro _ w2 ⟨rfl, hb⟩
    replace HB := Aside0.mk (below_step HB.out hb)
    clear hb
    go_wp2_with fail
    refine (C3.out _).mono ?_
    rintro _ w3 ⟨rfl, hb⟩
    replace HB := Aside0.mk (below_step HB.out hb)
    clear hb
    go_wp2_with fail
    go_ret2
    exact ⟨rfl, HB.out⟩
  · rw [if_neg c1]
    dsimp only
    rw [strNil]
    have HC := Aside0.mk c1
    clear c1
    obtain ⟨S, hS⟩ : ∃ S, strOfNums l = S := ⟨_, rfl⟩
    obtain ⟨Y, hY⟩ : ∃ S, strOfNums a = S := ⟨_, rfl⟩
    obtain ⟨Z, hZ⟩ : ∃ S, strOfNums t = S := ⟨_, rfl⟩
    rw [hS] at C1 ⊢
    rw [hY] at C2 C3
    rw [hZ] at C2
    clear hS hY hZ hl
    go_enter Try.func85, Try.ntmps85

    go_wp2_with fail
    refine (C1.out _).mono ?_
    rintro _ w1 ⟨rfl, hb⟩
    have HB := Aside0.mk hb
    clear hb
    go_wp2_with fail
    refine (C2.out _).mono ?_
    rintro _ w2 ⟨rfl, hb⟩
    replace HB := Aside0.mk (below_step HB.out hb)
    clear hb
    go_wp2_with fail
    refine (C3.out _).mono ?_
    rintro _ w3 ⟨rfl, hb⟩
    replace HB := Aside0.mk (below_step HB.out hb)
    clear hb
    cases ok with
    | false =>
      go_wp2_with fail
      go_ret2
      exact ⟨rfl, HB.out⟩
    | true =>
      cases is with
      | false =>
        go_wp2_with fail
        go_ret2
        exact ⟨rfl, HB.out⟩
      | true =>
        cases fine with
        | false =>
          go_wp2_with fail
          go_ret2
          exact ⟨rfl, HB.out⟩
        | true => exact absurd ⟨rfl, rfl, rfl⟩ HC.out
/-- The reference's: what stands between two bytes at the front, and where it ends. -/
def wiP (l : List Int) (o c : Int) : List Int × Int := if l.take 1 = [o] ∧ 0 ≤ idxI (l.drop 1) c then ((l.drop 1).take (idxI (l.drop 1) c).toNat, idxI (l.drop 1) c + 2) else ([], 0)
theorem idxI_first : ∀ (r : List Int) (c : Int) (i : Nat), i < r.length → (∀ j, j < i → r.getD j 0 ≠ c) → r.getD i 0 = c → idxI r c = i
  | [], _, _, h, _, _ => by simp at h
  | b :: r, c, 0, _, _, h => by rw [List.getD_cons_zero] at h; rw [idxI, if_pos h]; rfl
  | b :: r, c, i + 1, hi, h, hc => by
    have h0 := h 0 (by omega)
    rw [List.getD_cons_zero] at h0
    have ih := idxI_first r c i (by rw [List.length_cons] at hi; omega) (fun j hj => by have := h (j + 1) (by omega); rwa [List.getD_cons_succ] at this) (by rwa [List.getD_cons_succ] at hc)
    rw [idxI, if_neg h0, ih, if_neg (by omega)]; omega
theorem idxI_not {r : List Int} {c : Int} (h : ∀ j, j < r.length → r.getD j 0 ≠ c) : idxI r c = -1 := idxI_none r c fun hm => by
  obtain ⟨j, hj, e⟩ := List.mem_iff_getElem.1 hm
  have := h j hj
  rw [List.getD_eq_getElem?_getD, List.getElem?_eq_getElem hj] at this
  exact this e
set_option maxHeartbeats 8000000 in
set_option maxRecDepth 100000 in
theorem within_calls (l : List Int) (o c : Int) (w : World) (hl : isB l) (hm : l.length ≤ 140737488351232) (o0 : 0 ≤ o ∧ o ≤ 255) (c0 : 0 ≤ c ∧ c ≤ 255) : Calls Try.prog 88 #[.string (strOfNums l), .int .u8 o, .int .u8 c] w fun e w' => e = .returned (.tuple #[.string (strOfNums (wiP l o c).1), .int .i64 (wiP l o c).2]) ∧ w = w' := by
  cases l with
  | nil =>
    rw [show wiP [] o c = ([], 0) from by rw [wiP, if_neg (by simp)]]
    rw [strNil]
    dsimp only
    go_enter Try.func88, Try.ntmps88
    go_wp2_with fail
    go_ret2
    exact ⟨rfl, rfl⟩
  | cons b r =>
    have hb := hl b (by simp)
    have hix := str_at (b :: r) hl 0 0 rfl (by simp)
    rw [List.getD_cons_zero] at hix
    have hs := strOf_size (b :: r)
    rw [List.length_cons] at hs hm
    by_cases c1 : b = o
    · subst c1
      have hbb : (b != b) = false := by simp
      have HL := Aside0.mk hl
      have HW := Aside0.mk (show wiP (b :: r) b c = if 0 ≤ idxI r c then (r.take (idxI r c).toNat, idxI r c + 2) else ([], 0) by rw [wiP]; simp)
      obtain ⟨V, hV⟩ : ∃ V, wiP (b :: r) b c = V := ⟨_, rfl⟩
      rw [hV] at HW ⊢
      have HX := Aside0.mk (fun k => strOf_extract (b :: r) 1 k)
      have HI := Aside0.mk (fun (k : Nat) (z : Int) (hz : z = (k : Int)) (h : k < r.length + 1) => str_at (b :: r) hl k z hz (by rw [List.length_cons]; exact h))
      obtain ⟨S, hS⟩ : ∃ S, strOfNums (b :: r) = S := ⟨_, rfl⟩
      rw [hS] at hs hix HX HI ⊢
      obtain ⟨N, hN⟩ : ∃ N, r.length = N := ⟨_, rfl⟩
      rw [hN] at hs hm HI
      have HN := Aside0.mk hN
      clear hV hl hS hN
      go_enter Try.func88, Try.ntmps88
      go_wp2_with fail
      go_loop [8] (fun v8 => ∃ k : Nat, 1 ≤ k ∧ k ≤ N + 1 ∧ v8 = .int .i64 k ∧ Aside0 (∀ j, j + 1 < k → r.getD j 0 ≠ c)) (fun v8 => N + 1 - (intOf v8).toNat)
      case atStart => exact ⟨1, by omega, by omega, rfl, ⟨fun j h => by omega⟩⟩
      case round =>
        obtain ⟨k, k1, hk, rfl, HK⟩ := hrel
        by_cases c2 : k < N + 1
        · obtain ⟨i, rfl⟩ : ∃ i, k = i + 1 := ⟨k - 1, by omega⟩
          have hi2 := HI.out (i + 1) ((i : Int) + 1) (by omega) c2
          rw [List.getD_cons_succ] at hi2
          obtain ⟨x, hx⟩ : ∃ x, r.getD i 0 = x := ⟨_, rfl⟩
          have HXX := Aside0.mk hx
          rw [hx] at hi2
          clear hx
          by_cases c3 : x = c
          · have hf := idxI_first r c i (by rw [HN.out]; omega) (fun j hj => HK.out j (by omega)) (HXX.out.trans c3)
            have HV := Aside0.mk (show V = (r.take i, (i : Int) + 2) by rw [HW.out, hf, if_pos (by omega)]; rfl)
            have hex := HX.out (i + 1)
            have HT := Aside0.mk (show ((b :: r).take (i + 1)).drop 1 = r.take i by rw [List.take_succ_cons]; rfl)
            rw [HT.out] at hex
            have b1 : (x == c) = true := by rw [beq_iff_eq]; exact c3
            clear hf c3
            obtain ⟨T, hT⟩ : ∃ T, strOfNums (r.take i) = T := ⟨_, rfl⟩
            rw [hT] at hex
            have HTT := Aside0.mk hT
            clear hT
            have hsl : ∀ W, (Instr.slice 9 (.string S) (some (.int .i64 1)) (some (.int .i64 ((i : Int) + 1))) none).run Try.prog W = .ok (.string T) W := fun W => by
              rw [run_slice_string W 9 S .i64 .i64 1 ((i : Int) + 1) Try.underlying9 (by omega) (by omega) (by rw [hs]; omega), ← hex]; rfl
            go_wp2_with fail
            go_ret2
            refine ⟨?_, rfl⟩
            rw [HV.out]
            dsimp only
            rw [HTT.out]
            first | rfl | (simp; omega) | (congr 3; omega)
          · have HK2 := Aside0.mk (show ∀ j, j + 1 < i + 1 + 1 → r.getD j 0 ≠ c from fun j hj => by
              by_cases e : j = i
              · rw [e, HXX.out]; exact c3
              · exact HK.out j (by omega))
            have b1 : (x == c) = false := by rw [beq_eq_false_iff_ne]; exact c3
            clear c3
            go_wp2_with fail
            go_round
            case rel => exact ⟨i + 1 + 1, by omega, by omega, by go_num, HK2⟩
            case measure => simp [intOf] <;> omega
        · obtain rfl : k = N + 1 := by omega
          have hf : idxI r c = -1 := idxI_not (fun j hj => HK.out j (by rw [HN.out] at hj; omega))
          have HV := Aside0.mk (show V = ([], 0) by rw [HW.out, hf, if_neg (by omega)])
          clear hf
          go_wp2_with fail
          go_ret2
          refine ⟨?_, rfl⟩
          rw [HV.out]
          rfl
    · rw [show wiP (b :: r) o c = ([], 0) from by rw [wiP, if_neg (by simp [c1])]]
      rw [strNil]
      dsimp only
      have hbb : (b != o) = true := by simp [c1]
      obtain ⟨S, hS⟩ : ∃ S, strOfNums (b :: r) = S := ⟨_, rfl⟩
      rw [hS] at hs hix ⊢
      clear hS hl c1
      go_enter Try.func88, Try.ntmps88
      go_wp2_with fail
      go_ret2
      exact ⟨rfl, rfl⟩
end Go.Proofs.Ytplmdgimodgekaa
