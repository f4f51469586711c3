/- Patterns: Is in the document; the law PatternMatches. -/
import Derived.Test.YtplmdgimodgekaaPatW
import Derived.Test.YtplmdgimodgekaaPatI
import Derived.Test.YtplmdgimodgekaaStrs
namespace Go.Proofs.Ytplmdgimodgekaa
open Go.RowKit Go.Proofs.YtplmdgimodgekaaW.PrintWords Go.Proofs.YtplmdgimodgekaaW.PrintLast Go.Proofs.YtplmdgimodgekaaW.PrintMore
attribute [local go_sem] max2_int min2_int max_two min_two max_three min_three max_four min_four   -- for this text's walks alone
set_option linter.unusedVariables false
set_option linter.unusedSimpArgs false

set_option maxHeartbeats 8000000 in
set_option maxRecDepth 100000 in
theorem rIsP_calls (w : World) (v : Value) (xs : List (List PtX)) (s : List Int) (fold : Bool) (h : RfP w v xs) (hlen : ∀ l ∈ xs, l.length ≤ 100000) (hK9 : xs.length ≤ 100000) (hib : isB s) (hs : s.length ≤ 100000) :
    Calls Try.prog 19 #[v, .string (strOfNums s), .bool fold] w fun e w' => e = .returned (.bool (patIs fold (xs.map fsts) s)) ∧ Below w.heap.size w w' := by
  obtain ⟨ds, h2, h3, h4, base, h5⟩ := h
  obtain ⟨K, hK⟩ : ∃ K, xs.length = K := ⟨_, rfl⟩
  have H4 := Aside0.mk h4
  have H5 := Aside0.mk h5
  have HLEN := Aside0.mk hlen
  have HIB := Aside0.mk hib
  have HS := Aside0.mk hs
  have HK := Aside0.mk hK
  have H2 := Aside0.mk h2
  obtain ⟨A, c0, rfl, hc0, _⟩ := h2
  have HD := Aside0.mk (show ds.length = K by rw [h3, hK])
  rw [h3, hK] at hc0 H2
  rw [show ds.length = K by rw [h3, hK]]
  rw [hK] at hK9
  obtain ⟨RES, hRES⟩ : ∃ R, patIs fold (xs.map fsts) s = R := ⟨_, rfl⟩
  have HRES := Aside0.mk hRES
  rw [hRES]
  clear h3 h4 h5 hlen hib hs hK hRES
  go_enter Try.func19, Try.ntmps19
  go_upto_block 0 with (fail)
  go_cut [] (fun wx => Aside0 (RES = false) ∧ Aside0 (Below w.heap.size w wx))
  case first =>
    go_wp2_with fail
    go_loopg [7] (K + 1) (fun kq v7 w' => ∃ i : Nat, v7 = .int .i64 (i : Int) ∧ i ≤ K ∧ K + 1 ≤ i + kq ∧ Aside0 (∀ j, j < i → mtB fold (fsts (xs.getD j [])) s = false) ∧ Aside0 (Below w.heap.size w w'))
    case atStart => exact ⟨0, rfl, Nat.zero_le _, by omega, Aside0.mk (fun j hj => by omega), Aside0.mk (Below.refl _ _)⟩
    case round =>
      obtain ⟨i, rfl, hi, hik, HF, HB⟩ := hrel
      by_cases c1 : i < K
      · have g1 : decide ((i : Int) < (K : Int)) = true := decide_eq_true (by omega)
        have g1' : decide (i < K) = true := decide_eq_true c1
        obtain ⟨ad, eA, y0⟩ := rdE_at (H2.out.below HB.out) i (by rw [HD.out]; exact c1)
        subst eA
        have hil : i < xs.length := by rw [HK.out]; exact c1
        have HV := Aside0.mk ((H4.out i hil).below HB.out)
        obtain ⟨l, hl⟩ : ∃ l, xs.getD i [] = l := ⟨_, rfl⟩
        have HLM := Aside0.mk (show l ∈ xs by rw [← hl, List.getD_eq_getElem?_getD, List.getElem?_eq_getElem hil]; exact List.getElem_mem hil)
        obtain ⟨v, hv⟩ : ∃ v, SlE (ds.getD i (none, 0, 0)) = v := ⟨_, rfl⟩
        rw [hl, hv] at HV
        rw [hv] at y0
        have HL := Aside0.mk hl
        clear hl hv hil
        go_wp2_with fail
        with_reducible refine (rWhole_calls _ v l s fold base HV.out (fun x hx => (H5.out l HLM.out x hx).kp (Kp.of_below HB.out (fun _ => False)) (fun _ _ _ => id)) HIB.out HS.out (HLEN.out l HLM.out)).mono ?_
        rintro e w1 ⟨rfl, hb⟩
        have HB1 := Aside0.mk (below_step HB.out hb)
        clear hb
        obtain ⟨bb, hbb⟩ : ∃ bb, mtB fold (fsts l) s = bb := ⟨_, rfl⟩
        have HBB := Aside0.mk hbb
        rw [hbb]
        clear hbb
        have wi : IntKind.i64.wrap ((i : Int) + 1) = (i : Int) + 1 := by rw [IntKind.wrap_i64]; omega
        cases bb with
        | true =>
          have HRT := Aside0.mk (show RES = true by rw [← HRES.out, patIs, List.any_eq_true]; exact ⟨fsts l, List.mem_map.2 ⟨l, HLM.out, rfl⟩, HBB.out⟩)
          go_wp2_with fail
          go_ret
          exact ⟨by rw [HRT.out]; rfl, HB1.out⟩
        | false =>
          go_wp2_with fail
          go_roundg (gk - 1)
          case measure => omega
          case rel => exact ⟨i + 1, by go_num, c1, by omega, Aside0.mk (fun j hj => by
            by_cases e : j < i
            · exact HF.out j e
            · obtain rfl : j = i := by omega
              rw [HL.out]; exact HBB.out), HB1⟩
      · have g1 : decide ((i : Int) < (K : Int)) = false := decide_eq_false (by omega)
        have g1' : decide (i < K) = false := decide_eq_false c1
        go_wp2_with fail
        go_meet
        refine ⟨Aside0.mk ?_, HB⟩
        rw [← HRES.out, patIs, Bool.eq_false_iff]
        intro e
        obtain ⟨l, hl, hm⟩ := List.any_eq_true.1 e
        obtain ⟨l0, hl0, rfl⟩ := List.mem_map.1 hl
        obtain ⟨j, hj, rfl⟩ := List.getElem_of_mem hl0
        have := HF.out j (by rw [HK.out] at hj; omega)
        rw [List.getD_eq_getElem?_getD, List.getElem?_eq_getElem hj] at this
        exact absurd hm (by rw [show xs[j] = ((some xs[j] : Option (List PtX)).getD []) from rfl, this]; decide)
  case rest =>
  obtain ⟨HRF, HB⟩ := hcut
  go_wp2_with fail
  go_ret
  exact ⟨by rw [HRF.out]; rfl, HB.out⟩
/-- What the document's Compile has told of a text. -/
def RpV2 (W : World) (v : Value) (ok : Bool) (L : List Int) : Prop := (compP L = none ∧ v = .slice none 0 0 ∧ ok = false) ∨ ∃ xs, compP L = some (xs.map fsts) ∧ ok = true ∧ RfP W v xs
theorem RpV2.below {W W1 : World} {v : Value} {ok : Bool} {L : List Int} (h : RpV2 W v ok L) (hb : Below W.heap.size W W1) : RpV2 W1 v ok L := by
  rcases h with h | ⟨xs, h1, h2, h3⟩
  · exact .inl h
  · exact .inr ⟨xs, h1, h2, h3.below hb⟩
theorem rCompile_any (L : List Int) (w : World) (hib : isB L) (hL : L.length ≤ 100000) :
    Calls Try.prog 17 #[.string (strOfNums L)] w fun e w' => ∃ v ok, e = .returned (.tuple #[v, .bool ok]) ∧ RpV2 w' v ok L ∧ Below w.heap.size w w' := by
  refine (rCompile_calls w L hib hL).mono ?_
  rintro e w1 ⟨hb, h⟩
  rcases h with ⟨h1, h2⟩ | ⟨v, xs, h1, h2, h3⟩
  · exact ⟨_, _, h2, .inl ⟨h1, rfl, rfl⟩, hb⟩
  · exact ⟨_, _, h2, .inr ⟨xs, h1, rfl, h3⟩, hb⟩
theorem rIs_any (w : World) (v : Value) (L : List Int) (fold : Bool) (s : List Int) (S : ByteArray) (h : RpV2 w v true L) (hS : S = strOfNums s) (hib : isB s) (hs : s.length ≤ 100000) :
    Calls Try.prog 19 #[v, .string S, .bool fold] w fun e w' => e = .returned (.bool (pvI L fold s)) ∧ Below w.heap.size w w' := by
  subst hS
  unfold pvI
  rcases h with ⟨_, _, h3⟩ | ⟨xs, h1, h2, h3⟩
  · cases h3
  · rw [h1]
    obtain ⟨hn, hm⟩ := compP_len h1
    rw [List.length_map] at hn
    exact rIsP_calls w v xs s fold h3 (fun l hl => by
      have := hm (fsts l) (List.mem_map.2 ⟨l, hl, rfl⟩)
      rw [fsts, List.length_map] at this
      omega) (by omega) hib hs
end Go.Proofs.Ytplmdgimodgekaa
