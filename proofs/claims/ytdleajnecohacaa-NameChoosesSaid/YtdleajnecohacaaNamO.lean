/- NameChooses: the walks. -/
import Derived.Test.YtdleajnecohacaaNamL
import Derived.Test.YtdleajnecohacaaStrs
namespace Go.Proofs.Ytdleajnecohacaa
open Go.RowKit Go.Proofs.YtdleajnecohacaaW.PrintWords Go.Proofs.YtdleajnecohacaaW.PrintLast Go.Proofs.YtdleajnecohacaaW.PrintMore
attribute [local go_sem] max2_int min2_int max_two min_two max_three min_three max_four min_four   -- for this text's walks alone
set_option linter.unusedVariables false
set_option linter.unusedSimpArgs false

def isA (id : Int) (s : ByteArray) : Bool := (pS s).isSome && (((pS s).getD (0, 0)).1 == id)
def ch (id : Int) (L : List ByteArray) (k : Nat) : List ByteArray := (L.take k).filter (isA id)
theorem ch_succ (id : Int) (L : List ByteArray) (k : Nat) (h : k < L.length) : ch id L (k + 1) = ch id L k ++ if isA id (L.getD k ByteArray.empty) then [L.getD k ByteArray.empty] else [] := by
  rw [ch, ch, List.take_add_one, List.getElem?_eq_getElem h, List.filter_append, List.getD_eq_getElem?_getD, List.getElem?_eq_getElem h]
  congr 1
  show List.filter (isA id) [L[k]] = _
  rw [List.filter_cons]
  rfl
theorem ch_len (id : Int) (L : List ByteArray) (k : Nat) : (ch id L k).length ≤ k := Nat.le_trans (List.length_filter_le _ _) (List.length_take_le _ _)
theorem ch_pre (id : Int) (L : List ByteArray) (k : Nat) : ∃ r, ch id L L.length = ch id L k ++ r := by
  refine ⟨(L.drop k).filter (isA id), ?_⟩
  rw [ch, ch, ← List.filter_append, List.take_append_drop, List.take_of_length_le (Nat.le_refl _)]
theorem ch_get (id : Int) (L : List ByteArray) (k : Nat) (h : k < L.length) (hp : isA id (L.getD k ByteArray.empty) = true) : (ch id L k).length < (ch id L L.length).length ∧ (ch id L L.length).getD (ch id L k).length ByteArray.empty = L.getD k ByteArray.empty := by
  obtain ⟨r, hr⟩ := ch_pre id L (k + 1)
  rw [ch_succ id L k h, if_pos hp] at hr
  rw [hr]
  refine ⟨by simp only [List.length_append, List.length_cons, List.length_nil]; omega, ?_⟩
  rw [List.append_assoc, List.getD_eq_getElem?_getD, List.getElem?_append_right (Nat.le_refl _), Nat.sub_self]
  rfl
theorem sz_get {L : List ByteArray} {m : Nat} (h : ∀ s ∈ L, s.size ≤ m) (k : Nat) : (L.getD k ByteArray.empty).size ≤ m := by
  rw [List.getD_eq_getElem?_getD]
  cases e : L[k]? with
  | none => exact Nat.zero_le _
  | some x => exact h x (List.mem_of_getElem? e)

set_option maxHeartbeats 8000000 in
set_option maxRecDepth 100000 in
theorem name_Of_calls (id : Int) (A : Option Addr) (c : Nat) (L : List ByteArray) (n : Nat) (w : World) (hn : L.length = n) (hr : RdE Value.string ByteArray.empty w (.slice A n c) L) (hb : ∀ s ∈ L, s.size ≤ 9223372036854775807) (hnn : n ≤ 1000) :
    Calls Try.prog 66 #[.int .u64 id, .slice A n c] w fun e w' => ∃ v', e = .returned v' ∧ OwnO Value.string w' w.heap.size 9 v' (ch id L n) ∧ Below w.heap.size w w' := by
  have HR := Aside0.mk hr
  have HS := Aside0.mk hb
  have HN := Aside0.mk hn
  clear hr hb hn
  go_enter Try.func66, Try.ntmps66
  go_wp2_with fail
  go_loopw [5, 13] (fun v5 v13 w' => ∃ k m : Nat, k ≤ n ∧ m ≤ k ∧ v13 = .int .i64 k ∧ Aside0 ((ch id L k).length = m) ∧ Aside0 (OwnO Value.string w' w.heap.size 9 v5 (ch id L k)) ∧ Aside0 (Below w.heap.size w w')) (fun _ v13 _ => n - (intOf v13).toNat)
  case atStart => exact ⟨0, 0, by omega, by omega, rfl, ⟨rfl⟩, ⟨OwnO.nil _ _ _ _⟩, ⟨Below.refl _ _⟩⟩
  case round =>
    obtain ⟨k, m, hk, hm, rfl, HM, HO, HB⟩ := hrel
    obtain ⟨A5, c5, e5, _, _⟩ := HO.out.sl HM.out
    subst e5
    by_cases c1 : k < n
    · obtain ⟨ad, eA, hce⟩ := rdE_at (HR.out.below HB.out) k (by rw [HN.out]; exact c1)
      cases eA
      have HSU := Aside0.mk (ch_succ id L k (by rw [HN.out]; exact c1))
      have hsz := sz_get HS.out k
      obtain ⟨s, es⟩ : ∃ s, L.getD k ByteArray.empty = s := ⟨_, rfl⟩
      rw [es] at hce HSU hsz
      have C1 := Aside0.mk (fun w => Parse_calls s w hsz)
      clear es hsz
      rw [pV] at C1
      have HIA := Aside0.mk (show isA id s = ((pS s).isSome && (((pS s).getD (0, 0)).1 == id)) from rfl)
      obtain ⟨x, ex⟩ : ∃ x, ((pS s).getD (0, 0)).1 = x := ⟨_, rfl⟩
      obtain ⟨y, ey⟩ : ∃ x, ((pS s).getD (0, 0)).2 = x := ⟨_, rfl⟩
      obtain ⟨b, eb⟩ : ∃ x, (pS s).isSome = x := ⟨_, rfl⟩
      rw [ex, ey, eb] at C1
      rw [ex, eb] at HIA
      clear ex ey eb
      go_wp2_with fail
      with_reducible refine (C1.out _).mono ?_
      rintro _ w1 ⟨rfl, hb⟩
      have HO1 := Aside0.mk (HO.out.below hb)
      have HB1 := Aside0.mk (below_step HB.out hb)
      clear hb C1
      cases hbb : (b && (x == id)) with
      | true =>
        rw [hbb] at HIA
        rw [HIA.out, if_pos rfl] at HSU
        obtain ⟨rfl, hxi⟩ : b = true ∧ (x == id) = true := by simpa using hbb
        clear hbb
        obtain ⟨A7, c7, w7, hr7, ho7, hk7, _⟩ := appS s HO1.out HM.out HB1.out.size (by omega)
        rw [← HSU.out] at ho7
        have HO7 := Aside0.mk ho7
        have HM7 := Aside0.mk (show (ch id L (k + 1)).length = m + 1 by rw [HSU.out, List.length_append, HM.out]; rfl)
        have HB7 := Aside0.mk (Kp.from HB1.out hk7 (fun b hb => HO1.out.ge hb))
        have HR7 := Aside0.mk hr7
        clear hr7 ho7 hk7
        go_wp2_with (first | ((with_reducible refine gate_builtin (b := .append) (xs := #[.tmp 29, .tmp 31]) rfl ?_); at_builtin; refine app_list rfl (.tmp 29) (.tmp 31) rfl rfl rfl HR7.out ?_))
        go_roundw
        case rel => exact ⟨k + 1, m + 1, by omega, by omega, by go_num, HM7, HO7, HB7⟩
        case measure => simp [intOf] <;> omega
      | false =>
        rw [hbb] at HIA
        rw [HIA.out, if_neg (by decide), List.append_nil] at HSU
        have HO7 := Aside0.mk (show OwnO Value.string w1 w.heap.size 9 (.slice A5 m c5) (ch id L (k + 1)) by rw [HSU.out]; exact HO1.out)
        have HM7 := Aside0.mk (show (ch id L (k + 1)).length = m by rw [HSU.out]; exact HM.out)
        cases b with
        | false =>
          clear hbb
          go_wp2_with fail
          go_roundw
          case rel => exact ⟨k + 1, m, by omega, by omega, by go_num, HM7, HO7, HB1⟩
          case measure => simp [intOf] <;> omega
        | true =>
          have hxi : (x == id) = false := by simpa using hbb
          clear hbb
          go_wp2_with fail
          go_roundw
          case rel => exact ⟨k + 1, m, by omega, by omega, by go_num, HM7, HO7, HB1⟩
          case measure => simp [intOf] <;> omega
    · obtain rfl : k = n := by omega
      go_wp2_with fail
      go_ret
      exact ⟨_, rfl, HO.out, HB.out⟩
set_option maxHeartbeats 8000000 in
set_option maxRecDepth 100000 in
theorem NameChooses_calls (id : Int) (A : Option Addr) (c : Nat) (L : List ByteArray) (n : Nat) (w : World) (hn : L.length = n) (hr : RdE Value.string ByteArray.empty w (.slice A n c) L) (hb : ∀ s ∈ L, s.size ≤ 9223372036854775807) (hnn : n ≤ 9223372036854775807) :
    Calls Try.prog 14 #[.int .u64 id, .slice A n c] w fun e w' => e = .returned (.bool true) ∧ Below w.heap.size w w' := by
  have HR := Aside0.mk hr
  have HS := Aside0.mk hb
  have HN := Aside0.mk hn
  clear hr hb hn
  by_cases c1 : 100 < n
  · go_enter Try.func14, Try.ntmps14
    go_wp2_with fail
    refine (name_awake_calls _).mono ?_
    rintro _ w1 ⟨rfl, hb⟩
    have HB := Aside0.mk hb
    clear hb
    go_wp2_with fail
    go_ret
    exact ⟨rfl, HB.out⟩
  · go_enter Try.func14, Try.ntmps14
    go_wp2_with fail
    with_reducible refine (name_Of_calls id A c L n _ HN.out HR.out HS.out (by omega)).mono ?_
    rintro _ wq ⟨vg, rfl, hg, hb⟩
    obtain ⟨q, hq⟩ : ∃ q, (ch id L n).length = q := ⟨_, rfl⟩
    have hqn := ch_len id L n
    rw [hq] at hqn
    obtain ⟨Ag, cg, eg, _, _⟩ := hg.sl hq
    subst eg
    have HG := Aside0.mk hg
    have HQ := Aside0.mk hq
    have HBQ := Aside0.mk hb
    clear hg hq hb
    go_wp2_with fail
    go_loopw [6, 7] (fun v6 v7 w' => ∃ i k : Nat, i ≤ n ∧ k ≤ i ∧ v7 = .int .i64 i ∧ v6 = .int .i64 k ∧ Aside0 ((ch id L i).length = k) ∧ Aside0 (Below wq.heap.size wq w')) (fun _ v7 _ => n - (intOf v7).toNat)
    case atStart => exact ⟨0, 0, by omega, by omega, rfl, rfl, ⟨rfl⟩, ⟨Below.refl _ _⟩⟩
    case round =>
      obtain ⟨i, k, hi, hk, rfl, rfl, HK, HB⟩ := hrel
      by_cases c2 : i < n
      · obtain ⟨ad, eA, hce⟩ := rdE_at (HR.out.below (below_step HBQ.out HB.out)) i (by rw [HN.out]; exact c2)
        cases eA
        have HSU := Aside0.mk (ch_succ id L i (by rw [HN.out]; exact c2))
        have HGT := Aside0.mk (ch_get id L i (by rw [HN.out]; exact c2))
        rw [HN.out, HQ.out, HK.out] at HGT
        obtain ⟨s, es⟩ : ∃ s, L.getD i ByteArray.empty = s := ⟨_, rfl⟩
        rw [es] at hce HSU HGT
        clear es
        by_cases c3 : 1000 < s.size
        · go_wp2_with fail
          refine (name_awake_calls _).mono ?_
          rintro _ w1 ⟨rfl, hb⟩
          have HB1 := Aside0.mk (below_step (below_step HBQ.out HB.out) hb)
          clear hb
          go_wp2_with fail
          go_ret
          exact ⟨rfl, HB1.out⟩
        · have C1 := Aside0.mk (fun w => ref_Parse_calls s w (by omega))
          rw [pV] at C1
          have HIA := Aside0.mk (show isA id s = ((pS s).isSome && (((pS s).getD (0, 0)).1 == id)) from rfl)
          obtain ⟨x, ex⟩ : ∃ x, ((pS s).getD (0, 0)).1 = x := ⟨_, rfl⟩
          obtain ⟨y, ey⟩ : ∃ x, ((pS s).getD (0, 0)).2 = x := ⟨_, rfl⟩
          obtain ⟨b, eb⟩ : ∃ x, (pS s).isSome = x := ⟨_, rfl⟩
          rw [ex, ey, eb] at C1
          rw [ex, eb] at HIA
          clear ex ey eb
          have HCE := Aside0.mk hce
          go_wp2_with fail
          with_reducible refine (C1.out _).mono ?_
          rintro _ w1 ⟨rfl, hb⟩
          have HB1 := Aside0.mk (below_step HB.out hb)
          have hc1 := pw_cell_below hb HCE.out
          clear hb C1 hce
          cases hbb : (b && (x == id)) with
          | true =>
            rw [hbb] at HIA
            rw [HIA.out, if_pos rfl] at HSU
            obtain ⟨hlt, hget⟩ := HGT.out HIA.out
            obtain ⟨rfl, hxi⟩ : b = true ∧ (x == id) = true := by simpa using hbb
            have hxn : (x != id) = false := by simpa using hbb
            obtain ⟨ag, eG, hcg⟩ := rdE_at ((HG.out.rdE ByteArray.empty).below HB1.out) k (by rw [HQ.out]; exact hlt)
            cases eG
            rw [hget] at hcg
            have hll : decide (q ≤ k) = false := by simpa using hlt
            have hll2 : decide ((q : Int) ≤ (k : Int)) = false := by rw [decide_eq_false_iff_not]; omega
            have hss : (s.toList != s.toList) = false := by simp
            have hss2 : (s.toList == s.toList) = true := by simp
            have HM7 := Aside0.mk (show (ch id L (i + 1)).length = k + 1 by rw [HSU.out, List.length_append, HK.out]; rfl)
            have hk0 : (0 : Int) ≤ (k : Int) := by omega
            have hk1 : (k : Int) < (q : Int) := by omega
            have hi0 : (0 : Int) ≤ (i : Int) := by omega
            have hi1 : (i : Int) < (n : Int) := by omega
            clear hbb hget
            go_wp2_with fail
            go_quiet (fail)
            go_wp2_with fail
            go_roundw
            case rel => exact ⟨i + 1, k + 1, by omega, by omega, by go_num, by go_num, HM7, ⟨pw_below_drewN HB1.out _⟩⟩
            case measure => simp [intOf] <;> omega
          | false =>
            rw [hbb] at HIA
            rw [HIA.out, if_neg (by decide), List.append_nil] at HSU
            have HM7 := Aside0.mk (show (ch id L (i + 1)).length = k by rw [HSU.out]; exact HK.out)
            cases b with
            | false =>
              clear hbb
              go_wp2_with fail
              go_roundw
              case rel => exact ⟨i + 1, k, by omega, by omega, by go_num, rfl, HM7, HB1⟩
              case measure => simp [intOf] <;> omega
            | true =>
              have hxi : (x == id) = false := by simpa using hbb
              have hxn : (x != id) = true := by simpa using hbb
              clear hbb
              go_wp2_with fail
              go_roundw
              case rel => exact ⟨i + 1, k, by omega, by omega, by go_num, rfl, HM7, HB1⟩
              case measure => simp [intOf] <;> omega
      · obtain rfl : i = n := by omega
        have hkq : k = q := by have := HK.out; have := HQ.out; omega
        subst hkq
        have hee : ((k : Int) == (k : Int)) = true := by simp
        go_wp2_with fail
        refine (name_awake_calls _).mono ?_
        rintro _ w1 ⟨rfl, hb⟩
        have HB1 := Aside0.mk (below_step (below_step HBQ.out HB.out) hb)
        clear hb
        go_wp2_with fail
        go_ret
        exact ⟨rfl, HB1.out⟩
theorem NameChooses_walk (a0 : Int) (A : Option Addr) (c : Nat) (ss : List ByteArray) (w : World) (w0 : (Lit.int .u64 a0).wf = true) (hr : RdE Value.string ByteArray.empty w (.slice A ss.length c) ss) (hb : ∀ s ∈ ss, s.size ≤ 9223372036854775807) :
    Calls Try.prog 14 #[.int .u64 a0, .slice A ss.length c] w fun e w' => e = .returned (.bool true) ∧ Below w.heap.size w w' := by
  obtain ⟨A2, c2, e, hc, _, hl, _⟩ := id hr
  exact NameChooses_calls a0 A c ss _ w rfl hr hb (by omega)
end Go.Proofs.Ytdleajnecohacaa
