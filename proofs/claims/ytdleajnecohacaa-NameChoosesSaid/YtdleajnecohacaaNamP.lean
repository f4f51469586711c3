/- Names of archived files, read: the program's way, the document's. -/
import Derived.Test.YtdleajnecohacaaNum
import Derived.Test.YtdleajnecohacaaStrC
namespace Go.Proofs.Ytdleajnecohacaa
open Go.RowKit Go.Proofs.YtdleajnecohacaaW.PrintWords Go.Proofs.YtdleajnecohacaaW.PrintLast Go.Proofs.YtdleajnecohacaaW.PrintMore
attribute [local go_sem] max2_int min2_int max_two min_two max_three min_three max_four min_four   -- for this text's walks alone
set_option linter.unusedVariables false
set_option linter.unusedSimpArgs false

def preL : List Int := [115, 121, 115, 116, 101, 109, 64]
def sufL : List Int := [46, 106, 111, 117, 114, 110, 97, 108]
def archL (id n : Int) : List Int := preL ++ (hexL id ++ 45 :: hexL n) ++ sufL
theorem preL_isB : isB preL := fun x hx => by simp [preL] at hx; omega
theorem sufL_isB : isB sufL := fun x hx => by simp [sufL] at hx; omega
theorem hexL_isB (n : Int) : isB (hexL n) := by rw [hexL_hI]; exact hI_isB _ _
theorem hexL_len (n : Int) : (hexL n).length = 16 := by simp [hexL]
theorem archL_isB (id n : Int) : isB (archL id n) := (preL_isB.app ((hexL_isB id).app (fun x hx => (List.mem_cons.1 hx).elim (fun e => by omega) (hexL_isB n x)))).app sufL_isB
theorem archL_len (id n : Int) : (archL id n).length = 48 := by simp [archL, preL, sufL, hexL_len]
theorem archS_L (id n : Int) : archS id n = strOfNums (archL id n) := by
  rw [archS, archL, hexS, hexS]
  rw [show (⟨#[115, 121, 115, 116, 101, 109, 64]⟩ : ByteArray) = strOfNums preL from rfl, show (⟨#[45]⟩ : ByteArray) = strOfNums [45] from rfl, show (⟨#[46, 106, 111, 117, 114, 110, 97, 108]⟩ : ByteArray) = strOfNums sufL from rfl]
  rw [strOf_append, strOf_append, strOf_append, strOf_append]
  exact congrArg strOfNums (by simp)
theorem no45 (n : Int) : (45 : Int) ∉ hexL n := by
  intro h
  simp only [hexL, List.mem_map, hexC] at h
  obtain ⟨j, _, h⟩ := h
  split at h <;> simp [hexD] at h <;> omega
/-- It names an archived file: of id, by n. -/
def ok64 (n : Int) : Prop := 0 ≤ n ∧ n ≤ 18446744073709551615
theorem hexL_inj {a b : Int} (ha : ok64 a) (hb : ok64 b) (h : hexL a = hexL b) : a = b := by
  have h1 := numL_hexL a ha.1 ha.2
  have h2 := numL_hexL b hb.1 hb.2
  rw [h, h2] at h1
  injection h1 with h1
  exact h1.symm
theorem archL_inj {a b c d : Int} (ha : ok64 a) (hb : ok64 b) (hc : ok64 c) (hd : ok64 d) (h : archL a b = archL c d) : a = c ∧ b = d := by
  rw [archL, archL, List.append_cancel_right_eq, List.append_cancel_left_eq] at h
  have h1 := List.append_inj h (by rw [hexL_len, hexL_len])
  exact ⟨hexL_inj ha hc h1.1, hexL_inj hb hd (List.cons.inj h1.2).2⟩
theorem numS_list (l : List Int) (h : isB l) : numS (strOfNums l) = if l.length = 16 then numL l 0 else none := by
  rw [numS, strOf_size, bytesOf_strOf h]
theorem numS_L {l : List Int} (h : isB l) {v : Int} (hv : numS (strOfNums l) = some v) : l = hexL v ∧ ok64 v := by
  obtain ⟨h1, h2, h3⟩ := hexS_numS hv
  exact ⟨(strOf_inj (hexL_isB v) h h1).symm, h2, h3⟩
set_option maxHeartbeats 8000000 in
set_option maxRecDepth 100000 in
theorem Parse_yes (id n : Int) (w : World) (hi : ok64 id) (hn : ok64 n) :
    Calls Try.prog 62 #[.string (strOfNums (archL id n))] w fun e w' => e = .returned (.tuple #[.int .u64 id, .int .u64 n, .bool true]) ∧ Below w.heap.size w w' := by
  have h1 : decide ((archL id n).take preL.length = preL) = true := by rw [decide_eq_true_iff, archL, List.append_assoc]; exact List.take_left
  have h2 : (archL id n).drop preL.length = (hexL id ++ 45 :: hexL n) ++ sufL := by rw [archL, List.append_assoc]; exact List.drop_left
  have h3 : sufB ((hexL id ++ 45 :: hexL n) ++ sufL) sufL = true := by
    rw [sufB, decide_eq_true_iff]
    refine ⟨by rw [List.length_append]; omega, ?_⟩
    rw [List.length_append, Nat.add_sub_cancel]; exact List.drop_left
  have h4 : ((hexL id ++ 45 :: hexL n) ++ sufL).take (((hexL id ++ 45 :: hexL n) ++ sufL).length - sufL.length) = hexL id ++ 45 :: hexL n := by
    rw [List.length_append, Nat.add_sub_cancel]; exact List.take_left
  have hmid : isB (hexL id ++ 45 :: hexL n) := (hexL_isB id).app (fun x hx => (List.mem_cons.1 hx).elim (fun e => by omega) (hexL_isB n x))
  have h5 : idxI (hexL id ++ 45 :: hexL n) 45 = ((16 : Nat) : Int) := by rw [idxI_front _ _ _ (no45 id), hexL_len]
  have h6 : (hexL id ++ 45 :: hexL n).take 16 = hexL id := by rw [← hexL_len id]; exact List.take_left
  have h7 : (hexL id ++ 45 :: hexL n).drop (16 + 1) = hexL n := by rw [← List.drop_drop]; rw [show (hexL id ++ 45 :: hexL n).drop 16 = 45 :: hexL n by rw [← hexL_len id]; exact List.drop_left]; rfl
  have h8 : numV (strOfNums (hexL id)) = .tuple #[.int .u64 id, .bool true] := numV_some (numS_hexS id hi.1 hi.2)
  have h9 : numV (strOfNums (hexL n)) = .tuple #[.int .u64 n, .bool true] := numV_some (numS_hexS n hn.1 hn.2)
  have C1 := Aside0.mk (fun w => s_CutPrefix (archL id n) preL true ⟨#[115, 121, 115, 116, 101, 109, 64]⟩ w rfl (archL_isB id n) preL_isB (by rw [archL_len]; omega) (by decide) h1)
  rw [if_pos rfl, h2] at C1
  have C2 := Aside0.mk (fun w => s_CutSuffix ((hexL id ++ 45 :: hexL n) ++ sufL) sufL true ⟨#[46, 106, 111, 117, 114, 110, 97, 108]⟩ w rfl (hmid.app sufL_isB) sufL_isB (by simp [hexL_len, sufL]) (by decide) h3)
  rw [if_pos rfl, h4] at C2
  have C3 := Aside0.mk (fun w => s_Cut_yes (hexL id ++ 45 :: hexL n) 45 16 ⟨#[45]⟩ w rfl hmid (by omega) h5 (by simp [hexL_len]))
  rw [h6, h7] at C3
  have C4 := Aside0.mk (fun w => name_Number_calls (strOfNums (hexL id)) w)
  have C5 := Aside0.mk (fun w => name_Number_calls (strOfNums (hexL n)) w)
  rw [h8] at C4
  rw [h9] at C5
  clear h1 h2 h3 h4 h5 h6 h7 h8 h9 hmid
  obtain ⟨S0, e0⟩ : ∃ s, strOfNums (archL id n) = s := ⟨_, rfl⟩
  obtain ⟨S1, e1⟩ : ∃ s, strOfNums ((hexL id ++ 45 :: hexL n) ++ sufL) = s := ⟨_, rfl⟩
  obtain ⟨S2, e2⟩ : ∃ s, strOfNums (hexL id ++ 45 :: hexL n) = s := ⟨_, rfl⟩
  obtain ⟨S3, e3⟩ : ∃ s, strOfNums (hexL id) = s := ⟨_, rfl⟩
  obtain ⟨S4, e4⟩ : ∃ s, strOfNums (hexL n) = s := ⟨_, rfl⟩
  rw [e0, e1] at C1
  rw [e1, e2] at C2
  rw [e2, e3, e4] at C3
  rw [e3] at C4
  rw [e4] at C5
  rw [e0]
  clear e0 e1 e2 e3 e4
  go_enter Try.func62, Try.ntmps62
  go_wp2_with fail
  with_reducible refine (C1.out _).mono ?_
  rintro e w1 ⟨rfl, hb⟩
  have HB := Aside0.mk hb
  clear hb
  go_wp2_with fail
  with_reducible refine (C2.out _).mono ?_
  rintro e w2 ⟨rfl, hb⟩
  replace HB := Aside0.mk (below_step HB.out hb)
  clear hb
  go_wp2_with fail
  with_reducible refine (C3.out _).mono ?_
  rintro e w3 ⟨rfl, hb⟩
  replace HB := Aside0.mk (below_step HB.out hb)
  clear hb
  go_wp2_with fail
  with_reducible refine (C4.out _).mono ?_
  rintro e w4 ⟨rfl, hb⟩
  replace HB := Aside0.mk (below_step HB.out hb)
  clear hb
  go_wp2_with fail
  with_reducible refine (C5.out _).mono ?_
  rintro e w5 ⟨rfl, hb⟩
  replace HB := Aside0.mk (below_step HB.out hb)
  clear hb
  go_wp2_with fail
  go_ret3
  exact ⟨rfl, HB.out⟩
/-- What of a text the program reads. -/
def cp (l : List Int) : List Int := if decide (l.take preL.length = preL) then l.drop preL.length else l
def cs (l : List Int) : List Int := if sufB l sufL then l.take (l.length - sufL.length) else l
theorem cp_isB {l : List Int} (h : isB l) : isB (cp l) := by unfold cp; split <;> first | exact h.drop _ | exact h
theorem cs_isB {l : List Int} (h : isB l) : isB (cs l) := by unfold cs; split <;> first | exact h.take _ | exact h
theorem cp_len (l : List Int) : (cp l).length ≤ l.length := by unfold cp; split <;> first | (rw [List.length_drop]; omega) | exact Nat.le_refl _
theorem cs_len (l : List Int) : (cs l).length ≤ l.length := by unfold cs; split <;> first | (rw [List.length_take]; omega) | exact Nat.le_refl _
/-- If all is as it should be, the text is a name. -/
theorem parse_arch {l : List Int} (hl : isB l) {i : Nat} {id n : Int} (h1 : decide (l.take preL.length = preL) = true) (h2 : sufB (cp l) sufL = true) (h3 : idxI (cs (cp l)) 45 = (i : Int)) (h4 : numS (strOfNums ((cs (cp l)).take i)) = some id) (h5 : numS (strOfNums ((cs (cp l)).drop (i + 1))) = some n) : l = archL id n ∧ ok64 id ∧ ok64 n := by
  have hm := cs_isB (cp_isB hl)
  obtain ⟨e4, k4⟩ := numS_L (hm.take _) h4
  obtain ⟨e5, k5⟩ := numS_L (hm.drop _) h5
  obtain ⟨e3, _⟩ := idxI_at _ _ _ h3
  refine ⟨?_, k4, k5⟩
  have f1 : l = preL ++ cp l := by
    rw [cp, if_pos h1]
    conv => lhs; rw [← List.take_append_drop preL.length l, of_decide_eq_true h1]
  have f2 : cp l = cs (cp l) ++ sufL := by
    conv => rhs; rw [cs, if_pos h2]
    obtain ⟨g1, g2⟩ := of_decide_eq_true h2
    conv => lhs; rw [← List.take_append_drop ((cp l).length - sufL.length) (cp l), g2]
  have f3 : cs (cp l) = hexL id ++ 45 :: hexL n := by rw [← e4, ← e5]; exact e3
  have f4 : cp l = (hexL id ++ 45 :: hexL n) ++ sufL := f2.trans (congrArg (· ++ sufL) f3)
  rw [archL, List.append_assoc]
  exact f1.trans (congrArg (preL ++ ·) f4)
set_option maxHeartbeats 8000000 in
set_option maxRecDepth 100000 in
theorem Parse_no (l : List Int) (w : World) (hl : isB l) (hm : l.length ≤ 9223372036854775807) (hno : ∀ id n, ok64 id → ok64 n → l ≠ archL id n) :
    Calls Try.prog 62 #[.string (strOfNums l)] w fun e w' => e = .returned (.tuple #[.int .u64 0, .int .u64 0, .bool false]) ∧ Below w.heap.size w w' := by
  have hl1 := cp_isB hl
  have hl2 := cs_isB hl1
  have hn1 := cp_len l
  have hn2 := cs_len (cp l)
  obtain ⟨a, ha⟩ : ∃ b, decide (l.take preL.length = preL) = b := ⟨_, rfl⟩
  obtain ⟨b, hb⟩ : ∃ b, sufB (cp l) sufL = b := ⟨_, rfl⟩
  have C1 := Aside0.mk (fun w => s_CutPrefix l preL a ⟨#[115, 121, 115, 116, 101, 109, 64]⟩ w rfl hl preL_isB (by omega) (by decide) ha)
  rw [show (if a then l.drop preL.length else l) = cp l by rw [cp, ha]] at C1
  have C2 := Aside0.mk (fun w => s_CutSuffix (cp l) sufL b ⟨#[46, 106, 111, 117, 114, 110, 97, 108]⟩ w rfl hl1 sufL_isB (by omega) (by decide) hb)
  rw [show (if b then (cp l).take ((cp l).length - sufL.length) else cp l) = cs (cp l) by rw [cs, hb]] at C2
  obtain ⟨L, R, c, hC3, hcc⟩ : ∃ (L R : List Int) (c : Bool), (∀ w, Calls Try.prog 89 #[.string (strOfNums (cs (cp l))), .string ⟨#[45]⟩] w fun e w' => e = .returned (.tuple #[.string (strOfNums L), .string (strOfNums R), .bool c]) ∧ Below w.heap.size w w') ∧ (c = true → ∃ i : Nat, idxI (cs (cp l)) 45 = (i : Int) ∧ L = (cs (cp l)).take i ∧ R = (cs (cp l)).drop (i + 1)) := by
    by_cases h : (45 : Int) ∈ cs (cp l)
    · have hg := idxI_ge (cs (cp l)) 45
      obtain ⟨i, hi⟩ : ∃ i : Nat, idxI (cs (cp l)) 45 = (i : Int) := by
        refine ⟨(idxI (cs (cp l)) 45).toNat, ?_⟩
        have : idxI (cs (cp l)) 45 ≠ -1 := fun e => by
          exact idxI_mem h e
        omega
      exact ⟨_, _, true, fun w => s_Cut_yes (cs (cp l)) 45 i ⟨#[45]⟩ w rfl hl2 (by omega) hi (by omega), fun _ => ⟨i, hi, rfl, rfl⟩⟩
    · exact ⟨cs (cp l), [], false, fun w => s_Cut_no (cs (cp l)) 45 ⟨#[45]⟩ w rfl hl2 (by omega) h, fun e => by cases e⟩
  have C3 := Aside0.mk hC3
  have C4 := Aside0.mk (fun w => name_Number_calls (strOfNums L) w)
  have C5 := Aside0.mk (fun w => name_Number_calls (strOfNums R) w)
  obtain ⟨x, d, hd, hdd⟩ : ∃ (x : Int) (d : Bool), numV (strOfNums L) = .tuple #[.int .u64 x, .bool d] ∧ (d = true → numS (strOfNums L) = some x) := by
    cases h : numS (strOfNums L) with
    | none => exact ⟨0, false, numV_none h, fun e => by cases e⟩
    | some v => exact ⟨v, true, numV_some h, fun _ => rfl⟩
  obtain ⟨y, e, he, hee⟩ : ∃ (x : Int) (d : Bool), numV (strOfNums R) = .tuple #[.int .u64 x, .bool d] ∧ (d = true → numS (strOfNums R) = some x) := by
    cases h : numS (strOfNums R) with
    | none => exact ⟨0, false, numV_none h, fun e => by cases e⟩
    | some v => exact ⟨v, true, numV_some h, fun _ => rfl⟩
  rw [hd] at C4
  rw [he] at C5
  have HF := Aside0.mk (show ¬ (a = true ∧ b = true ∧ c = true ∧ d = true ∧ e = true) from fun ⟨h1, h2, h3, h4, h5⟩ => by
    obtain ⟨i, hi, rfl, rfl⟩ := hcc h3
    obtain ⟨r1, r2, r3⟩ := parse_arch hl (by rw [ha]; exact h1) (by rw [hb]; exact h2) hi (hdd h4) (hee h5)
    exact hno _ _ r2 r3 r1)
  obtain ⟨S0, e0⟩ : ∃ s, strOfNums l = s := ⟨_, rfl⟩
  obtain ⟨S1, e1⟩ : ∃ s, strOfNums (cp l) = s := ⟨_, rfl⟩
  obtain ⟨S2, e2⟩ : ∃ s, strOfNums (cs (cp l)) = s := ⟨_, rfl⟩
  obtain ⟨S3, e3⟩ : ∃ s, strOfNums L = s := ⟨_, rfl⟩
  obtain ⟨S4, e4⟩ : ∃ s, strOfNums R = s := ⟨_, rfl⟩
  rw [e0, e1] at C1
  rw [e1, e2] at C2
  rw [e2, e3, e4] at C3
  rw [e3] at C4
  rw [e4] at C5
  rw [e0]
  clear e0 e1 e2 e3 e4 hl hl1 hl2 hn1 hn2 ha hb hC3 hcc hd hdd he hee hno hm
  go_enter Try.func62, Try.ntmps62
  go_wp2_with fail
  with_reducible refine (C1.out _).mono ?_
  rintro _ w1 ⟨rfl, hb⟩
  have HB := Aside0.mk hb
  clear hb
  go_wp2_with fail
  with_reducible refine (C2.out _).mono ?_
  rintro _ w2 ⟨rfl, hb⟩
  replace HB := Aside0.mk (below_step HB.out hb)
  clear hb
  go_wp2_with fail
  with_reducible refine (C3.out _).mono ?_
  rintro _ w3 ⟨rfl, hb⟩
  replace HB := Aside0.mk (below_step HB.out hb)
  clear hb
  go_wp2_with fail
  with_reducible refine (C4.out _).mono ?_
  rintro _ w4 ⟨rfl, hb⟩
  replace HB := Aside0.mk (below_step HB.out hb)
  clear hb
  go_wp2_with fail
  with_reducible refine (C5.out _).mono ?_
  rintro _ w5 ⟨rfl, hb⟩
  replace HB := Aside0.mk (below_step HB.out hb)
  clear hb C1 C2 C3 C4 C5
  cases a <;> cases b <;> cases c <;> cases d <;> cases e
  all_goals first
    | exact absurd ⟨rfl, rfl, rfl, rfl, rfl⟩ HF.out
    | (go_wp2_with fail
       go_ret3
       exact ⟨rfl, HB.out⟩)
end Go.Proofs.Ytdleajnecohacaa
