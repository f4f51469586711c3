/- strings.CutPrefix, CutSuffix, Cut at one byte: on lists of bytes. -/
import Derived.Test.YtplmdgimodgekaaStr
import Derived.Lib.Bytealg
namespace Go.Proofs.Ytplmdgimodgekaa
open Go.RowKit Go.Proofs.YtplmdgimodgekaaW.PrintWords Go.Proofs.YtplmdgimodgekaaW.PrintLast Go.Proofs.YtplmdgimodgekaaW.PrintMore
attribute [local go_sem] max2_int min2_int max_two min_two max_three min_three max_four min_four   -- for this text's walks alone
set_option linter.unusedVariables false
set_option linter.unusedSimpArgs false

theorem strOf_size (l : List Int) : (strOfNums l).size = l.length := by simp [strOfNums, ByteArray.size]
theorem strOf_extract (l : List Int) (a b : Nat) : (strOfNums l).extract a b = strOfNums ((l.take b).drop a) := by
  apply WideShapes.bytes_inj
  rw [ByteArray.data_extract, Array.toList_extract]
  simp only [strOfNums, List.extract_eq_take_drop, ← List.map_drop, ← List.map_take]
  rw [List.drop_take]
theorem strOf_inj {l m : List Int} (hl : isB l) (hm : isB m) (h : strOfNums l = strOfNums m) : l = m := by
  rw [← bytesOf_strOf hl, ← bytesOf_strOf hm, h]
/-- The place of a byte; below 0: it isn't there. -/
def idxI : List Int → Int → Int
  | [], _ => -1
  | b :: l, c => if b = c then 0 else if idxI l c = -1 then -1 else idxI l c + 1
theorem idxI_ge : ∀ (l : List Int) (c : Int), -1 ≤ idxI l c
  | [], _ => Int.le_refl _
  | b :: l, c => by
    have := idxI_ge l c
    rw [idxI]
    split
    · omega
    · split <;> omega
theorem idxI_lt : ∀ (l : List Int) (c : Int), idxI l c < l.length
  | [], _ => by simp [idxI]
  | b :: l, c => by
    have := idxI_lt l c
    rw [idxI, List.length_cons]
    split
    · omega
    · split <;> omega
theorem idxI_u8 : ∀ (l : List Int) (c : Int), isB l → 0 ≤ c ∧ c ≤ 255 → Lib.indexByte (l.map fun n => UInt8.ofNat n.toNat) (UInt8.ofNat c.toNat) = idxI l c
  | [], _, _, _ => rfl
  | b :: l, c, h, hc => by
    have ih := idxI_u8 l c (fun x hx => h x (List.mem_cons_of_mem _ hx)) hc
    have hb := h b (by simp)
    rw [List.map_cons, Lib.indexByte, idxI, ih]
    by_cases e : b = c
    · subst e; simp
    · have : (UInt8.ofNat b.toNat == UInt8.ofNat c.toNat) = false := by rw [beq_eq_false_iff_ne]; exact fun hh => e (u8_inj hb hc hh)
      rw [this, if_neg e]
      simp
theorem idxI_at : ∀ (l : List Int) (c : Int) (i : Nat), idxI l c = i → l = l.take i ++ c :: l.drop (i + 1) ∧ c ∉ l.take i
  | [], c, i, h => by rw [idxI] at h; omega
  | b :: l, c, i, h => by
    rw [idxI] at h
    by_cases e : b = c
    · rw [if_pos e] at h
      obtain rfl : i = 0 := by omega
      subst e; simp
    · rw [if_neg e] at h
      have hg := idxI_ge l c
      by_cases e2 : idxI l c = -1
      · rw [if_pos e2] at h; omega
      · rw [if_neg e2] at h
        obtain ⟨j, rfl⟩ : ∃ j, i = j + 1 := ⟨i - 1, by omega⟩
        obtain ⟨h1, h2⟩ := idxI_at l c j (by omega)
        refine ⟨?_, ?_⟩
        · simp only [List.take_succ_cons, List.cons_append, List.drop_succ_cons]
          exact congrArg (List.cons b) h1
        · rw [List.take_succ_cons, List.mem_cons]
          exact fun hh => hh.elim (fun e3 => e e3.symm) h2
theorem idxI_none : ∀ (l : List Int) (c : Int), c ∉ l → idxI l c = -1
  | [], _, _ => rfl
  | b :: l, c, h => by
    rw [idxI, if_neg (fun e => h (by simp [e])), if_pos (idxI_none l c (fun hh => h (List.mem_cons_of_mem _ hh)))]
theorem idxI_mem : ∀ {l : List Int} {c : Int}, c ∈ l → idxI l c ≠ -1
  | [], _, h => by simp at h
  | b :: l, c, h => by
    have hg := idxI_ge l c
    rw [idxI]
    by_cases e : b = c
    · rw [if_pos e]; omega
    · rw [if_neg e, if_neg (idxI_mem ((List.mem_cons.1 h).resolve_left (fun e2 => e e2.symm)))]; omega
theorem idxI_front : ∀ (l m : List Int) (c : Int), c ∉ l → idxI (l ++ c :: m) c = l.length
  | [], m, c, _ => by simp [idxI]
  | b :: l, m, c, h => by
    have ih := idxI_front l m c (fun hh => h (List.mem_cons_of_mem _ hh))
    rw [List.cons_append, idxI, if_neg (fun e => h (by simp [e])), ih, if_neg (by omega), List.length_cons]
    omega
set_option maxHeartbeats 1000000 in
set_option maxRecDepth 100000 in
theorem sl_IndexByte (l : List Int) (c : Int) (w : World) (hl : isB l) (hc : 0 ≤ c ∧ c ≤ 255) :
    Calls Try.prog 102 #[.string (strOfNums l), .int .u8 c] w fun e w' => e = .returned (.int .i64 (idxI l c)) ∧ w = w' := by
  have HI := Aside0.mk (idxI_u8 l c hl hc)
  have HS := Aside0.mk (show (strOfNums l).data.toList = l.map (fun n => UInt8.ofNat n.toNat) from rfl)
  obtain ⟨S, hS⟩ : ∃ S, strOfNums l = S := ⟨_, rfl⟩
  rw [hS] at HS ⊢
  clear hl hc hS
  go_enter Try.func102, Try.ntmps102
  go_wp2
  rw [run_callFunc_extern Try.func129 (by kernel_rfl) (by kernel_rfl) (by kernel_rfl) (e := Extern.BytealgIndexByte.indexByte) (by kernel_rfl), Lib.run_indexByteString]
  simp only [Result.andThen]
  rw [Oper.upon_value]
  rw [HS.out, show c.toNat.toUInt8 = UInt8.ofNat c.toNat from rfl, HI.out]
  go_wp2
  go_ret
  exact ⟨rfl, rfl⟩
theorem str_at (L : List Int) (hib : isB L) (n : Nat) (k : Int) (hk : k = (n : Int)) (hn : n < L.length) (W : World) : (Instr.index 9 (.string (strOfNums L)) (.int .i64 k)).run Try.prog W = .ok (.int .u8 (L.getD n 0)) W := by
  subst hk
  have hsz := strOf_size L
  have hb := hib.getD n
  rw [run_index_string _ _ _ _ _ Try.underlying9, dif_pos ⟨by omega, by omega⟩]
  have : (((strOfNums L)[(n : Int).toNat]'(by rw [hsz]; omega)).toNat : Int) = L.getD n 0 := by
    show ((((L.map fun n => UInt8.ofNat n.toNat).toArray)[n]'(by simpa using hn)).toNat : Int) = _
    rw [List.getD_eq_getElem?_getD, List.getElem?_eq_getElem hn] at hb ⊢
    simp only [List.getElem_toArray, List.getElem_map, Option.getD_some] at hb ⊢
    simp; omega
  rw [this]
set_option maxHeartbeats 1000000 in
set_option maxRecDepth 100000 in
theorem sl_Index1 (l : List Int) (c : Int) (C : ByteArray) (w : World) (hC : C = strOfNums [c]) (hl : isB l) (hc : 0 ≤ c ∧ c ≤ 255) :
    Calls Try.prog 148 #[.string (strOfNums l), .string C] w fun e w' => e = .returned (.int .i64 (idxI l c)) ∧ w = w' := by
  have hib : isB [c] := fun x hx => by simp at hx; omega
  have hz : C.size = 1 := by rw [hC, strOf_size]; rfl
  have hx : ∀ w, (Instr.index 9 (.string C) (.int .i64 0)).run Try.prog w = .ok (.int .u8 c) w := fun W => by
    rw [hC]; exact str_at [c] hib 0 0 rfl (by simp) W
  have he : (C.toList == (strOfNums l).toList) = decide (l = [c]) := by
    rw [hC, same_iff hib hl]
    exact decide_eq_decide.2 ⟨fun h => h.symm, fun h => h.symm⟩
  have HB := Aside0.mk hl
  have HC := Aside0.mk hc
  obtain ⟨S, hS⟩ : ∃ S, strOfNums l = S := ⟨_, rfl⟩
  rw [hS] at he ⊢
  have HS := Aside0.mk hS
  clear hC hl hc hS hib
  by_cases c1 : l = [c]
  · rw [decide_eq_true c1] at he
    have HL := Aside0.mk (show idxI l c = 0 by rw [c1, idxI, if_pos rfl])
    clear c1
    go_enter Try.func148, Try.ntmps148
    go_wp2_with fail
    go_ret
    exact ⟨by rw [HL.out]; rfl, rfl⟩
  · rw [decide_eq_false c1] at he
    clear c1
    go_enter Try.func148, Try.ntmps148
    go_wp2_with fail
    rw [← HS.out]
    with_reducible refine (sl_IndexByte l c _ HB.out HC.out).mono ?_
    rintro e w1 ⟨rfl, rfl⟩
    go_wp2_with fail
    go_ret
    exact ⟨rfl, rfl⟩
set_option maxHeartbeats 1000000 in
set_option maxRecDepth 100000 in
theorem sl_Cut_no (l : List Int) (c : Int) (C : ByteArray) (w : World) (hC : C = strOfNums [c]) (hl : isB l) (hc : 0 ≤ c ∧ c ≤ 255) (h : c ∉ l) :
    Calls Try.prog 140 #[.string (strOfNums l), .string C] w fun e w' => e = .returned (.tuple #[.string (strOfNums l), .string ByteArray.empty, .bool false]) ∧ w = w' := by
  have HI := Aside0.mk (idxI_none l c h)
  have HB := Aside0.mk hl
  have HC := Aside0.mk hc
  have HE := Aside0.mk hC
  clear hl hc hC h
  go_enter Try.func140, Try.ntmps140
  go_wp2_with fail
  with_reducible refine (sl_Index1 l c C _ HE.out HB.out HC.out).mono ?_
  rintro e w1 ⟨rfl, rfl⟩
  rw [HI.out]
  go_wp2_with fail
  go_ret3
  exact ⟨rfl, rfl⟩
set_option maxHeartbeats 1000000 in
set_option maxRecDepth 100000 in
theorem sl_Cut_yes (l : List Int) (c : Int) (i : Nat) (C : ByteArray) (w : World) (hC : C = strOfNums [c]) (hl : isB l) (hc : 0 ≤ c ∧ c ≤ 255) (h : idxI l c = (i : Int)) (hm : l.length ≤ 9223372036854775807) :
    Calls Try.prog 140 #[.string (strOfNums l), .string C] w fun e w' => e = .returned (.tuple #[.string (strOfNums (l.take i)), .string (strOfNums (l.drop (i + 1))), .bool true]) ∧ Below w.heap.size w w' := by
  have hlt := idxI_lt l c
  rw [h] at hlt
  have hz : C.size = 1 := by rw [hC, strOf_size]; rfl
  have hs := strOf_size l
  have he1 : (strOfNums l).extract 0 i = strOfNums (l.take i) := by rw [strOf_extract, List.drop_zero]
  have he2 : (strOfNums l).extract (i + 1) l.length = strOfNums (l.drop (i + 1)) := by rw [strOf_extract, List.take_of_length_le (Nat.le_refl _)]
  obtain ⟨n, hn⟩ : ∃ n, l.length = n := ⟨_, rfl⟩
  rw [hn] at hlt hs he2 hm
  have HI := Aside0.mk h
  have HB := Aside0.mk hl
  have HC := Aside0.mk hc
  have HE := Aside0.mk hC
  have hi0 : (0 : Int) ≤ (i : Int) := by omega
  have hi1 : (i : Int) < (n : Int) := by omega
  have hw : IntKind.i64.wrap ((i : Int) + 1) = (i : Int) + 1 := by rw [IntKind.wrap_i64]; omega
  have ht : ((i : Int) + 1).toNat = i + 1 := by omega
  clear hl hc hC h hn
  go_enter Try.func140, Try.ntmps140
  go_wp2_with fail
  with_reducible refine (sl_Index1 l c C _ HE.out HB.out HC.out).mono ?_
  rintro e w1 ⟨rfl, rfl⟩
  rw [HI.out]
  go_wp2_with fail
  go_quiet (fail)
  go_wp2_with fail
  go_ret3
  exact ⟨rfl, pw_below_drewN (Below.refl _ _) _⟩
set_option maxHeartbeats 1000000 in
set_option maxRecDepth 100000 in
theorem sl_HasPrefix (l p : List Int) (C : ByteArray) (w : World) (hC : C = strOfNums p) (hl : isB l) (hp : isB p) (hm : l.length ≤ 9223372036854775807) (hm2 : p.length ≤ 1000) :
    Calls Try.prog 141 #[.string (strOfNums l), .string C] w fun e w' => e = .returned (.bool (decide (l.take p.length = p))) ∧ w = w' := by
  have hs := strOf_size l
  have hz : C.size = p.length := by rw [hC, strOf_size]
  have he1 : (strOfNums l).extract 0 p.length = strOfNums (l.take p.length) := by rw [strOf_extract, List.drop_zero]
  have hq : ((strOfNums (l.take p.length)).toList == C.toList) = decide (l.take p.length = p) := by rw [hC, same_iff (hl.take _) hp]
  obtain ⟨b, hb⟩ : ∃ b, decide (l.take p.length = p) = b := ⟨_, rfl⟩
  have HB := Aside0.mk hb
  rw [hb] at hq ⊢
  by_cases c1 : p.length ≤ l.length
  · obtain ⟨m, em⟩ : ∃ m, p.length = m := ⟨_, rfl⟩
    obtain ⟨n, en⟩ : ∃ m, l.length = m := ⟨_, rfl⟩
    rw [em] at hz he1 hq c1 hm2
    rw [en] at hs c1 hm
    clear hC hl hp hb em en
    go_enter Try.func141, Try.ntmps141
    go_wp2_with fail
    go_ret
    exact ⟨rfl, rfl⟩
  · have hf : b = false := by
      rw [← hb, decide_eq_false_iff_not]
      exact fun h => by have := congrArg List.length h; rw [List.length_take] at this; omega
    obtain ⟨m, em⟩ : ∃ m, p.length = m := ⟨_, rfl⟩
    obtain ⟨n, en⟩ : ∃ m, l.length = m := ⟨_, rfl⟩
    rw [em] at hz c1 hm2
    rw [en] at hs c1 hm
    subst hf
    clear hC hl hp hb em en he1 hq
    go_enter Try.func141, Try.ntmps141
    go_wp2_with fail
    go_ret
    exact ⟨rfl, rfl⟩

set_option maxHeartbeats 1000000 in
set_option maxRecDepth 100000 in
theorem s_Cut_no (l : List Int) (c : Int) (C : ByteArray) (w : World) (hC : C = strOfNums [c]) (hl : isB l) (hc : 0 ≤ c ∧ c ≤ 255) (h : c ∉ l) :
    Calls Try.prog 117 #[.string (strOfNums l), .string C] w fun e w' => e = .returned (.tuple #[.string (strOfNums l), .string ByteArray.empty, .bool false]) ∧ Below w.heap.size w w' := by
  have H := Aside0.mk (sl_Cut_no l c C w hC hl hc h)
  clear hC
  go_enter Try.func117, Try.ntmps117
  go_wp2_with fail
  with_reducible refine (H.out).mono ?_
  rintro e w1 ⟨rfl, rfl⟩
  go_wp2_with fail
  go_ret3
  exact ⟨rfl, Below.refl _ _⟩
set_option maxHeartbeats 1000000 in
set_option maxRecDepth 100000 in
theorem s_Cut_yes (l : List Int) (c : Int) (i : Nat) (C : ByteArray) (w : World) (hC : C = strOfNums [c]) (hl : isB l) (hc : 0 ≤ c ∧ c ≤ 255) (h : idxI l c = (i : Int)) (hm : l.length ≤ 9223372036854775807) :
    Calls Try.prog 117 #[.string (strOfNums l), .string C] w fun e w' => e = .returned (.tuple #[.string (strOfNums (l.take i)), .string (strOfNums (l.drop (i + 1))), .bool true]) ∧ Below w.heap.size w w' := by
  have H := Aside0.mk (sl_Cut_yes l c i C w hC hl hc h hm)
  clear hC
  go_enter Try.func117, Try.ntmps117
  go_wp2_with fail
  with_reducible refine (H.out).mono ?_
  rintro e w1 ⟨rfl, hb⟩
  have HB := Aside0.mk hb
  clear hb
  go_wp2_with fail
  go_ret3
  exact ⟨rfl, HB.out⟩

set_option maxHeartbeats 1000000 in
set_option maxRecDepth 100000 in
theorem sl_CutPrefix (l p : List Int) (b : Bool) (C : ByteArray) (w : World) (hC : C = strOfNums p) (hl : isB l) (hp : isB p) (hm : l.length ≤ 9223372036854775807) (hm2 : p.length ≤ 1000) (hb : decide (l.take p.length = p) = b) :
    Calls Try.prog 118 #[.string (strOfNums l), .string C] w fun e w' => e = .returned (.tuple #[.string (strOfNums (if b then l.drop p.length else l)), .bool b]) ∧ w = w' := by
  have hs := strOf_size l
  have hz : C.size = p.length := by rw [hC, strOf_size]
  have he1 : (strOfNums l).extract p.length l.length = strOfNums (l.drop p.length) := by rw [strOf_extract, List.take_of_length_le (Nat.le_refl _)]
  have H := Aside0.mk (sl_HasPrefix l p C w hC hl hp hm hm2)
  rw [hb] at H
  obtain ⟨m, em⟩ : ∃ m, p.length = m := ⟨_, rfl⟩
  obtain ⟨n, en⟩ : ∃ m, l.length = m := ⟨_, rfl⟩
  cases b with
  | true =>
    have hmn : m ≤ n := by
      have := congrArg List.length (of_decide_eq_true hb)
      rw [List.length_take] at this
      omega
    rw [em] at hz he1 hm2 ⊢
    rw [en] at hs hm he1
    rw [if_pos rfl]
    clear hC hl hp hb em en
    go_enter Try.func118, Try.ntmps118
    go_wp2_with fail
    with_reducible refine (H.out).mono ?_
    rintro e w1 ⟨rfl, rfl⟩
    go_wp2_with fail
    go_ret2
    exact ⟨rfl, rfl⟩
  | false =>
    rw [if_neg (by decide)]
    clear hC hl hp hb em en he1 hz hs
    go_enter Try.func118, Try.ntmps118
    go_wp2_with fail
    with_reducible refine (H.out).mono ?_
    rintro e w1 ⟨rfl, rfl⟩
    go_wp2_with fail
    go_ret2
    exact ⟨rfl, rfl⟩
set_option maxHeartbeats 1000000 in
set_option maxRecDepth 100000 in
theorem s_CutPrefix (l p : List Int) (b : Bool) (C : ByteArray) (w : World) (hC : C = strOfNums p) (hl : isB l) (hp : isB p) (hm : l.length ≤ 9223372036854775807) (hm2 : p.length ≤ 1000) (hb : decide (l.take p.length = p) = b) :
    Calls Try.prog 86 #[.string (strOfNums l), .string C] w fun e w' => e = .returned (.tuple #[.string (strOfNums (if b then l.drop p.length else l)), .bool b]) ∧ Below w.heap.size w w' := by
  have H := Aside0.mk (sl_CutPrefix l p b C w hC hl hp hm hm2 hb)
  clear hC
  obtain ⟨X, hX⟩ : ∃ X, (if b then l.drop p.length else l) = X := ⟨_, rfl⟩
  rw [hX] at H ⊢
  clear hX hb
  go_enter Try.func86, Try.ntmps86
  go_wp2_with fail
  with_reducible refine (H.out).mono ?_
  rintro e w1 ⟨rfl, rfl⟩
  go_wp2_with fail
  go_ret2
  exact ⟨rfl, Below.refl _ _⟩

end Go.Proofs.Ytplmdgimodgekaa
