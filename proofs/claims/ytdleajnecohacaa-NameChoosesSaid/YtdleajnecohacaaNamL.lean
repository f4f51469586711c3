/- NameParses: the reference, the walk. -/
import Derived.Test.YtdleajnecohacaaNamP
namespace Go.Proofs.Ytdleajnecohacaa
open Go.RowKit Go.Proofs.YtdleajnecohacaaW.PrintWords Go.Proofs.YtdleajnecohacaaW.PrintLast Go.Proofs.YtdleajnecohacaaW.PrintMore
attribute [local go_sem] max2_int min2_int max_two min_two max_three min_three max_four min_four   -- for this text's walks alone
set_option linter.unusedVariables false
set_option linter.unusedSimpArgs false

/-- A text's journal and number; none: it names no archived file. -/
def pS (s : ByteArray) : Option (Int × Int) :=
  if s.size = 48 ∧ archS ((numS (s.extract 7 23)).getD 0) ((numS (s.extract 24 40)).getD 0) = s then some ((numS (s.extract 7 23)).getD 0, (numS (s.extract 24 40)).getD 0) else none
def pV (s : ByteArray) : Value := .tuple #[.int .u64 ((pS s).getD (0, 0)).1, .int .u64 ((pS s).getD (0, 0)).2, .bool (pS s).isSome]
theorem numS_bd' (s : ByteArray) : ok64 ((numS s).getD 0) := by
  cases h : numS s with
  | none => exact ⟨by decide, by decide⟩
  | some v => exact ⟨(hexS_numS h).2.1, (hexS_numS h).2.2⟩
theorem arch_parts (id n : Int) : (archL id n).take 23 = preL ++ hexL id ∧ ((archL id n).take 23).drop 7 = hexL id ∧ ((archL id n).take 40).drop 24 = hexL n := by
  have e1 : archL id n = (preL ++ hexL id) ++ (45 :: hexL n ++ sufL) := by simp [archL]
  have e2 : archL id n = (preL ++ hexL id ++ [45]) ++ hexL n ++ sufL := by simp [archL]
  have l1 : (preL ++ hexL id).length = 23 := by simp [preL, hexL_len]
  have l2 : (preL ++ hexL id ++ [45]).length = 24 := by simp [preL, hexL_len]
  have l3 : (preL ++ hexL id ++ [45] ++ hexL n).length = 40 := by simp [preL, hexL_len]
  have t1 : (archL id n).take 23 = preL ++ hexL id := by rw [e1, ← l1]; exact List.take_left
  refine ⟨t1, ?_, ?_⟩
  · rw [t1]; exact (List.drop_left (l₁ := preL))
  · rw [e2, ← l3, List.take_left, ← l2]; exact List.drop_left
theorem pS_arch {id n : Int} (hi : ok64 id) (hn : ok64 n) : pS (archS id n) = some (id, n) := by
  obtain ⟨_, h1, h2⟩ := arch_parts id n
  have e1 : (archS id n).extract 7 23 = hexS id := by rw [archS_L, strOf_extract, h1]; rfl
  have e2 : (archS id n).extract 24 40 = hexS n := by rw [archS_L, strOf_extract, h2]; rfl
  have sz : (archS id n).size = 48 := by rw [archS_L, strOf_size, archL_len]
  rw [pS, e1, e2, numS_hexS id hi.1 hi.2, numS_hexS n hn.1 hn.2, if_pos ⟨sz, rfl⟩]; rfl
theorem pS_some {s : ByteArray} {a b : Int} (h : pS s = some (a, b)) : s = archS a b ∧ ok64 a ∧ ok64 b := by
  rw [pS] at h
  split at h
  · rename_i hh
    simp only [Option.some.injEq, Prod.mk.injEq] at h
    obtain ⟨rfl, rfl⟩ := h
    exact ⟨hh.2.symm, numS_bd' _, numS_bd' _⟩
  · cases h
theorem pV_some {s : ByteArray} {a b : Int} (h : pS s = some (a, b)) : pV s = .tuple #[.int .u64 a, .int .u64 b, .bool true] := by rw [pV, h]; rfl
theorem pV_none {s : ByteArray} (h : pS s = none) : pV s = .tuple #[.int .u64 0, .int .u64 0, .bool false] := by rw [pV, h]; rfl
theorem Parse_calls (s : ByteArray) (w : World) (hm : s.size ≤ 9223372036854775807) :
    Calls Try.prog 62 #[.string s] w fun e w' => e = .returned (pV s) ∧ Below w.heap.size w w' := by
  cases h : pS s with
  | some p =>
    obtain ⟨a, b⟩ := p
    obtain ⟨e, h1, h2⟩ := pS_some h
    rw [pV_some h, e, archS_L]
    exact Parse_yes a b w h1 h2
  | none =>
    rw [pV_none h, ← strOf_bytesOf s]
    refine Parse_no (bytesOf s) w (bytesOf_isB s) (by rw [bytesOf_length]; exact hm) (fun id n hi hn e => ?_)
    have : pS s = some (id, n) := by rw [← strOf_bytesOf s, e, ← archS_L]; exact pS_arch hi hn
    rw [h] at this
    cases this
set_option maxHeartbeats 8000000 in
set_option maxRecDepth 100000 in
theorem ref_Archived_calls (id n : Int) (w : World) (hi : ok64 id) (hn : ok64 n) :
    Calls Try.prog 65 #[.int .u64 id, .int .u64 n] w fun e w' => e = .returned (.string (archS id n)) ∧ Below w.heap.size w w' := by
  have hs1 := hexS_size id
  have hs2 := hexS_size n
  have HI := Aside0.mk hi
  have HN := Aside0.mk hn
  clear hi hn
  go_enter Try.func65, Try.ntmps65
  go_wp2_with fail
  refine (ref_Hex_calls _ _ HI.out.1 HI.out.2).mono ?_
  rintro e w1 ⟨rfl, HB1⟩
  have HB1 := Aside0.mk HB1
  go_wp2_with fail
  refine (ref_Hex_calls _ _ HN.out.1 HN.out.2).mono ?_
  rintro e w2 ⟨rfl, HB2⟩
  have HB2 := Aside0.mk HB2
  go_wp2_with fail
  go_ret
  exact ⟨rfl, below_step HB1.out HB2.out⟩
set_option maxHeartbeats 8000000 in
set_option maxRecDepth 100000 in
theorem ref_Parse_calls (s : ByteArray) (w : World) (hm : s.size ≤ 1000) :
    Calls Try.prog 63 #[.string s] w fun e w' => e = .returned (pV s) ∧ Below w.heap.size w w' := by
  by_cases c1 : s.size = 48
  · have b1 := Aside0.mk (numS_bd' (s.extract 7 23))
    have b2 := Aside0.mk (numS_bd' (s.extract 24 40))
    have C1 := Aside0.mk (fun w => ref_Number_calls (s.extract 7 23) w (by simp [ByteArray.size_extract]; omega))
    have C2 := Aside0.mk (fun w => ref_Number_calls (s.extract 24 40) w (by simp [ByteArray.size_extract]; omega))
    have HP := Aside0.mk (show pS s = if archS ((numS (s.extract 7 23)).getD 0) ((numS (s.extract 24 40)).getD 0) = s then some ((numS (s.extract 7 23)).getD 0, (numS (s.extract 24 40)).getD 0) else none by
      rw [pS]
      by_cases h : archS ((numS (s.extract 7 23)).getD 0) ((numS (s.extract 24 40)).getD 0) = s
      · rw [if_pos ⟨c1, h⟩, if_pos h]
      · rw [if_neg (fun hh => h hh.2), if_neg h])
    rw [numV] at C1 C2
    obtain ⟨x, ex⟩ : ∃ x, (numS (s.extract 7 23)).getD 0 = x := ⟨_, rfl⟩
    obtain ⟨y, ey⟩ : ∃ x, (numS (s.extract 24 40)).getD 0 = x := ⟨_, rfl⟩
    obtain ⟨bx, ebx⟩ : ∃ x, (numS (s.extract 7 23)).isSome = x := ⟨_, rfl⟩
    obtain ⟨bY, eby⟩ : ∃ x, (numS (s.extract 24 40)).isSome = x := ⟨_, rfl⟩
    rw [ex, ebx] at C1
    rw [ey, eby] at C2
    rw [ex] at b1
    rw [ey] at b2
    rw [ex, ey] at HP
    clear ex ey ebx eby
    obtain ⟨T, hT⟩ : ∃ T, archS x y = T := ⟨_, rfl⟩
    have C3 := Aside0.mk (fun w => ref_Archived_calls x y w b1.out b2.out)
    rw [hT] at HP C3
    obtain ⟨s1, hs1⟩ : ∃ T, s.extract 7 23 = T := ⟨_, rfl⟩
    obtain ⟨s2, hs2⟩ : ∃ T, s.extract 24 40 = T := ⟨_, rfl⟩
    rw [hs1] at C1
    rw [hs2] at C2
    clear hT
    have hst := str_eq_iff T s
    have c2 : (s.size : Int) = 48 := by omega
    by_cases c3 : T = s
    · rw [decide_eq_true c3] at hst
      have HV := Aside0.mk (show pV s = .tuple #[.int .u64 x, .int .u64 y, .bool true] from pV_some (by rw [HP.out, if_pos c3]))
      clear c3
      go_enter Try.func63, Try.ntmps63
      go_wp2_with fail
      with_reducible refine (C1.out _).mono ?_
      rintro _ w1 ⟨rfl, hb⟩
      have HB := Aside0.mk hb
      clear hb
      go_wp2_with fail
      with_reducible refine (C2.out _).mono ?_
      rintro _ w2 ⟨rfl, hb⟩
      replace HB := Aside0.mk (below_step HB.out hb)
      clear hb
      go_wp2_with fail
      with_reducible refine (C3.out _).mono ?_
      rintro _ w3 ⟨rfl, hb⟩
      replace HB := Aside0.mk (below_step HB.out hb)
      clear hb
      go_wp2_with fail
      go_ret3
      exact ⟨congrArg Ending.returned HV.out.symm, HB.out⟩
    · rw [decide_eq_false c3] at hst
      have HV := Aside0.mk (show pV s = .tuple #[.int .u64 0, .int .u64 0, .bool false] from pV_none (by rw [HP.out, if_neg c3]))
      clear c3
      go_enter Try.func63, Try.ntmps63
      go_wp2_with fail
      with_reducible refine (C1.out _).mono ?_
      rintro _ w1 ⟨rfl, hb⟩
      have HB := Aside0.mk hb
      clear hb
      go_wp2_with fail
      with_reducible refine (C2.out _).mono ?_
      rintro _ w2 ⟨rfl, hb⟩
      replace HB := Aside0.mk (below_step HB.out hb)
      clear hb
      go_wp2_with fail
      with_reducible refine (C3.out _).mono ?_
      rintro _ w3 ⟨rfl, hb⟩
      replace HB := Aside0.mk (below_step HB.out hb)
      clear hb
      go_wp2_with fail
      go_ret3
      exact ⟨congrArg Ending.returned HV.out.symm, HB.out⟩
  · have HV := Aside0.mk (show pV s = .tuple #[.int .u64 0, .int .u64 0, .bool false] from pV_none (by rw [pS, if_neg (fun h => c1 h.1)]))
    have c2 : ((s.size : Int) == 48) = false := by rw [beq_eq_false_iff_ne]; omega
    have c3 : ((s.size : Int) != 48) = true := by rw [bne_iff_ne]; omega
    go_enter Try.func63, Try.ntmps63
    go_wp2_with fail
    go_ret3
    exact ⟨congrArg Ending.returned HV.out.symm, Below.refl _ _⟩
set_option maxHeartbeats 8000000 in
set_option maxRecDepth 100000 in
theorem NameParses_calls (s : ByteArray) (id n : Int) (w : World) (hi : ok64 id) (hn : ok64 n) :
    Calls Try.prog 13 #[.string s, .int .u64 id, .int .u64 n] w fun e w' => e = .returned (.bool true) ∧ Below w.heap.size w w' := by
  have HI := Aside0.mk hi
  have HN := Aside0.mk hn
  clear hi hn
  by_cases c1 : 1000 < s.size
  · go_enter Try.func13, Try.ntmps13
    go_wp2_with fail
    refine (name_awake_calls _).mono ?_
    rintro _ w1 ⟨rfl, hb⟩
    have HB := Aside0.mk hb
    clear hb
    go_wp2_with fail
    go_ret
    exact ⟨rfl, HB.out⟩
  · have C1 := Aside0.mk (fun w => Parse_calls s w (by omega))
    have C2 := Aside0.mk (fun w => ref_Parse_calls s w (by omega))
    have C3 := Aside0.mk (fun w => name_Archived_calls id n w HI.out.1 HI.out.2 HN.out.1 HN.out.2)
    have C4 := Aside0.mk (fun w => ref_Archived_calls id n w HI.out HN.out)
    have C5 := Aside0.mk (fun w => Parse_calls (archS id n) w (by rw [archS_L, strOf_size, archL_len]; omega))
    rw [pV_some (pS_arch HI.out HN.out)] at C5
    rw [pV] at C1 C2
    obtain ⟨x, ex⟩ : ∃ x, ((pS s).getD (0, 0)).1 = x := ⟨_, rfl⟩
    obtain ⟨y, ey⟩ : ∃ x, ((pS s).getD (0, 0)).2 = x := ⟨_, rfl⟩
    obtain ⟨b, eb⟩ : ∃ x, (pS s).isSome = x := ⟨_, rfl⟩
    rw [ex, ey, eb] at C1 C2
    clear ex ey eb
    obtain ⟨T, hT⟩ : ∃ T, archS id n = T := ⟨_, rfl⟩
    rw [hT] at C3 C4 C5
    clear hT
    have f1 : (x == x) = true := by simp
    have f2 : (y == y) = true := by simp
    have f3 : (b == b) = true := by simp
    have f4 : (id == id) = true := by simp
    have f5 : (n == n) = true := by simp
    have f6 : (T.toList == T.toList) = true := by simp
    go_enter Try.func13, Try.ntmps13
    go_wp2_with fail
    with_reducible refine (C1.out _).mono ?_
    rintro _ w1 ⟨rfl, hb⟩
    have HB := Aside0.mk hb
    clear hb
    go_wp2_with fail
    with_reducible refine (C2.out _).mono ?_
    rintro _ w2 ⟨rfl, hb⟩
    replace HB := Aside0.mk (below_step HB.out hb)
    clear hb
    go_wp2_with fail
    with_reducible refine (C3.out _).mono ?_
    rintro _ w3 ⟨rfl, hb⟩
    replace HB := Aside0.mk (below_step HB.out hb)
    clear hb
    go_wp2_with fail
    with_reducible refine (C5.out _).mono ?_
    rintro _ w4 ⟨rfl, hb⟩
    replace HB := Aside0.mk (below_step HB.out hb)
    clear hb
    go_wp2_with fail
    with_reducible refine (C3.out _).mono ?_
    rintro _ w5 ⟨rfl, hb⟩
    replace HB := Aside0.mk (below_step HB.out hb)
    clear hb
    go_wp2_with fail
    with_reducible refine (C4.out _).mono ?_
    rintro _ w6 ⟨rfl, hb⟩
    replace HB := Aside0.mk (below_step HB.out hb)
    clear hb
    go_wp2_with fail
    refine (name_awake_calls _).mono ?_
    rintro _ w7 ⟨rfl, hb⟩
    replace HB := Aside0.mk (below_step HB.out hb)
    clear hb
    go_wp2_with fail
    go_ret
    exact ⟨rfl, HB.out⟩
theorem NameParses_walk (a0 : ByteArray) (a1 a2 : Int) (w : World) (w0 : a0.size ≤ 140737488351232) (w1 : (Lit.int .u64 a1).wf = true) (w2 : (Lit.int .u64 a2).wf = true) :
    Calls Try.prog 13 #[.string a0, .int .u64 a1, .int .u64 a2] w fun e w' => e = .returned (.bool true) ∧ Below w.heap.size w w' :=
  NameParses_calls a0 a1 a2 w (bounds_u64 w1) (bounds_u64 w2)
end Go.Proofs.Ytdleajnecohacaa
