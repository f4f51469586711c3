/- Syslog: the program's Parse. -/
import Derived.Test.YtplmdgimodgekaaSysP
namespace Go.Proofs.Ytplmdgimodgekaa
open Go.RowKit Go.Proofs.YtplmdgimodgekaaW.PrintWords Go.Proofs.YtplmdgimodgekaaW.PrintLast Go.Proofs.YtplmdgimodgekaaW.PrintMore
attribute [local go_sem] max2_int min2_int max_two min_two max_three min_three max_four min_four   -- for this text's walks alone
set_option linter.unusedVariables false
set_option linter.unusedSimpArgs false

theorem below_set {w W : World} (h : Below w.heap.size w W) (p : Addr) (hg : w.heap.size ≤ p.block) (v : Value) : Below w.heap.size w (W.setCell p v) := h.setCell hg v
theorem below_set5 {w W : World} (h : Below w.heap.size w W) (b : Nat) (hg : w.heap.size ≤ b) (x0 x1 x2 x3 x4 : Value) : Below w.heap.size w (((((W.setCell ⟨b, 0, none⟩ x0).setCell ⟨b, 1, none⟩ x1).setCell ⟨b, 2, none⟩ x2).setCell ⟨b, 3, none⟩ x3).setCell ⟨b, 4, none⟩ x4) :=
  below_set (below_set (below_set (below_set (below_set h _ hg _) _ hg _) _ hg _) _ hg _) _ hg _
set_option maxHeartbeats 8000000 in
set_option maxRecDepth 100000 in
theorem trimS_yes (S C T : ByteArray) (n : Nat) (w : World) (hs : S.size = n) (hz : C.size = 1) (he1 : S.extract 1 n = T) (hn : 1 ≤ n) (hm : n ≤ 9223372036854775807) (H : Aside0 (∀ w, Calls Try.prog 141 #[.string S, .string C] w fun e w' => e = .returned (.bool true) ∧ w = w')) :
    Calls Try.prog 119 #[.string S, .string C] w fun e w' => e = .returned (.string T) ∧ w = w' := by
  go_enter Try.func119, Try.ntmps119
  go_wp2_with fail
  with_reducible refine (H.out _).mono ?_
  rintro e w1 ⟨rfl, rfl⟩
  go_wp2_with fail
  go_ret
  exact ⟨rfl, rfl⟩
set_option maxHeartbeats 8000000 in
set_option maxRecDepth 100000 in
theorem trimS_no (S C : ByteArray) (w : World) (H : Aside0 (∀ w, Calls Try.prog 141 #[.string S, .string C] w fun e w' => e = .returned (.bool false) ∧ w = w')) :
    Calls Try.prog 119 #[.string S, .string C] w fun e w' => e = .returned (.string S) ∧ w = w' := by
  go_enter Try.func119, Try.ntmps119
  go_wp2_with fail
  with_reducible refine (H.out _).mono ?_
  rintro e w1 ⟨rfl, rfl⟩
  go_wp2_with fail
  go_ret
  exact ⟨rfl, rfl⟩
theorem piP_isB {l : List Int} (hl : isB l) : isB (piP l).2 := by
  rw [piP]
  split
  · exact (cutI_isB (offI_isB hl 91) 93).2
  · exact hl
theorem piP_len (l : List Int) : (piP l).2.length ≤ l.length := by
  rw [piP]
  split
  · exact Nat.le_trans (cutI_len _ 93).2 (offI_len l 91)
  · exact Nat.le_refl _
set_option maxHeartbeats 8000000 in
set_option maxRecDepth 100000 in
theorem trim_calls (l : List Int) (c : Int) (C : ByteArray) (w : World) (hC : C = strOfNums [c]) (hl : isB l) (hc : 0 ≤ c ∧ c ≤ 255) (hm : l.length ≤ 9223372036854775807) :
    Calls Try.prog 87 #[.string (strOfNums l), .string C] w fun e w' => e = .returned (.string (strOfNums (offI l c).1)) ∧ w = w' := by
  have hs := strOf_size l
  have hz : C.size = 1 := by rw [hC, strOf_size]; rfl
  have he1 : (strOfNums l).extract 1 l.length = strOfNums (l.drop 1) := by rw [strOf_extract, List.take_of_length_le (Nat.le_refl _)]
  have hq := sl_HasPrefix l [c] C
  have H := Aside0.mk (fun w => hq w hC hl (fun x hx => by simp at hx; omega) hm (by simp))
  rw [show ([c] : List Int).length = 1 from rfl] at H
  clear hq
  rw [offI]
  obtain ⟨n, en⟩ : ∃ m, l.length = m := ⟨_, rfl⟩
  by_cases c1 : l.take 1 = [c]
  · rw [if_pos c1]
    rw [decide_eq_true c1] at H
    have hn : 1 ≤ n := by
      have := congrArg List.length c1
      rw [List.length_take] at this
      have e : ([c] : List Int).length = 1 := rfl
      omega
    rw [en] at hs he1 hm
    dsimp only
    obtain ⟨S, hS⟩ : ∃ S, strOfNums l = S := ⟨_, rfl⟩
    obtain ⟨T, hT⟩ : ∃ S, strOfNums (l.drop 1) = S := ⟨_, rfl⟩
    rw [hS] at hs he1 H ⊢
    rw [hT] at he1 ⊢
    clear hC hl c1 en hS hT
    go_enter Try.func87, Try.ntmps87
    go_wp2_with fail
    refine (trimS_yes S C T n _ hs hz he1 hn hm H).mono ?_
    rintro _ w1 ⟨rfl, rfl⟩
    go_wp2_with fail
    go_ret
    exact ⟨rfl, rfl⟩
  · rw [if_neg c1]
    rw [decide_eq_false c1] at H
    dsimp only
    obtain ⟨S, hS⟩ : ∃ S, strOfNums l = S := ⟨_, rfl⟩
    rw [hS] at H ⊢
    clear hC hl c1 en hS hs he1
    go_enter Try.func87, Try.ntmps87
    go_wp2_with fail
    refine (trimS_no S C _ H).mono ?_
    rintro _ w1 ⟨rfl, rfl⟩
    go_wp2_with fail
    go_ret
    exact ⟨rfl, rfl⟩
def syV (m : Int × Int × List Int × List Int × List Int) : Value := .agg #[.int .i64 m.1, .int .i64 m.2.1, .string (strOfNums m.2.2.1), .string (strOfNums m.2.2.2.1), .string (strOfNums m.2.2.2.2)]
theorem frV_eq (l : List Int) : ∃ n : Int, 0 ≤ n ∧ n ≤ 191 ∧ ((frP l).isSome = true → n % 8 = (frL l).1 ∧ n / 8 = (frL l).2.1) ∧ ((frP l).isSome = false → (frL l).1 = 6 ∧ (frL l).2.1 = 1) ∧ frV l = .tuple #[.int .i64 n, .string (strOfNums (frL l).2.2), .bool (frP l).isSome] := by
  rw [frV, frL]
  cases h : frP l with
  | none => exact ⟨0, by omega, by omega, (fun h => by cases h), (fun _ => ⟨rfl, rfl⟩), rfl⟩
  | some x =>
    refine ⟨x.1, ?_, ?_, (fun _ => ⟨rfl, rfl⟩), (fun h => by cases h), rfl⟩
    · rw [frP] at h
      split at h
      · split at h
        · rename_i hg
          split at h
          · injection h with h; subst h; exact (numG_dec hg).2.1
          · cases h
        · cases h
      · cases h
    · rw [frP] at h
      split at h
      · split at h
        · split at h
          · injection h with h; subst h; assumption
          · cases h
        · cases h
      · cases h
theorem frL_isB {l : List Int} (hl : isB l) : isB (frL l).2.2 ∧ (frL l).2.2.length ≤ l.length := by
  rw [frL]
  cases h : frP l with
  | none => exact ⟨hl, Nat.le_refl _⟩
  | some x =>
    rw [frP] at h
    have h1 := offI_isB hl 60
    have h2 := offI_len l 60
    have h3 := cutI_isB h1 62
    have h4 := cutI_len (offI l 60).1 62
    split at h
    · split at h
      · split at h
        · injection h with h; subst h; exact ⟨h3.2, Nat.le_trans h4.2 h2⟩
        · cases h
      · cases h
    · cases h
set_option maxHeartbeats 8000000 in
set_option maxRecDepth 100000 in
theorem sParse_calls (l : List Int) (w : World) (hl : isB l) (hm : l.length ≤ 140737488351232) : Calls Try.prog 38 #[.string (strOfNums l)] w fun e w' => e = .returned (syV (syP l)) ∧ Below w.heap.size w w' := by
  have CF := Aside0.mk (fun w => front_calls l w hl hm)
  obtain ⟨n, n0, n1, hs1, hs2, hV⟩ := frV_eq l
  rw [hV] at CF
  clear hV
  obtain ⟨ok, hok⟩ : ∃ b, (frP l).isSome = b := ⟨_, rfl⟩
  rw [hok] at hs1 hs2 CF
  clear hok
  obtain ⟨hb1, hb2⟩ := frL_isB hl
  have HS1 := Aside0.mk hs1
  have HS2 := Aside0.mk hs2
  clear hs1 hs2
  rw [syP]
  obtain ⟨R, hR⟩ : ∃ R, frL l = R := ⟨_, rfl⟩
  rw [hR] at CF HS1 HS2 hb1 hb2 ⊢
  obtain ⟨sv, fc, s⟩ := R
  dsimp only at CF HS1 HS2 hb1 hb2 ⊢
  obtain ⟨V, hV⟩ : ∃ V, syV (if tgN s = 0 ∨ (offI (piP (s.drop (tgN s))).2 58).2 = false then (sv, fc, [], [], s) else (sv, fc, s.take (tgN s), (piP (s.drop (tgN s))).1, (offI (offI (piP (s.drop (tgN s))).2 58).1 32).1)) = V := ⟨_, rfl⟩
  rw [hV]
  have HVV := Aside0.mk hV
  clear hV
  obtain ⟨L, hL⟩ : ∃ L, strOfNums l = L := ⟨_, rfl⟩
  rw [hL] at CF ⊢
  clear hL hl hR
  go_enter Try.func38, Try.ntmps38
  go_wp2_with fail
  refine (CF.out _).mono ?_
  rintro _ wz ⟨rfl, hb⟩
  have HX := Aside0.mk (blk_below (show ((w.alloc (.cells #[.int .i64 0, .int .i64 0, .string ⟨#[]⟩, .string ⟨#[]⟩, .string ⟨#[]⟩] 54)).alloc (.cells #[.int .i64 6, .int .i64 1, .string ⟨#[]⟩, .string ⟨#[]⟩, .string ⟨#[]⟩] 54)).heap[w.heap.size + 1]? = some (.cells #[.int .i64 6, .int .i64 1, .string ⟨#[]⟩, .string ⟨#[]⟩, .string ⟨#[]⟩] 54 (0, 0)) by have := blk_new (w.alloc (.cells #[.int .i64 0, .int .i64 0, .string ⟨#[]⟩, .string ⟨#[]⟩, .string ⟨#[]⟩] 54)) (.cells #[.int .i64 6, .int .i64 1, .string ⟨#[]⟩, .string ⟨#[]⟩, .string ⟨#[]⟩] 54); simpa using this) hb)
  have HY := Aside0.mk (blk_below (show ((w.alloc (.cells #[.int .i64 0, .int .i64 0, .string ⟨#[]⟩, .string ⟨#[]⟩, .string ⟨#[]⟩] 54)).alloc (.cells #[.int .i64 6, .int .i64 1, .string ⟨#[]⟩, .string ⟨#[]⟩, .string ⟨#[]⟩] 54)).heap[w.heap.size]? = some (.cells #[.int .i64 0, .int .i64 0, .string ⟨#[]⟩, .string ⟨#[]⟩, .string ⟨#[]⟩] 54 (0, 0)) from blk_alloc (blk_new _ _) _) hb)
  have HB := Aside0.mk (below_step (below_alloc (below_alloc (Below.refl w.heap.size w) _) _) hb)
  clear hb
  go_upto_if 18 with (fail)
  go_cut [] (fun wx => Aside0 (wx.heap[w.heap.size + 1]? = some (.cells #[.int .i64 sv, .int .i64 fc, .string ⟨#[]⟩, .string ⟨#[]⟩, .string ⟨#[]⟩] 54 (0, 0))) ∧ Aside0 (wx.heap[w.heap.size]? = some (.cells #[.int .i64 0, .int .i64 0, .string ⟨#[]⟩, .string ⟨#[]⟩, .string ⟨#[]⟩] 54 (0, 0))) ∧ Aside0 (Below w.heap.size w wx))
  case first =>
    cases ok with
    | false =>
      obtain ⟨rfl, rfl⟩ := HS2.out rfl
      go_wp2_with fail
      go_meet
      exact ⟨HX, HY, HB⟩
    | true =>
      obtain ⟨e1, e2⟩ := HS1.out rfl
      have e3 : n.tmod 8 = sv := by rw [Int.tmod_eq_emod_of_nonneg n0]; exact e1
      have e4 : n.tdiv 8 = fc := by rw [Int.tdiv_eq_ediv_of_nonneg n0]; exact e2
      have k0 := blk_cell HX.out 0
      have k1 := blk_cell HX.out 1
      have j0 := blk_frozen HX.out 0
      have j1 := blk_frozen HX.out 1
      have w1 : IntKind.i64.wrap sv = sv := by rw [IntKind.wrap_i64]; omega
      have w2 : IntKind.i64.wrap fc = fc := by rw [IntKind.wrap_i64]; omega
      go_wp2_with fail
      go_meet
      have X1 : (wz.setCell ⟨w.heap.size + 1, 0, none⟩ (.int .i64 sv)).heap[w.heap.size + 1]? = some (.cells #[.int .i64 sv, .int .i64 1, .string ⟨#[]⟩, .string ⟨#[]⟩, .string ⟨#[]⟩] 54 (0, 0)) := by simpa using blk_set HX.out 0 (.int .i64 sv)
      have X2 : ((wz.setCell ⟨w.heap.size + 1, 0, none⟩ (.int .i64 sv)).setCell ⟨w.heap.size + 1, 1, none⟩ (.int .i64 fc)).heap[w.heap.size + 1]? = some (.cells #[.int .i64 sv, .int .i64 fc, .string ⟨#[]⟩, .string ⟨#[]⟩, .string ⟨#[]⟩] 54 (0, 0)) := by simpa using blk_set X1 1 (.int .i64 fc)
      exact ⟨⟨X2⟩, ⟨blk_far (blk_far HY.out (by simp) _) (by simp) _⟩, ⟨(HB.out.setCell (p := ⟨w.heap.size + 1, 0, none⟩) (by show w.heap.size ≤ w.heap.size + 1; omega) _).setCell (p := ⟨w.heap.size + 1, 1, none⟩) (by show w.heap.size ≤ w.heap.size + 1; omega) _⟩⟩
  case rest =>
  obtain ⟨HX2, HY2, HB2⟩ := hcut
  clear HX HY HB HS1 HS2 CF n0 n1
  have HI := Aside0.mk (fun (k : Nat) (h : k < s.length) => str_at s hb1 k k rfl h)
  have HSB := Aside0.mk hb1
  have hs := strOf_size s
  obtain ⟨S, hS⟩ : ∃ S, strOfNums s = S := ⟨_, rfl⟩
  rw [hS] at hs HI ⊢
  have HSS := Aside0.mk hS
  have HG := Aside0.mk (tw_end namB s)
  have HA := Aside0.mk (tw_all namB s)
  have hGL := tw_le namB s
  obtain ⟨G, hG⟩ : ∃ G, tgN s = G := ⟨_, rfl⟩
  have HGN := Aside0.mk hG
  rw [tgN] at hG
  have HGG := Aside0.mk hG
  clear hS hG hb1
  go_upto_block 0 with (fail)
  go_cut [6] (fun v wx => v = .int .i64 G ∧ wc = wx)
  case first =>
    obtain ⟨N, hN⟩ : ∃ N, s.length = N := ⟨_, rfl⟩
    obtain ⟨T, hT⟩ : ∃ N, tw namB s = N := ⟨_, rfl⟩
    have HGT := HGG
    rw [hT] at HGT hGL HG HA
    rw [hN] at hs hGL HI HG
    clear hN hT
    have hg48 : G ≤ 48 := by have := HGT.out; omega
    have hgT : G ≤ T := by have := HGT.out; omega
    go_wp2_with fail
    go_loop [6] (fun v6 => ∃ k : Nat, k ≤ G ∧ v6 = .int .i64 k) (fun v6 => G - (intOf v6).toNat)
    case atStart => exact ⟨0, by omega, rfl⟩
    case round =>
      obtain ⟨k, hk, rfl⟩ := hrel
      by_cases c1 : k < G
      · have a1 : k < N := by omega
        have hix := HI.out k a1
        have hx := HA.out k (by omega)
        have hxb := HSB.out.getD k
        obtain ⟨x, ex⟩ : ∃ x, s.getD k 0 = x := ⟨_, rfl⟩
        rw [ex] at hix hx hxb
        have hk48 : k < 48 := by omega
        clear ex
        have CN := Aside0.mk (fun w => naming_calls x w hxb.1 hxb.2)
        rw [hx] at CN
        clear hx
        go_wp2_with fail
        refine (CN.out _).mono ?_
        rintro _ wn ⟨rfl, rfl⟩
        go_wp2_with fail
        go_round
        case rel => exact ⟨k + 1, by omega, by go_num⟩
        case measure => simp [intOf] <;> omega
      · obtain rfl : k = G := by omega
        by_cases e1 : k < N
        · by_cases e2 : k < 48
          · have hTG : T = k := by have := HGT.out; omega
            have hx := HG.out (by omega)
            rw [hTG] at hx
            have hix := HI.out k e1
            have hxb := HSB.out.getD k
            obtain ⟨x, ex⟩ : ∃ x, s.getD k 0 = x := ⟨_, rfl⟩
            rw [ex] at hix hx hxb
            clear ex hTG
            have CN := Aside0.mk (fun w => naming_calls x w hxb.1 hxb.2)
            rw [hx] at CN
            clear hx
            go_wp2_with fail
            refine (CN.out _).mono ?_
            rintro _ wn ⟨rfl, rfl⟩
            go_wp2_with fail
            go_meet
            exact ⟨rfl, rfl⟩
          · go_wp2_with fail
            go_meet
            exact ⟨rfl, rfl⟩
        · go_wp2_with fail
          go_meet
          exact ⟨rfl, rfl⟩
  case rest =>
  obtain ⟨rfl, rfl⟩ := hcut
  have hGle : G ≤ s.length := by have := HGG.out; omega
  have hx1 : S.extract G s.length = strOfNums (s.drop G) := by rw [← HSS.out, strOf_extract, List.take_of_length_le (Nat.le_refl _)]
  have hx0 : S.extract 0 G = strOfNums (s.take G) := by rw [← HSS.out, strOf_extract, List.drop_zero]
  have CP := Aside0.mk (fun w => pid_calls (s.drop G) w (HSB.out.drop _) (by rw [List.length_drop]; omega))
  have hrb := piP_isB (HSB.out.drop G)
  have hrl := piP_len (s.drop G)
  rw [List.length_drop] at hrl
  obtain ⟨P, hP⟩ : ∃ P, piP (s.drop G) = P := ⟨_, rfl⟩
  rw [hP] at CP hrb hrl
  have HP := Aside0.mk hP
  clear hP
  obtain ⟨pi, re⟩ := P
  dsimp only at CP hrb hrl
  have CO := Aside0.mk (fun w => off_calls re 58 ⟨#[58]⟩ w rfl hrb (by decide) (by omega))
  have hob := offI_isB hrb 58
  have hol := offI_len re 58
  obtain ⟨O, hO⟩ : ∃ P, offI re 58 = P := ⟨_, rfl⟩
  rw [hO] at CO hob hol
  have HO := Aside0.mk hO
  clear hO
  obtain ⟨tx, is⟩ := O
  dsimp only at CO hob hol
  have CT := Aside0.mk (fun w => trim_calls tx 32 ⟨#[32]⟩ w rfl hob (by decide) (by omega))
  obtain ⟨N, hN⟩ : ∃ N, s.length = N := ⟨_, rfl⟩
  obtain ⟨D, hD⟩ : ∃ N, strOfNums (s.drop G) = N := ⟨_, rfl⟩
  obtain ⟨M, hM⟩ : ∃ N, strOfNums (s.take G) = N := ⟨_, rfl⟩
  obtain ⟨I, hI⟩ : ∃ N, strOfNums pi = N := ⟨_, rfl⟩
  obtain ⟨E, hE⟩ : ∃ N, strOfNums re = N := ⟨_, rfl⟩
  obtain ⟨T, hT⟩ : ∃ N, strOfNums tx = N := ⟨_, rfl⟩
  obtain ⟨U, hU⟩ : ∃ N, strOfNums (offI tx 32).1 = N := ⟨_, rfl⟩
  rw [hN] at hs hx1 hGle
  rw [hD] at hx1 CP
  rw [hM] at hx0
  rw [hI] at CP
  rw [hE] at CP CO
  rw [hT] at CO CT
  rw [hU] at CT
  have HM := Aside0.mk hM
  have HII := Aside0.mk hI
  have HU := Aside0.mk hU
  clear hN hD hM hI hE hT hU hrb hob hrl hol HI HG HA hGL HSB
  go_wp2_with fail
  refine (CP.out _).mono ?_
  rintro _ w1 ⟨rfl, hb⟩
  have HX3 := Aside0.mk (blk_below HX2.out hb)
  have HY3 := Aside0.mk (blk_below HY2.out hb)
  have HB3 := Aside0.mk (below_step HB2.out hb)
  clear hb HX2 HY2 HB2
  go_wp2_with fail
  refine (CO.out _).mono ?_
  rintro _ w2 ⟨rfl, hb⟩
  have HX4 := Aside0.mk (blk_below HX3.out hb)
  have HY4 := Aside0.mk (blk_below HY3.out hb)
  have HB4 := Aside0.mk (below_step HB3.out hb)
  clear hb HX3 HY3 HB3
  by_cases c1 : G = 0 ∨ is = false
  · have HFIN := Aside0.mk (show V = .agg #[.int .i64 sv, .int .i64 fc, .string ⟨#[]⟩, .string ⟨#[]⟩, .string S] by
      rw [← HVV.out, HGN.out, HP.out]; dsimp only; rw [HO.out]; dsimp only; rw [if_pos c1, syV]; dsimp only; rw [HSS.out]; rfl)
    have r0 := blk_cell HX4.out 0
    have r1 := blk_cell HX4.out 1
    have r2 := blk_cell HX4.out 2
    have r3 := blk_cell HX4.out 3
    have r4 := blk_cell HX4.out 4
    have f0 := blk_frozen HX4.out 0
    have f1 := blk_frozen HX4.out 1
    have f2 := blk_frozen HX4.out 2
    have f3 := blk_frozen HX4.out 3
    have f4 := blk_frozen HX4.out 4

    have y0 := blk_cell HY4.out 0
    have y1 := blk_cell HY4.out 1
    have y2 := blk_cell HY4.out 2
    have y3 := blk_cell HY4.out 3
    have y4 := blk_cell HY4.out 4
    have j0 := blk_frozen HY4.out 0
    have j1 := blk_frozen HY4.out 1
    have j2 := blk_frozen HY4.out 2
    have j3 := blk_frozen HY4.out 3
    have j4 := blk_frozen HY4.out 4

    by_cases g2 : G = 0
    · subst g2
      clear c1
      go_wp2_with fail
      refine bodyPost_ret (v := .agg #[.int .i64 sv, .int .i64 fc, .string ⟨#[]⟩, .string ⟨#[]⟩, .string S]) (by simp [results, Try.results38, go_sem, y0, y1, y2, y3, y4]) rfl ⟨by rw [HFIN.out], ?_⟩
      exact below_set5 (below_set HB4.out _ (Nat.le_succ _) _) _ (Nat.le_refl _) _ _ _ _ _

    · have g3 : ((G : Int) == 0) = false := by rw [beq_eq_false_iff_ne]; omega
      obtain rfl : is = false := c1.resolve_left g2
      clear c1
      go_wp2_with fail
      refine bodyPost_ret (v := .agg #[.int .i64 sv, .int .i64 fc, .string ⟨#[]⟩, .string ⟨#[]⟩, .string S]) (by simp [results, Try.results38, go_sem, y0, y1, y2, y3, y4]) rfl ⟨by rw [HFIN.out], ?_⟩
      exact below_set5 (below_set HB4.out _ (Nat.le_succ _) _) _ (Nat.le_refl _) _ _ _ _ _

  · have HFIN := Aside0.mk (show V = .agg #[.int .i64 sv, .int .i64 fc, .string M, .string I, .string U] by
      rw [← HVV.out, HGN.out, HP.out]; dsimp only; rw [HO.out]; dsimp only; rw [if_neg c1, syV]; dsimp only; rw [HM.out, HII.out, HU.out])
    obtain ⟨h1, h2⟩ := not_or.1 c1
    obtain rfl : is = true := by simpa using h2
    have g3 : ((G : Int) == 0) = false := by rw [beq_eq_false_iff_ne]; omega
    clear c1 h1 h2
    have r0 := blk_cell HX4.out 0
    have r1 := blk_cell HX4.out 1
    have r2 := blk_cell HX4.out 2
    have r3 := blk_cell HX4.out 3
    have r4 := blk_cell HX4.out 4
    have f0 := blk_frozen HX4.out 0
    have f1 := blk_frozen HX4.out 1
    have f2 := blk_frozen HX4.out 2
    have f3 := blk_frozen HX4.out 3
    have f4 := blk_frozen HX4.out 4

    go_wp2_with fail
    refine (CT.out _).mono ?_
    rintro _ w5 ⟨rfl, rfl⟩
    have y0 := blk_cell HY4.out 0
    have y1 := blk_cell HY4.out 1
    have y2 := blk_cell HY4.out 2
    have y3 := blk_cell HY4.out 3
    have y4 := blk_cell HY4.out 4
    have j0 := blk_frozen HY4.out 0
    have j1 := blk_frozen HY4.out 1
    have j2 := blk_frozen HY4.out 2
    have j3 := blk_frozen HY4.out 3
    have j4 := blk_frozen HY4.out 4

    go_wp2_with fail
    refine bodyPost_ret (v := .agg #[.int .i64 sv, .int .i64 fc, .string M, .string I, .string U]) (by simp [results, Try.results38, go_sem, y0, y1, y2, y3, y4]) rfl ⟨by rw [HFIN.out], ?_⟩
    exact below_set5 (below_set (below_set (below_set HB4.out _ (Nat.le_succ _) _) _ (Nat.le_succ _) _) _ (Nat.le_succ _) _) _ (Nat.le_refl _) _ _ _ _ _
end Go.Proofs.Ytplmdgimodgekaa
