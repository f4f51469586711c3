/- LeBack: what is put down is taken again. -/
import Derived.Test.YtmcgpaikmmecoaaReader2
namespace Go.Proofs.Ytmcgpaikmmecoaa
open Go.RowKit Go.Proofs.YtmcgpaikmmecoaaW.PrintWords Go.Proofs.YtmcgpaikmmecoaaW.PrintLast Go.Proofs.YtmcgpaikmmecoaaW.PrintMore
attribute [local go_sem] max2_int min2_int max_two min_two max_three min_three max_four min_four   -- for this text's walks alone
set_option linter.unusedVariables false
set_option linter.unusedSimpArgs false

theorem WrS.next {w w1 w2 : World} {g : Nat} {v : Value} {l l' : List Int} (h : WrV w1 g w.heap.size v l) (hb : Below w.heap.size w w1) (hg : w.heap.size ≤ g) (hs : WrS w1 w2 g w.heap.size v l') : ∃ v', WrV w2 g w.heap.size v' l' ∧ Below w.heap.size w w2 := by
  obtain ⟨v', hv, hk, _⟩ := hs
  exact ⟨v', hv, Kp.from hb hk (fun k hh => by rcases hh with rfl | hh; exact hg; exact h.2.ge hh)⟩
theorem words8_drop : ∀ (l : List Int) (i : Nat), (words8 l).drop (8 * i) = words8 (l.drop i)
  | [], i => by simp [words8]
  | n :: r, 0 => by simp
  | n :: r, i + 1 => by
    rw [words8, List.drop_succ_cons, ← words8_drop r i, show 8 * (i + 1) = (leB n 8).length + 8 * i by rw [leB_len]; omega, List.drop_append]
    simp
theorem words8_isB' : ∀ l, isB (words8 l)
  | [] => fun x hx => by simp [words8] at hx
  | n :: r => (leB_isB n 8).app (words8_isB' r)
theorem getN_words (pre l : List Int) (hw : isW l) (i : Nat) (hi : i < l.length) : getN (pre ++ words8 l) ((pre.length : Int) + 8 * (i : Int)) 8 = l.getD i 0 := by
  have hf : fitsB (pre ++ words8 l).length ((pre.length : Int) + 8 * (i : Int)) 8 = true := fits_ok ⟨by omega, by omega, by rw [List.length_append, words8_len]; omega, by rw [List.length_append, words8_len]; omega⟩
  rw [getN, if_pos hf, show ((pre.length : Int) + 8 * (i : Int)).toNat = pre.length + 8 * i by omega, List.drop_append, show pre.length + 8 * i - pre.length = 8 * i by omega, List.drop_eq_nil_of_le (show pre.length ≤ pre.length + 8 * i by omega), List.nil_append, words8_drop, drop_cons' hi]
  rw [show (8 : Int).toNat = 8 from rfl, words8]
  have h := leN_leB 8 (l.getD i 0) (hw.getD i).1
  rw [List.take_append_of_le_length (by rw [leB_len]; exact Nat.le_refl 8), List.take_of_length_le (by rw [leB_len]; exact Nat.le_refl 8), h]
  have := hw.getD i
  omega
theorem words_back (pre l : List Int) (hw : isW l) : wordsAt (pre ++ words8 l) (pre.length : Int) l.length = l := by
  apply List.ext_getElem?
  intro i
  simp only [wordsAt, List.getElem?_map]
  rcases Nat.lt_or_ge i l.length with h | h
  · rw [List.getElem?_range h, Option.map_some, getN_words pre l hw i h, List.getD_eq_getElem?_getD, List.getElem?_eq_getElem h]; rfl
  · rw [List.getElem?_eq_none (by simpa using h), List.getElem?_eq_none h]; rfl
theorem raw_back1 (b r : List Int) : rawAt (b ++ r) 0 (b.length : Int) = b := by simp [rawAt]
theorem raw_back2 (b : List Int) (p : Nat) (r : List Int) : rawAt (b ++ List.replicate p (0 : Int) ++ r) (b.length : Int) (p : Int) = List.replicate p 0 := by
  rw [rawAt, show ((b.length : Int) + (p : Int)).toNat = (b ++ List.replicate p (0 : Int)).length by simp; omega, List.take_left]
  simp
set_option maxHeartbeats 16000000 in
set_option maxRecDepth 100000 in
theorem LeBack_calls (vl vb : Value) (l b : List Int) (qq : Int) (w : World) (hl : Rd w .u64 vl l) (hb : Rd w .u8 vb b) (hw : isW l) (hib : isB b) (ht0 : 0 ≤ qq) (ht1 : qq ≤ 255) :
    Calls Try.prog 9 #[vl, vb, .int .u8 qq] w fun e w' => e = .returned (.bool true) ∧ Below w.heap.size w w' := by
  have HL := Aside0.mk hl
  have HB := Aside0.mk hb
  have HW := Aside0.mk hw
  have HIB := Aside0.mk hib
  have HOLD := Aside0.mk (fun (A : Addr) n c (e : vl = .slice (some A) n c) (hp : 0 < l.length) => rd_old hl e hp)
  obtain ⟨Al, cl, el, hcl, hml, _⟩ := hl.mid
  obtain ⟨Ab, cb, eb, hcb, hmb, _⟩ := hb.mid
  subst el
  subst eb
  clear hl hb hw hib
  by_cases c1 : 100 < l.length
  · go_enter Try.func9, Try.ntmps9
    go_wp2_with fail
    refine (le_awake_calls _).mono ?_
    rintro e w1 ⟨rfl, hb⟩
    have HB1 := Aside0.mk hb
    clear hb
    go_wp2_with fail
    go_ret
    exact ⟨rfl, HB1.out⟩
  by_cases c2 : 500 < b.length
  · go_enter Try.func9, Try.ntmps9
    go_wp2_with fail
    refine (le_awake_calls _).mono ?_
    rintro e w1 ⟨rfl, hb⟩
    have HB1 := Aside0.mk hb
    clear hb
    go_wp2_with fail
    go_ret
    exact ⟨rfl, HB1.out⟩
  obtain ⟨p, hp⟩ : ∃ p, padN b.length qq = p := ⟨_, rfl⟩
  have hpl : p ≤ 255 := by have := padN_le b.length qq; omega
  obtain ⟨N, hN⟩ : ∃ N, (b ++ List.replicate p (0 : Int)).length = N := ⟨_, rfl⟩
  have hNN : N = b.length + p := by rw [← hN]; simp
  obtain ⟨X, hX⟩ : ∃ X, b ++ List.replicate p (0 : Int) ++ words8 l = X := ⟨_, rfl⟩
  have hXL : X.length = b.length + p + 8 * l.length := by rw [← hX, List.length_append, hN, words8_len, hNN]
  have HIX := Aside0.mk (show isB X by rw [← hX]; exact (HIB.out.app (fun x hx => by have := List.eq_of_mem_replicate hx; omega)).app (words8_isB' _))
  have HR1 := Aside0.mk (show rawAt X 0 (b.length : Int) = b by rw [← hX, List.append_assoc]; exact raw_back1 _ _)
  have HR2 := Aside0.mk (show rawAt X (b.length : Int) (p : Int) = List.replicate p 0 by rw [← hX]; exact raw_back2 _ _ _)
  have HR3 := Aside0.mk (show wordsAt X ((b.length : Int) + (p : Int)) l.length = l by
    have := words_back (b ++ List.replicate p (0 : Int)) l HW.out
    rw [hX, hN, hNN] at this
    simpa using this)
  have HK1 := Aside0.mk (show kOk false X.length 0 b.length = true by simp [kOk]; omega)
  have HK2 := Aside0.mk (show kOk false X.length b.length p = true by simp [kOk]; omega)
  have HK3 := Aside0.mk (show wOk false X.length ((b.length : Int) + (p : Int)) l.length = true by simp [wOk]; omega)
  have hsub : wrap64 ((N : Int) - (b.length : Int)) = (p : Int) := by unfold wrap64; omega
  have hpp : ((p : Int) != (p : Int)) = false := by simp
  have HP := Aside0.mk hp
  have HN := Aside0.mk hN
  have HNN := Aside0.mk hNN
  have HX := Aside0.mk hX
  have HXL := Aside0.mk hXL
  obtain ⟨hx1, hx2⟩ : b.length + p ≤ X.length ∧ X.length ≤ 2000 := by omega
  clear hp hN hNN hX hXL
  go_enter Try.func9, Try.ntmps9
  go_wp2_with fail
  refine (Writer_Raw_calls _ b _ w.heap.size w.heap.size (.slice none 0 0) [] ⟨blk_new _ _, Own.nil _ _ _ _⟩ (HB.out.below (below_alloc (Below.refl _ _) _)) (by simp) (by simp; omega)).mono ?_
  rintro e w1 ⟨rfl, hs⟩
  obtain ⟨v1, hv1, hb1⟩ := WrS.next ⟨blk_new _ _, Own.nil _ _ _ _⟩ (below_alloc (Below.refl _ _) _) (Nat.le_refl _) hs
  rw [List.nil_append] at hv1
  have HV1 := Aside0.mk hv1
  have HB1 := Aside0.mk hb1
  clear hs hv1 hb1
  go_wp2_with fail
  refine (Writer_Pad_calls qq _ w.heap.size w.heap.size v1 b HV1.out HB1.out.size (by rw [HP.out]; omega)).mono ?_
  rintro e w2 ⟨rfl, hs⟩
  obtain ⟨v2, hv2, hb2⟩ := WrS.next HV1.out HB1.out (Nat.le_refl _) hs
  rw [HP.out] at hv2
  have HV2 := Aside0.mk hv2
  have HB2 := Aside0.mk hb2
  clear hs hv2 hb2
  go_wp2_with fail
  refine (Writer_Len_calls _ w.heap.size w.heap.size v2 _ HV2.out).mono ?_
  rintro e w3 ⟨rfl, hb⟩
  have HV3 := Aside0.mk (HV2.out.below hb)
  have HB3 := Aside0.mk (below_step HB2.out hb)
  clear hb
  rw [HN.out]
  go_wp2_with fail
  refine (Writer_Words_calls _ l HW.out _ w.heap.size w.heap.size v2 _ HV3.out (HL.out.below HB3.out) (fun A n c e hp => ⟨fun hh => by have := HOLD.out A n c e hp; omega, fun hh => by have := HOLD.out A n c e hp; have := HV3.out.2.ge hh; omega⟩) HB3.out.size (by rw [HN.out, HNN.out]; omega)).mono ?_
  rintro e w4 ⟨rfl, hs⟩
  obtain ⟨v4, hv4, hb4⟩ := WrS.next HV3.out HB3.out (Nat.le_refl _) hs
  rw [HX.out] at hv4
  have HV4 := Aside0.mk hv4
  have HB4 := Aside0.mk hb4
  clear hs hv4 hb4
  go_wp2_with fail
  refine (Writer_Done_calls _ w.heap.size w.heap.size v4 X HV4.out (by omega)).mono ?_
  rintro e w5 ⟨vx, rfl, hO, hb⟩
  have HO5 := Aside0.mk (Own.rd hO)
  have HLT := Aside0.mk (fun (A : Addr) n c (e : vx = .slice (some A) n c) => show A.block ≠ w5.heap.size from fun h => by have := hO.lt (k := A.block) (by rw [e]; rfl); omega)
  have HB5 := Aside0.mk (below_step HB4.out hb)
  obtain ⟨Ax, cx, ex⟩ := own_slice hO
  subst ex
  clear hO hb
  go_wp2_with fail
  refine (le_Read_calls _ X 0 _ HO5.out (by omega)).mono ?_
  rintro e w6 ⟨rfl, hb, hr⟩
  rw [if_pos (by omega)] at hr
  have HS6 := Aside0.mk hb
  have HV6 := Aside0.mk hr
  have HB6 := Aside0.mk (below_step HB5.out hb)
  clear hb hr
  go_wp2_with fail
  refine (Reader_Raw_calls (b.length : Int) _ w5.heap.size _ X 0 false HV6.out (HO5.out.below HS6.out) HIX.out (by omega) (by omega) (by omega)).mono ?_
  rintro e w7 ⟨u7, rfl, hO, hr, hk⟩
  rw [HK1.out] at hr hO
  simp only [cond_true, Bool.not_true, HR1.out, Int.zero_add] at hr hO
  have HO7 := Aside0.mk (Own.rd hO)
  have HV7 := Aside0.mk hr
  have HS7 := Aside0.mk (Kp.from HS6.out hk (fun k hk => by omega))
  have HB7 := Aside0.mk (below_step HB5.out HS7.out)
  clear hO hr hk
  go_wp2_with fail
  refine (Same_calls u7 _ b b _ HO7.out (HB.out.below HB7.out) HIB.out HIB.out).mono ?_
  rintro e w8 ⟨rfl, hb⟩
  have HV8 := Aside0.mk (HV7.out.below hb)
  have HS8 := Aside0.mk (below_step HS7.out hb)
  clear hb
  rw [show decide (b = b) = true from decide_eq_true rfl]
  go_wp2_with fail
  refine (Reader_Raw_calls (p : Int) _ w5.heap.size _ X b.length false HV8.out (HO5.out.below HS8.out) HIX.out (by omega) (by omega) (by omega)).mono ?_
  rintro e w9 ⟨u9, rfl, hO, hr, hk⟩
  rw [HK2.out] at hr hO
  simp only [cond_true, Bool.not_true, HR2.out] at hr hO
  obtain ⟨A9, c9, e9⟩ := own_slice hO
  rw [List.length_replicate] at e9
  subst e9
  have HV9 := Aside0.mk hr
  have HS9 := Aside0.mk (Kp.from HS8.out hk (fun k hk => by omega))
  have HB9 := Aside0.mk (below_step HB5.out HS9.out)
  clear hO hr hk
  go_wp2_with fail
  refine (Reader_Words_calls (l.length : Int) _ w5.heap.size _ X _ false HV9.out (HO5.out.below HS9.out) HIX.out (fun A n c e _ => HLT.out A n c e) (by omega) (by omega) (by omega)).mono ?_
  rintro e w10 ⟨u10, rfl, hO, hr, hk⟩
  rw [HK3.out] at hr hO
  simp only [cond_true, Bool.not_true, Int.toNat_natCast, HR3.out] at hr hO
  rw [show (b.length : Int) + (p : Int) + 8 * (l.length : Int) = (X.length : Int) by have := HXL.out; omega] at hr
  have HO10 := Aside0.mk (Own.rd hO)
  have HV10 := Aside0.mk hr
  have HS10 := Aside0.mk (Kp.from HS9.out hk (fun k hk => by omega))
  have HB10 := Aside0.mk (below_step HB5.out HS10.out)
  clear hO hr hk
  go_wp2_with fail
  refine (ref_Words_calls u10 _ l l _ HO10.out (HL.out.below HB10.out)).mono ?_
  rintro e w11 ⟨rfl, hb⟩
  have HV11 := Aside0.mk (HV10.out.below hb)
  have HB11 := Aside0.mk (below_step HB10.out hb)
  clear hb
  rw [show decide (l = l) = true from decide_eq_true rfl]
  go_wp2_with fail
  refine (Reader_At_calls _ w5.heap.size _ _ false HV11.out).mono ?_
  rintro e w12 ⟨rfl, hb⟩
  have HB12 := Aside0.mk (below_step HB11.out hb)
  clear hb
  go_wp2_with fail
  refine (le_awake_calls _).mono ?_
  rintro e w13 ⟨rfl, hb⟩
  have HB13 := Aside0.mk (below_step HB12.out hb)
  clear hb
  go_wp2_with fail
  go_ret
  exact ⟨rfl, HB13.out⟩
theorem LeBack_walk (a0 : Option Addr) (len0 cap0 : Nat) (z0 : List Int) (a1 : Option Addr) (len1 cap1 : Nat) (z1 : List Int) (a2 : Int) (w : World) (w0 : (a0 = none ∧ len0 = 0 ∧ cap0 = 0 ∧ z0 = []) ∨ ∃ x, a0 = some x ∧ len0 ≤ cap0 ∧ cap0 ≤ maxLen ∧ z0.length = cap0 ∧ (∀ i, i < z0.length → w.cell? (x.add i) = some (.int .u64 (z0.getD i 0))) ∧ ∀ n ∈ z0, (Lit.int .u64 n).wf = true) (y0 : len0 * 8 ≤ 140737488351232) (w1 : (a1 = none ∧ len1 = 0 ∧ cap1 = 0 ∧ z1 = []) ∨ ∃ x, a1 = some x ∧ len1 ≤ cap1 ∧ cap1 ≤ maxLen ∧ z1.length = cap1 ∧ (∀ i, i < z1.length → w.cell? (x.add i) = some (.int .u8 (z1.getD i 0))) ∧ ∀ n ∈ z1, (Lit.int .u8 n).wf = true) (y1 : len1 * 1 ≤ 140737488351232) (w2 : (Lit.int .u8 a2).wf = true) :
    Calls Try.prog 9 #[.slice a0 len0 cap0, .slice a1 len1 cap1, .int .u8 a2] w fun e w' => e = .returned (.bool true) ∧ Below w.heap.size w w' := by
  obtain ⟨l0, rfl, hr0, hm0, hw0, hc0⟩ := ReadsInt.ofRowC w0
  obtain ⟨l1, rfl, hr1, hm1, hw1, hc1⟩ := ReadsInt.ofRowC w1
  exact LeBack_calls _ _ l0 l1 a2 w ⟨_, _, rfl, hc0, hr0⟩ ⟨_, _, rfl, hc1, hr1⟩ (fun x hx => bounds_u64 (hw0 x hx)) (wf_isB hw1) (bounds_u8 w2).1 (bounds_u8 w2).2
end Go.Proofs.Ytmcgpaikmmecoaa
