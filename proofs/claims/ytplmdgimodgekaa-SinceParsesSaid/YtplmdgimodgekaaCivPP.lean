/- Texts that are times, in plain lists. -/
import Derived.Test.YtplmdgimodgekaaCivD
namespace Go.Proofs.Ytplmdgimodgekaa
open Go.RowKit Go.Proofs.YtplmdgimodgekaaW.PrintWords
set_option linter.unusedVariables false
set_option linter.unusedSimpArgs false

def formL : List Int := [48, 48, 48, 48, 45, 48, 48, 45, 48, 48, 32, 48, 48, 58, 48, 48, 58, 48, 48, 46, 48, 48, 48, 48, 48, 48]
def formS : ByteArray := ⟨#[48, 48, 48, 48, 45, 48, 48, 45, 48, 48, 32, 48, 48, 58, 48, 48, 58, 48, 48, 46, 48, 48, 48, 48, 48, 48]⟩
theorem formS_bytes : bytesOf formS = formL := by decide +kernel
def lensL : List Nat := [10, 16, 19, 26]
def okK (l : List Int) (k : Nat) : Bool := (lensL.take k).any fun n => likeB l (formL.take n)
theorem okK_succ (l : List Int) (k : Nat) (h : k < 4) : okK l (k + 1) = (okK l k || likeB l (formL.take (lensL.getD k 0))) := by
  match k, h with
  | 0, _ => simp [okK, lensL]
  | 1, _ => simp [okK, lensL]
  | 2, _ => simp [okK, lensL, Bool.or_assoc]
  | 3, _ => simp [okK, lensL, Bool.or_assoc]
def lenOk (n : Nat) : Bool := decide (n = 10 ∨ n = 16 ∨ n = 19 ∨ n = 26)
def padP (l : List Int) : List Int := l ++ formL.drop l.length
theorem padP_len {l : List Int} (h : l.length ≤ 26) : (padP l).length = 26 := by rw [padP, List.length_append, List.length_drop, show formL.length = 26 from rfl]; omega
theorem likeB_iff (l m : List Int) : likeB l m = true ↔ l.length = m.length ∧ ∀ i, i < l.length → likeC (l.getD i 0) (m.getD i 0) = true := by
  rw [likeB, Bool.and_eq_true, decide_eq_true_eq, List.all_eq_true]
  exact ⟨fun ⟨a, b⟩ => ⟨a, fun i hi => b i (List.mem_range.2 hi)⟩, fun ⟨a, b⟩ => ⟨a, fun i hi => b i (List.mem_range.1 hi)⟩⟩
theorem likeC_self (i : Nat) : i < 26 → likeC (formL.getD i 0) (formL.getD i 0) = true := by
  have : ∀ i : Fin 26, likeC (formL.getD i 0) (formL.getD i 0) = true := by decide +kernel
  exact fun h => this ⟨i, h⟩
theorem getD_drop' (l : List Int) (a i : Nat) : (l.drop a).getD i 0 = l.getD (a + i) 0 := by simp [List.getD_eq_getElem?_getD, List.getElem?_drop]
theorem like_pad {l : List Int} (h : l.length ≤ 26) : likeB l (formL.take l.length) = likeB (padP l) formL := by
  rw [Bool.eq_iff_iff, likeB_iff, likeB_iff, padP_len h]
  have hf : formL.length = 26 := rfl
  constructor
  · rintro ⟨h1, h2⟩
    refine ⟨rfl, fun i hi => ?_⟩
    by_cases c : i < l.length
    · have := h2 i c
      rw [List.getD_eq_getElem?_getD, List.getD_eq_getElem?_getD, List.getElem?_take_of_lt c] at this
      rw [padP, List.getD_eq_getElem?_getD, List.getD_eq_getElem?_getD, List.getElem?_append_left c]
      exact this
    · rw [padP, show (l ++ formL.drop l.length).getD i 0 = formL.getD i 0 by
        rw [List.getD_eq_getElem?_getD, List.getElem?_append_right (by omega), ← List.getD_eq_getElem?_getD, getD_drop']; congr 1; omega]
      exact likeC_self i hi
  · rintro ⟨_, h2⟩
    refine ⟨by rw [List.length_take, hf]; omega, fun i hi => ?_⟩
    have := h2 i (by omega)
    rw [padP, List.getD_eq_getElem?_getD, List.getD_eq_getElem?_getD, List.getElem?_append_left hi] at this
    rw [List.getD_eq_getElem?_getD, List.getD_eq_getElem?_getD, List.getElem?_take_of_lt hi]
    exact this
theorem likeB_len {l m : List Int} (h : likeB l m = true) : l.length = m.length := ((likeB_iff l m).1 h).1
theorem okK_4 (l : List Int) : okK l 4 = (lenOk l.length && likeB (padP l) formL) := by
  have hn : ∀ n, n ≤ 26 → l.length ≠ n → likeB l (formL.take n) = false := fun n hn h => by
    cases e : likeB l (formL.take n)
    · rfl
    · have := likeB_len e
      rw [List.length_take, show formL.length = 26 from rfl] at this
      omega
  have e : okK l 4 = (likeB l (formL.take 10) || (likeB l (formL.take 16) || (likeB l (formL.take 19) || likeB l (formL.take 26)))) := by simp [okK, lensL]
  rw [e]
  by_cases c : l.length = 10 ∨ l.length = 16 ∨ l.length = 19 ∨ l.length = 26
  · have hp := like_pad (l := l) (by omega)
    rw [lenOk, decide_eq_true c, Bool.true_and, ← hp]
    rcases c with c | c | c | c <;> rw [c] at hp ⊢
    · rw [hn 16 (by omega) (by omega), hn 19 (by omega) (by omega), hn 26 (by omega) (by omega)]; simp
    · rw [hn 10 (by omega) (by omega), hn 19 (by omega) (by omega), hn 26 (by omega) (by omega)]; simp
    · rw [hn 10 (by omega) (by omega), hn 16 (by omega) (by omega), hn 26 (by omega) (by omega)]; simp
    · rw [hn 10 (by omega) (by omega), hn 16 (by omega) (by omega), hn 19 (by omega) (by omega)]; simp
  · rw [lenOk, decide_eq_false c, hn 10 (by omega) (by omega), hn 16 (by omega) (by omega), hn 19 (by omega) (by omega), hn 26 (by omega) (by omega)]; rfl
/-- A number that stands from a to b. -/
def fld (P : List Int) (a b : Nat) : Int := numD ((P.take b).drop a)

theorem list26 {P : List Int} (h : P.length = 26) : ∃ p0 p1 p2 p3 p4 p5 p6 p7 p8 p9 p10 p11 p12 p13 p14 p15 p16 p17 p18 p19 p20 p21 p22 p23 p24 p25, P = [p0, p1, p2, p3, p4, p5, p6, p7, p8, p9, p10, p11, p12, p13, p14, p15, p16, p17, p18, p19, p20, p21, p22, p23, p24, p25] := by
  match P, h with
  | [p0, p1, p2, p3, p4, p5, p6, p7, p8, p9, p10, p11, p12, p13, p14, p15, p16, p17, p18, p19, p20, p21, p22, p23, p24, p25], _ => exact ⟨_, _, _, _, _, _, _, _, _, _, _, _, _, _, _, _, _, _, _, _, _, _, _, _, _, _, rfl⟩
theorem like26 (p0 p1 p2 p3 p4 p5 p6 p7 p8 p9 p10 p11 p12 p13 p14 p15 p16 p17 p18 p19 p20 p21 p22 p23 p24 p25 : Int) : likeB [p0, p1, p2, p3, p4, p5, p6, p7, p8, p9, p10, p11, p12, p13, p14, p15, p16, p17, p18, p19, p20, p21, p22, p23, p24, p25] formL = true ↔ (dgB p0 = true ∧ dgB p1 = true ∧ dgB p2 = true ∧ dgB p3 = true ∧ dgB p5 = true ∧ dgB p6 = true ∧ dgB p8 = true ∧ dgB p9 = true ∧ dgB p11 = true ∧ dgB p12 = true ∧ dgB p14 = true ∧ dgB p15 = true ∧ dgB p17 = true ∧ dgB p18 = true ∧ dgB p20 = true ∧ dgB p21 = true ∧ dgB p22 = true ∧ dgB p23 = true ∧ dgB p24 = true ∧ dgB p25 = true) ∧ (p4 = 45 ∧ p7 = 45 ∧ p10 = 32 ∧ p13 = 58 ∧ p16 = 58 ∧ p19 = 46) := by
  simp [likeB, List.range_succ, formL, likeC]
  constructor
  · intro h; simp [h]
  · intro h; simp [h]
theorem dg_mem {l : List Int} (h : ∀ c ∈ l, dgB c = true) : ∀ c ∈ l, dgB c = true := h
theorem text26 (p0 p1 p2 p3 p4 p5 p6 p7 p8 p9 p10 p11 p12 p13 p14 p15 p16 p17 p18 p19 p20 p21 p22 p23 p24 p25 : Int) (h0 : dgB p0 = true) (h1 : dgB p1 = true) (h2 : dgB p2 = true) (h3 : dgB p3 = true) (h5 : dgB p5 = true) (h6 : dgB p6 = true) (h8 : dgB p8 = true) (h9 : dgB p9 = true) (h11 : dgB p11 = true) (h12 : dgB p12 = true) (h14 : dgB p14 = true) (h15 : dgB p15 = true) (h17 : dgB p17 = true) (h18 : dgB p18 = true) (h20 : dgB p20 = true) (h21 : dgB p21 = true) (h22 : dgB p22 = true) (h23 : dgB p23 = true) (h24 : dgB p24 = true) (h25 : dgB p25 = true) :
    textL (numD [p0, p1, p2, p3]) (numD [p5, p6]) (numD [p8, p9]) (numD [p11, p12]) (numD [p14, p15]) (numD [p17, p18]) (numD [p20, p21, p22, p23, p24, p25]) = [p0, p1, p2, p3, 45, p5, p6, 45, p8, p9, 32, p11, p12, 58, p14, p15, 58, p17, p18, 46, p20, p21, p22, p23, p24, p25] := by
  rw [textL, dI_numD 4 [p0, p1, p2, p3] rfl (by intro c hc; simp only [List.mem_cons, List.not_mem_nil, or_false] at hc; rcases hc with rfl | rfl | rfl | rfl <;> assumption), dI_numD 2 [p5, p6] rfl (by intro c hc; simp only [List.mem_cons, List.not_mem_nil, or_false] at hc; rcases hc with rfl | rfl <;> assumption), dI_numD 2 [p8, p9] rfl (by intro c hc; simp only [List.mem_cons, List.not_mem_nil, or_false] at hc; rcases hc with rfl | rfl <;> assumption), dI_numD 2 [p11, p12] rfl (by intro c hc; simp only [List.mem_cons, List.not_mem_nil, or_false] at hc; rcases hc with rfl | rfl <;> assumption), dI_numD 2 [p14, p15] rfl (by intro c hc; simp only [List.mem_cons, List.not_mem_nil, or_false] at hc; rcases hc with rfl | rfl <;> assumption), dI_numD 2 [p17, p18] rfl (by intro c hc; simp only [List.mem_cons, List.not_mem_nil, or_false] at hc; rcases hc with rfl | rfl <;> assumption), dI_numD 6 [p20, p21, p22, p23, p24, p25] rfl (by intro c hc; simp only [List.mem_cons, List.not_mem_nil, or_false] at hc; rcases hc with rfl | rfl | rfl | rfl | rfl | rfl <;> assumption)]
  rfl
/-- Is it a time. -/
def timB (P : List Int) : Bool := rightB (fld P 0 4) (fld P 5 7) (fld P 8 10) (fld P 11 13) (fld P 14 16) (fld P 17 19) (fld P 20 26)
def goodP (l : List Int) : Bool := lenOk l.length && likeB (padP l) formL && timB (padP l)
def digOk (P : List Int) : Prop := (∀ c ∈ (P.take 4).drop 0, dgB c = true) ∧ (∀ c ∈ (P.take 7).drop 5, dgB c = true) ∧ (∀ c ∈ (P.take 10).drop 8, dgB c = true) ∧ (∀ c ∈ (P.take 13).drop 11, dgB c = true) ∧ (∀ c ∈ (P.take 16).drop 14, dgB c = true) ∧ (∀ c ∈ (P.take 19).drop 17, dgB c = true) ∧ (∀ c ∈ (P.take 26).drop 20, dgB c = true)
theorem like_dig {P : List Int} (h : P.length = 26) (hl : likeB P formL = true) : digOk P := by
  obtain ⟨p0, p1, p2, p3, p4, p5, p6, p7, p8, p9, p10, p11, p12, p13, p14, p15, p16, p17, p18, p19, p20, p21, p22, p23, p24, p25, rfl⟩ := list26 h
  obtain ⟨hd, _⟩ := (like26 p0 p1 p2 p3 p4 p5 p6 p7 p8 p9 p10 p11 p12 p13 p14 p15 p16 p17 p18 p19 p20 p21 p22 p23 p24 p25).1 hl
  obtain ⟨h0, h1, h2, h3, h5, h6, h8, h9, h11, h12, h14, h15, h17, h18, h20, h21, h22, h23, h24, h25⟩ := hd
  refine ⟨?_, ?_, ?_, ?_, ?_, ?_, ?_⟩
  · intro c hc
    have hc : c ∈ [p0, p1, p2, p3] := hc
    simp only [List.mem_cons, List.not_mem_nil, or_false] at hc
    rcases hc with rfl | rfl | rfl | rfl <;> assumption
  · intro c hc
    have hc : c ∈ [p5, p6] := hc
    simp only [List.mem_cons, List.not_mem_nil, or_false] at hc
    rcases hc with rfl | rfl <;> assumption
  · intro c hc
    have hc : c ∈ [p8, p9] := hc
    simp only [List.mem_cons, List.not_mem_nil, or_false] at hc
    rcases hc with rfl | rfl <;> assumption
  · intro c hc
    have hc : c ∈ [p11, p12] := hc
    simp only [List.mem_cons, List.not_mem_nil, or_false] at hc
    rcases hc with rfl | rfl <;> assumption
  · intro c hc
    have hc : c ∈ [p14, p15] := hc
    simp only [List.mem_cons, List.not_mem_nil, or_false] at hc
    rcases hc with rfl | rfl <;> assumption
  · intro c hc
    have hc : c ∈ [p17, p18] := hc
    simp only [List.mem_cons, List.not_mem_nil, or_false] at hc
    rcases hc with rfl | rfl <;> assumption
  · intro c hc
    have hc : c ∈ [p20, p21, p22, p23, p24, p25] := hc
    simp only [List.mem_cons, List.not_mem_nil, or_false] at hc
    rcases hc with rfl | rfl | rfl | rfl | rfl | rfl <;> assumption

theorem like_text {P : List Int} (h : P.length = 26) (hd : digOk P) : (textL (fld P 0 4) (fld P 5 7) (fld P 8 10) (fld P 11 13) (fld P 14 16) (fld P 17 19) (fld P 20 26) = P) ↔ likeB P formL = true := by
  obtain ⟨p0, p1, p2, p3, p4, p5, p6, p7, p8, p9, p10, p11, p12, p13, p14, p15, p16, p17, p18, p19, p20, p21, p22, p23, p24, p25, rfl⟩ := list26 h
  obtain ⟨d0, d1, d2, d3, d4, d5, d6⟩ := hd
  have h0 : dgB p0 = true := d0 p0 (by simp)
  have h1 : dgB p1 = true := d0 p1 (by simp)
  have h2 : dgB p2 = true := d0 p2 (by simp)
  have h3 : dgB p3 = true := d0 p3 (by simp)
  have h5 : dgB p5 = true := d1 p5 (by simp)
  have h6 : dgB p6 = true := d1 p6 (by simp)
  have h8 : dgB p8 = true := d2 p8 (by simp)
  have h9 : dgB p9 = true := d2 p9 (by simp)
  have h11 : dgB p11 = true := d3 p11 (by simp)
  have h12 : dgB p12 = true := d3 p12 (by simp)
  have h14 : dgB p14 = true := d4 p14 (by simp)
  have h15 : dgB p15 = true := d4 p15 (by simp)
  have h17 : dgB p17 = true := d5 p17 (by simp)
  have h18 : dgB p18 = true := d5 p18 (by simp)
  have h20 : dgB p20 = true := d6 p20 (by simp)
  have h21 : dgB p21 = true := d6 p21 (by simp)
  have h22 : dgB p22 = true := d6 p22 (by simp)
  have h23 : dgB p23 = true := d6 p23 (by simp)
  have h24 : dgB p24 = true := d6 p24 (by simp)
  have h25 : dgB p25 = true := d6 p25 (by simp)

  have ht := text26 p0 p1 p2 p3 p4 p5 p6 p7 p8 p9 p10 p11 p12 p13 p14 p15 p16 p17 p18 p19 p20 p21 p22 p23 p24 p25 h0 h1 h2 h3 h5 h6 h8 h9 h11 h12 h14 h15 h17 h18 h20 h21 h22 h23 h24 h25
  have e : textL (fld [p0, p1, p2, p3, p4, p5, p6, p7, p8, p9, p10, p11, p12, p13, p14, p15, p16, p17, p18, p19, p20, p21, p22, p23, p24, p25] 0 4) (fld [p0, p1, p2, p3, p4, p5, p6, p7, p8, p9, p10, p11, p12, p13, p14, p15, p16, p17, p18, p19, p20, p21, p22, p23, p24, p25] 5 7) (fld [p0, p1, p2, p3, p4, p5, p6, p7, p8, p9, p10, p11, p12, p13, p14, p15, p16, p17, p18, p19, p20, p21, p22, p23, p24, p25] 8 10) (fld [p0, p1, p2, p3, p4, p5, p6, p7, p8, p9, p10, p11, p12, p13, p14, p15, p16, p17, p18, p19, p20, p21, p22, p23, p24, p25] 11 13) (fld [p0, p1, p2, p3, p4, p5, p6, p7, p8, p9, p10, p11, p12, p13, p14, p15, p16, p17, p18, p19, p20, p21, p22, p23, p24, p25] 14 16) (fld [p0, p1, p2, p3, p4, p5, p6, p7, p8, p9, p10, p11, p12, p13, p14, p15, p16, p17, p18, p19, p20, p21, p22, p23, p24, p25] 17 19) (fld [p0, p1, p2, p3, p4, p5, p6, p7, p8, p9, p10, p11, p12, p13, p14, p15, p16, p17, p18, p19, p20, p21, p22, p23, p24, p25] 20 26) = [p0, p1, p2, p3, 45, p5, p6, 45, p8, p9, 32, p11, p12, 58, p14, p15, 58, p17, p18, 46, p20, p21, p22, p23, p24, p25] := ht
  rw [e, like26]
  simp only [List.cons.injEq, and_true, true_and]
  constructor
  · rintro ⟨e4, e7, e10, e13, e16, e19⟩
    exact ⟨⟨h0, h1, h2, h3, h5, h6, h8, h9, h11, h12, h14, h15, h17, h18, h20, h21, h22, h23, h24, h25⟩, e4.symm, e7.symm, e10.symm, e13.symm, e16.symm, e19.symm⟩
  · rintro ⟨_, e4, e7, e10, e13, e16, e19⟩
    exact ⟨e4.symm, e7.symm, e10.symm, e13.symm, e16.symm, e19.symm⟩
/-- What was written is read. -/
theorem text_read {y m d h i s u : Int} (hr : rightB y m d h i s u = true) : likeB (textL y m d h i s u) formL = true ∧ fld (textL y m d h i s u) 0 4 = y ∧ fld (textL y m d h i s u) 5 7 = m ∧ fld (textL y m d h i s u) 8 10 = d ∧ fld (textL y m d h i s u) 11 13 = h ∧ fld (textL y m d h i s u) 14 16 = i ∧ fld (textL y m d h i s u) 17 19 = s ∧ fld (textL y m d h i s u) 20 26 = u := by
  obtain ⟨⟨y0, y1⟩, ⟨m0, m1⟩, ⟨d0, d1⟩, ⟨h0, h1⟩, ⟨i0, i1⟩, ⟨s0, s1⟩, ⟨u0, u1⟩⟩ := rightB_yes hr
  have d2 := (dimZ_bd y m).2
  have ex : ∀ k n, ∃ l, dI k n = l ∧ l.length = k := fun k n => ⟨_, rfl, dI_len k n⟩
  have n0 := numD_dI 4 y (by omega) (by omega)
  have g0 := dI_dg 4 y (by omega)
  have n1 := numD_dI 2 m (by omega) (by omega)
  have g1 := dI_dg 2 m (by omega)
  have n2 := numD_dI 2 d (by omega) (by omega)
  have g2 := dI_dg 2 d (by omega)
  have n3 := numD_dI 2 h (by omega) (by omega)
  have g3 := dI_dg 2 h (by omega)
  have n4 := numD_dI 2 i (by omega) (by omega)
  have g4 := dI_dg 2 i (by omega)
  have n5 := numD_dI 2 s (by omega) (by omega)
  have g5 := dI_dg 2 s (by omega)
  have n6 := numD_dI 6 u (by omega) (by omega)
  have g6 := dI_dg 6 u (by omega)

  have l0 := dI_len 4 y
  obtain ⟨L0, hL0⟩ : ∃ l, dI 4 y = l := ⟨_, rfl⟩
  rw [hL0] at n0 g0 l0
  have l1 := dI_len 2 m
  obtain ⟨L1, hL1⟩ : ∃ l, dI 2 m = l := ⟨_, rfl⟩
  rw [hL1] at n1 g1 l1
  have l2 := dI_len 2 d
  obtain ⟨L2, hL2⟩ : ∃ l, dI 2 d = l := ⟨_, rfl⟩
  rw [hL2] at n2 g2 l2
  have l3 := dI_len 2 h
  obtain ⟨L3, hL3⟩ : ∃ l, dI 2 h = l := ⟨_, rfl⟩
  rw [hL3] at n3 g3 l3
  have l4 := dI_len 2 i
  obtain ⟨L4, hL4⟩ : ∃ l, dI 2 i = l := ⟨_, rfl⟩
  rw [hL4] at n4 g4 l4
  have l5 := dI_len 2 s
  obtain ⟨L5, hL5⟩ : ∃ l, dI 2 s = l := ⟨_, rfl⟩
  rw [hL5] at n5 g5 l5
  have l6 := dI_len 6 u
  obtain ⟨L6, hL6⟩ : ∃ l, dI 6 u = l := ⟨_, rfl⟩
  rw [hL6] at n6 g6 l6

  rw [textL, hL0, hL1, hL2, hL3, hL4, hL5, hL6]
  clear hL0 hL1 hL2 hL3 hL4 hL5 hL6
  obtain ⟨p0, p1, p2, p3, rfl⟩ : ∃ p0 p1 p2 p3, L0 = [p0, p1, p2, p3] := by
    match L0, l0 with
    | [p0, p1, p2, p3], _ => exact ⟨_, _, _, _, rfl⟩
  obtain ⟨p5, p6, rfl⟩ : ∃ p5 p6, L1 = [p5, p6] := by
    match L1, l1 with
    | [p5, p6], _ => exact ⟨_, _, rfl⟩
  obtain ⟨p8, p9, rfl⟩ : ∃ p8 p9, L2 = [p8, p9] := by
    match L2, l2 with
    | [p8, p9], _ => exact ⟨_, _, rfl⟩
  obtain ⟨p11, p12, rfl⟩ : ∃ p11 p12, L3 = [p11, p12] := by
    match L3, l3 with
    | [p11, p12], _ => exact ⟨_, _, rfl⟩
  obtain ⟨p14, p15, rfl⟩ : ∃ p14 p15, L4 = [p14, p15] := by
    match L4, l4 with
    | [p14, p15], _ => exact ⟨_, _, rfl⟩
  obtain ⟨p17, p18, rfl⟩ : ∃ p17 p18, L5 = [p17, p18] := by
    match L5, l5 with
    | [p17, p18], _ => exact ⟨_, _, rfl⟩
  obtain ⟨p20, p21, p22, p23, p24, p25, rfl⟩ : ∃ p20 p21 p22 p23 p24 p25, L6 = [p20, p21, p22, p23, p24, p25] := by
    match L6, l6 with
    | [p20, p21, p22, p23, p24, p25], _ => exact ⟨_, _, _, _, _, _, rfl⟩

  refine ⟨?_, n0, n1, n2, n3, n4, n5, n6⟩
  have := like26 p0 p1 p2 p3 45 p5 p6 45 p8 p9 32 p11 p12 58 p14 p15 58 p17 p18 46 p20 p21 p22 p23 p24 p25
  simp only [List.cons_append, List.nil_append]
  rw [this]
  exact ⟨⟨g0 p0 (by simp), g0 p1 (by simp), g0 p2 (by simp), g0 p3 (by simp), g1 p5 (by simp), g1 p6 (by simp), g2 p8 (by simp), g2 p9 (by simp), g3 p11 (by simp), g3 p12 (by simp), g4 p14 (by simp), g4 p15 (by simp), g5 p17 (by simp), g5 p18 (by simp), g6 p20 (by simp), g6 p21 (by simp), g6 p22 (by simp), g6 p23 (by simp), g6 p24 (by simp), g6 p25 (by simp)⟩, rfl, rfl, rfl, rfl, rfl, rfl⟩
end Go.Proofs.Ytplmdgimodgekaa
