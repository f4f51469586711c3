/- ObjReads: the walk. -/
import Derived.Test.YtdleajnecohacaaObjR
import Derived.Test.YtdleajnecohacaaObjT
namespace Go.Proofs.Ytdleajnecohacaa
open Go.RowKit Go.Proofs.YtdleajnecohacaaW.PrintWords Go.Proofs.YtdleajnecohacaaW.PrintLast Go.Proofs.YtdleajnecohacaaW.PrintMore
attribute [local go_sem] max2_int min2_int max_two min_two max_three min_three max_four min_four   -- for this text's walks alone
set_option linter.unusedVariables false
set_option linter.unusedSimpArgs false


/-- Does an object begin there. -/
def dG (l : List Int) (a : Int) : Bool := frOk l a && odG l a (getN l a 8) (getN l (a + 8) 8) (alignZ (getN l (a + 8) 8))
def dV (l : List Int) (a : Int) (u1 u2 u3 : Value) : Value := bif dG l a then .tuple #[.agg #[.int .i64 (getN l a 8), u1, u2, u3], .int .i64 (a + alignZ (getN l (a + 8) 8)), .bool true] else .tuple #[.agg #[.int .i64 0, .slice none 0 0, .slice none 0 0, .slice none 0 0], .int .i64 0, .bool false]
theorem alignZ_ge (S : Int) : S ≤ alignZ S := by unfold alignZ; split <;> omega
theorem obj_Decode_all (v : Value) (l : List Int) (a : Int) (w : World) (hr : Rd w .u8 v l) (hb : isB l) (hl : l.length ≤ 100000) (ha : a ≤ 100000) (ha0 : -9223372036854775808 ≤ a) : Calls Try.prog 46 #[v, .int .i64 a] w fun e w' => (∃ u1 u2 u3, e = .returned (dV l a u1 u2 u3) ∧ (dG l a = true → Rd w' .u64 u1 (odW l a (getN l a 8)) ∧ Rd w' .u8 u2 (odR l a (getN l a 8) (getN l (a + 8) 8)) ∧ Rd w' .u64 u3 (odI l a (getN l a 8) (getN l (a + 8) 8)))) ∧ Below w.heap.size w w' := by
  cases hfo : frOk l a
  · refine (obj_Decode_no v l a w hr hb hl ha ha0 hfo).mono ?_
    rintro e w1 ⟨rfl, hb1⟩
    exact ⟨⟨.slice none 0 0, .slice none 0 0, .slice none 0 0, by rw [dV, dG, hfo]; rfl, fun h => by rw [dG, hfo] at h; cases h⟩, hb1⟩
  · obtain ⟨a0, a1, a8, k0, k1, s1, s0, s2⟩ := of_decide_eq_true hfo
    have hfv : frV l a = .tuple #[.int .i64 (getN l a 8), .int .i64 (getN l (a + 8) 8), .bool true] := by rw [frV, hfo]; rfl
    have hdg : dG l a = odG l a (getN l a 8) (getN l (a + 8) 8) (alignZ (getN l (a + 8) 8)) := by rw [dG, hfo]; rfl
    have hdv : ∀ u1 u2 u3, dV l a u1 u2 u3 = bif odG l a (getN l a 8) (getN l (a + 8) 8) (alignZ (getN l (a + 8) 8)) then .tuple #[.agg #[.int .i64 (getN l a 8), u1, u2, u3], .int .i64 (a + alignZ (getN l (a + 8) 8)), .bool true] else .tuple #[.agg #[.int .i64 0, .slice none 0 0, .slice none 0 0, .slice none 0 0], .int .i64 0, .bool false] := fun u1 u2 u3 => by rw [dV, hdg]
    clear hfo
    obtain ⟨K, hK⟩ : ∃ x, getN l a 8 = x := ⟨_, rfl⟩
    obtain ⟨S, hS⟩ : ∃ x, getN l (a + 8) 8 = x := ⟨_, rfl⟩
    simp only [hK, hS] at *
    have hal := alignZ_ge S
    have hk : K = 1 ∨ K = 2 ∨ K = 3 ∨ K = 4 := by omega
    have w1 : wN 1 = 5 := rfl
    have w2 : wN 2 = 3 := rfl
    have w3 : wN 3 = 5 := rfl
    have w4 : wN 4 = 1 := rfl
    rcases hk with rfl | rfl | rfl | rfl
    · refine (obj_Decode_1 v l a w hr hb hl ha ha0 S (alignZ S) hfv rfl a0 (by omega) hal (by omega)).mono ?_
      rintro e w1 ⟨⟨u1, u2, u3, rfl, r1, r2, r3⟩, hb1⟩
      exact ⟨⟨u1, u2, u3, by rw [hdv], fun _ => ⟨r1, r2, r3⟩⟩, hb1⟩
    · refine (obj_Decode_2 v l a w hr hb hl ha ha0 S (alignZ S) hfv rfl a0 (by omega) hal (by omega)).mono ?_
      rintro e w1 ⟨⟨u1, u2, u3, rfl, r1, r2, r3⟩, hb1⟩
      exact ⟨⟨u1, u2, u3, by rw [hdv], fun _ => ⟨r1, r2, r3⟩⟩, hb1⟩
    · refine (obj_Decode_3 v l a w hr hb hl ha ha0 S (alignZ S) hfv rfl a0 (by omega) hal (by omega)).mono ?_
      rintro e w1 ⟨⟨u1, u2, u3, rfl, r1, r2, r3⟩, hb1⟩
      exact ⟨⟨u1, u2, u3, by rw [hdv], fun _ => ⟨r1, r2, r3⟩⟩, hb1⟩
    · refine (obj_Decode_4 v l a w hr hb hl ha ha0 S (alignZ S) hfv rfl a0 (by omega) hal (by omega)).mono ?_
      rintro e w1 ⟨⟨u1, u2, u3, rfl, r1, r2, r3⟩, hb1⟩
      exact ⟨⟨u1, u2, u3, by rw [hdv], fun _ => ⟨r1, r2, r3⟩⟩, hb1⟩

theorem ref_oDecode_all (v : Value) (l : List Int) (a : Int) (w : World) (hr : Rd w .u8 v l) (hb : isB l) (hl : l.length ≤ 100000) (ha : a ≤ 100000) (ha0 : -9223372036854775808 ≤ a) : Calls Try.prog 47 #[v, .int .i64 a] w fun e w' => (∃ u1 u2 u3, e = .returned (dV l a u1 u2 u3) ∧ (dG l a = true → Rd w' .u64 u1 (odW l a (getN l a 8)) ∧ Rd w' .u8 u2 (odR l a (getN l a 8) (getN l (a + 8) 8)) ∧ Rd w' .u64 u3 (odI l a (getN l a 8) (getN l (a + 8) 8)))) ∧ Below w.heap.size w w' := by
  cases hfo : rdF l a
  · have hdg : dG l a = false := by
      have h := of_decide_eq_false hfo
      have hfr : frOk l a = false := decide_eq_false (fun ⟨a0, a1, a8, k0, k1, s1, s0, _⟩ => h ⟨a0, a1, a8, k0, k1, s1, s0⟩)
      rw [dG, hfr]; rfl
    refine (ref_oDecode_no v l a w hr hb hl ha ha0 hfo).mono ?_
    rintro e w1 ⟨rfl, hb1⟩
    exact ⟨⟨.slice none 0 0, .slice none 0 0, .slice none 0 0, by rw [dV, hdg]; rfl, fun h => by rw [hdg] at h; cases h⟩, hb1⟩
  · obtain ⟨a0, a1, a8, k0, k1, s1, s0⟩ := of_decide_eq_true hfo
    obtain ⟨m1, m2⟩ := rdT_main hb hl a0 (by omega) rfl rfl k0 k1 s0 s1
    have hdg : dG l a = rdT l a (getN l a 8) (getN l (a + 8) 8) := by
      rw [m1, dG]
      congr 1
      exact decide_eq_decide.2 ⟨fun h => h.2.2.2.2.2.2.2, fun h => ⟨a0, a1, a8, k0, k1, s1, s0, h⟩⟩
    refine (ref_oDecode_yes v l a w hr hb hl ha a0 a1 a8 _ _ rfl rfl k0 k1 s1 s0).mono ?_
    rintro e w1 ⟨⟨u1, u2, u3, rfl, r1, r2, r3⟩, hb1⟩
    refine ⟨⟨u1, u2, u3, ?_, fun _ => ⟨r1, r2, r3⟩⟩, hb1⟩
    rw [dV, hdg]
    cases ht : rdT l a (getN l a 8) (getN l (a + 8) 8)
    · rfl
    · rw [cond_true, cond_true, (m2 ht).2]
theorem ref_oSame_calls' (k k' : Int) (ws raw it ws' raw' it' : List Int) (n1 n2 n3 m1 m2 m3 : Nat) (e1 : ws.length = n1) (e2 : raw.length = n2) (e3 : it.length = n3) (e4 : ws'.length = m1) (e5 : raw'.length = m2) (e6 : it'.length = m3) (A1 A2 A3 B1 B2 B3 : Option Addr) (c1 c2 c3 d1 d2 d3 : Nat) (w : World) (h1 : Rd w .u64 (.slice A1 n1 c1) ws) (h2 : Rd w .u8 (.slice A2 n2 c2) raw) (h3 : Rd w .u64 (.slice A3 n3 c3) it)
    (h4 : Rd w .u64 (.slice B1 m1 d1) ws') (h5 : Rd w .u8 (.slice B2 m2 d2) raw') (h6 : Rd w .u64 (.slice B3 m3 d3) it') (w2 : isB raw) (w5 : isB raw') :
    Calls Try.prog 45 #[.agg #[.int .i64 k, .slice A1 n1 c1, .slice A2 n2 c2, .slice A3 n3 c3], .agg #[.int .i64 k', .slice B1 m1 d1, .slice B2 m2 d2, .slice B3 m3 d3]] w fun e w' => e = .returned (.bool (sameO k k' ws raw it ws' raw' it')) ∧ Below w.heap.size w w' := by
  subst e1; subst e2; subst e3; subst e4; subst e5; subst e6
  exact ref_oSame_calls k k' ws raw it ws' raw' it' A1 A2 A3 B1 B2 B3 c1 c2 c3 d1 d2 d3 w h1 h2 h3 h4 h5 h6 w2 w5
/-- What an object that is read is like. -/
theorem dG_facts {l : List Int} (hb : isB l) (hl : l.length ≤ 100000) {a : Int} (h : dG l a = true) {K S al : Int} {ws raw it : List Int} (hK : getN l a 8 = K) (hS : getN l (a + 8) 8 = S) (hal : alignZ S = al) (h1 : odW l a K = ws) (h2 : odR l a K S = raw) (h3 : odI l a K S = it) :
    0 ≤ a ∧ 0 ≤ al ∧ a + al ≤ l.length ∧ oR K ws.length raw.length it.length = true ∧ isW ws ∧ isB raw ∧ isW it ∧ objZ K ws raw it = (l.take (a + al).toNat).drop a.toNat ∧ 1 ≤ K ∧ K ≤ 4 := by
  rw [dG, Bool.and_eq_true] at h
  obtain ⟨hf, hg⟩ := h
  obtain ⟨a0, a1, a8, k0, k1, s1, s0, s2⟩ := of_decide_eq_true hf
  have w0 := wN_bd (getN l a 8)
  obtain ⟨m1, m2⟩ := rdT_main hb hl a0 (by omega) rfl rfl k0 k1 s0 s1
  rw [hg, decide_eq_true s2] at m1
  obtain ⟨m3, m4⟩ := m2 m1
  rw [odG, Bool.and_eq_true, Bool.and_eq_true] at hg
  have hge := alignZ_ge (getN l (a + 8) 8)
  subst hK; subst hS; subst hal; subst h1; subst h2; subst h3
  refine ⟨a0, by omega, by omega, hg.1.1, wordsAt_isW _ hb _ _, ?_, ?_, m3, k0, k1⟩
  · rw [odR]; split <;> first | exact rawAt_isB hb _ _ | exact oB_nil
  · rw [odI]; split <;> first | exact wordsAt_isW _ hb _ _ | exact (fun x hx => by simp at hx)

set_option maxHeartbeats 8000000 in
set_option maxRecDepth 100000 in
theorem ObjReads_yes (v : Value) (l : List Int) (a : Int) (w : World) (hr : Rd w .u8 v l) (hb : isB l) (hl : l.length ≤ 2000) (ha : a ≤ 4000) (ha0 : -9223372036854775808 ≤ a) (hg : dG l a = true) :
    Calls Try.prog 8 #[v, .int .i64 a] w fun e w' => e = .returned (.bool true) ∧ Below w.heap.size w w' := by
  have HV := Aside0.mk hr
  have HIB := Aside0.mk hb
  have HG := Aside0.mk hg
  obtain ⟨kd, hK⟩ : ∃ x, getN l a 8 = x := ⟨_, rfl⟩
  obtain ⟨S, hS⟩ : ∃ x, getN l (a + 8) 8 = x := ⟨_, rfl⟩
  obtain ⟨al, hal⟩ : ∃ x, alignZ S = x := ⟨_, rfl⟩
  obtain ⟨ws, h1⟩ : ∃ x, odW l a kd = x := ⟨_, rfl⟩
  obtain ⟨raw, h2⟩ : ∃ x, odR l a kd S = x := ⟨_, rfl⟩
  obtain ⟨it, h3⟩ : ∃ x, odI l a kd S = x := ⟨_, rfl⟩
  obtain ⟨a0, al0, al1, hor, hW, hR, hI, hZ, k0, k1⟩ := dG_facts hb (by omega) hg hK hS hal h1 h2 h3
  obtain ⟨n1, e1⟩ : ∃ x, ws.length = x := ⟨_, rfl⟩
  obtain ⟨n2, e2⟩ : ∃ x, raw.length = x := ⟨_, rfl⟩
  obtain ⟨n3, e3⟩ : ∃ x, it.length = x := ⟨_, rfl⟩
  rw [e1, e2, e3] at hor
  have E1 := Aside0.mk e1
  have E2 := Aside0.mk e2
  have E3 := Aside0.mk e3
  have HOR := Aside0.mk hor
  have HW := Aside0.mk hW
  have HRB := Aside0.mk hR
  have HI := Aside0.mk hI
  have HZ := Aside0.mk hZ
  have HP1 := Aside0.mk (show ∀ (e : Ending) (w0 w1 : World), (∃ u1 u2 u3, e = .returned (dV l a u1 u2 u3) ∧ (dG l a = true → Rd w1 .u64 u1 (odW l a (getN l a 8)) ∧ Rd w1 .u8 u2 (odR l a (getN l a 8) (getN l (a + 8) 8)) ∧ Rd w1 .u64 u3 (odI l a (getN l a 8) (getN l (a + 8) 8)))) → ∃ A1 A2 A3 c1 c2 c3, e = .returned (.tuple #[.agg #[.int .i64 kd, .slice A1 n1 c1, .slice A2 n2 c2, .slice A3 n3 c3], .int .i64 (a + al), .bool true]) ∧ Rd w1 .u64 (.slice A1 n1 c1) ws ∧ Rd w1 .u8 (.slice A2 n2 c2) raw ∧ Rd w1 .u64 (.slice A3 n3 c3) it by
    rintro e w0 w1 ⟨u1, u2, u3, rfl, h⟩
    obtain ⟨r1, r2, r3⟩ := h hg
    rw [hK] at r1 r2 r3
    rw [hS] at r2 r3
    rw [h1] at r1
    rw [h2] at r2
    rw [h3] at r3
    obtain ⟨A1, c1, rfl, _⟩ := r1.mid
    obtain ⟨A2, c2, rfl, _⟩ := r2.mid
    obtain ⟨A3, c3, rfl, _⟩ := r3.mid
    rw [e1] at r1
    rw [e2] at r2
    rw [e3] at r3
    refine ⟨A1, A2, A3, c1, c2, c3, ?_, r1, r2, r3⟩
    rw [dV, hg, hK, hS, hal, e1, e2, e3]; rfl)
  have hn1 : n1 ≤ 100000 := by have := oR_of hor; omega
  have hn2 : n2 ≤ 100000 := by have := oR_of hor; omega
  have hn3 : n3 ≤ 100000 := by have := oR_of hor; omega
  clear e1 e2 e3 hor hW hR hI hZ hK hS hal h1 h2 h3
  obtain ⟨A, c, rfl, hc, hm, hr'⟩ := hr.mid
  clear hr' hr hb hc hm hg
  go_enter Try.func8, Try.ntmps8
  go_wp2_with fail
  refine (obj_Decode_all _ l a _ HV.out HIB.out (by omega) (by omega) ha0).mono ?_
  rintro e w1 ⟨hp, hb1⟩
  obtain ⟨A1, A2, A3, c1, c2, c3, rfl, r1, r2, r3⟩ := HP1.out e w w1 hp
  have HB1 := Aside0.mk (below_alloc hb1 (.cells #[.int .i64 kd, .slice A1 n1 c1, .slice A2 n2 c2, .slice A3 n3 c3] 53))
  have HX1 := Aside0.mk (blk_new w1 (.cells #[.int .i64 kd, .slice A1 n1 c1, .slice A2 n2 c2, .slice A3 n3 c3] 53))
  have R1 := Aside0.mk (r1.below (below_alloc (Below.refl _ _) (.cells #[.int .i64 kd, .slice A1 n1 c1, .slice A2 n2 c2, .slice A3 n3 c3] 53)))
  have R2 := Aside0.mk (r2.below (below_alloc (Below.refl _ _) (.cells #[.int .i64 kd, .slice A1 n1 c1, .slice A2 n2 c2, .slice A3 n3 c3] 53)))
  have R3 := Aside0.mk (r3.below (below_alloc (Below.refl _ _) (.cells #[.int .i64 kd, .slice A1 n1 c1, .slice A2 n2 c2, .slice A3 n3 c3] 53)))
  clear hp hb1 r1 r2 r3
  go_wp2_with fail
  refine (ref_oDecode_all _ l a _ (HV.out.below HB1.out) HIB.out (by omega) (by omega) ha0).mono ?_
  rintro e w2 ⟨hp, hb2⟩
  obtain ⟨B1, B2, B3, d1, d2, d3, rfl, s1, s2, s3⟩ := HP1.out e w w2 hp
  have HB2 := Aside0.mk (below_alloc (below_step HB1.out hb2) (.cells #[.int .i64 kd, .slice B1 n1 d1, .slice B2 n2 d2, .slice B3 n3 d3] 49))
  have HX2 := Aside0.mk (blk_alloc (blk_below HX1.out hb2) (.cells #[.int .i64 kd, .slice B1 n1 d1, .slice B2 n2 d2, .slice B3 n3 d3] 49))
  have HY2 := Aside0.mk (blk_new w2 (.cells #[.int .i64 kd, .slice B1 n1 d1, .slice B2 n2 d2, .slice B3 n3 d3] 49))
  have P1 := Aside0.mk ((R1.out.below hb2).below (below_alloc (Below.refl _ _) (.cells #[.int .i64 kd, .slice B1 n1 d1, .slice B2 n2 d2, .slice B3 n3 d3] 49)))
  have Q1 := Aside0.mk (s1.below (below_alloc (Below.refl _ _) (.cells #[.int .i64 kd, .slice B1 n1 d1, .slice B2 n2 d2, .slice B3 n3 d3] 49)))
  have P2 := Aside0.mk ((R2.out.below hb2).below (below_alloc (Below.refl _ _) (.cells #[.int .i64 kd, .slice B1 n1 d1, .slice B2 n2 d2, .slice B3 n3 d3] 49)))
  have Q2 := Aside0.mk (s2.below (below_alloc (Below.refl _ _) (.cells #[.int .i64 kd, .slice B1 n1 d1, .slice B2 n2 d2, .slice B3 n3 d3] 49)))
  have P3 := Aside0.mk ((R3.out.below hb2).below (below_alloc (Below.refl _ _) (.cells #[.int .i64 kd, .slice B1 n1 d1, .slice B2 n2 d2, .slice B3 n3 d3] 49)))
  have Q3 := Aside0.mk (s3.below (below_alloc (Below.refl _ _) (.cells #[.int .i64 kd, .slice B1 n1 d1, .slice B2 n2 d2, .slice B3 n3 d3] 49)))
  clear hp hb2 s1 s2 s3
  obtain ⟨g1, hg1⟩ : ∃ g, w1.heap.size = g := ⟨_, rfl⟩
  obtain ⟨g2, hg2⟩ : ∃ g, w2.heap.size = g := ⟨_, rfl⟩
  rw [hg1] at HX2
  rw [hg2] at HY2
  have HG1 := Aside0.mk hg1
  have HG2 := Aside0.mk hg2
  obtain ⟨w3, hw3⟩ : ∃ w3, w2.alloc (.cells #[.int .i64 kd, .slice B1 n1 d1, .slice B2 n2 d2, .slice B3 n3 d3] 49) = w3 := ⟨_, rfl⟩
  rw [hw3] at HB2 HX2 HY2 P1 P2 P3 Q1 Q2 Q3
  have HW3 := Aside0.mk hw3
  clear hg1 hg2 hw3
  go_wp2_with fail
  rw [HW3.out, HG1.out, HG2.out]
  have z0 : (w3).cell? ⟨g1, 0, none⟩ = some (.int .i64 kd) := blk_cell HX2.out 0
  have z1 : (w3).cell? ⟨g1, 1, none⟩ = some (.slice A1 n1 c1) := blk_cell HX2.out 1
  have z2 : (w3).cell? ⟨g1, 2, none⟩ = some (.slice A2 n2 c2) := blk_cell HX2.out 2
  have z3 : (w3).cell? ⟨g1, 3, none⟩ = some (.slice A3 n3 c3) := blk_cell HX2.out 3
  have y0 : (w3).cell? ⟨g2, 0, none⟩ = some (.int .i64 kd) := blk_cell HY2.out 0
  have y1 : (w3).cell? ⟨g2, 1, none⟩ = some (.slice B1 n1 d1) := blk_cell HY2.out 1
  have y2 : (w3).cell? ⟨g2, 2, none⟩ = some (.slice B2 n2 d2) := blk_cell HY2.out 2
  have y3 : (w3).cell? ⟨g2, 3, none⟩ = some (.slice B3 n3 d3) := blk_cell HY2.out 3
  have ee : (a + al != a + al) = false := by simp
  refine start_ (n := 15) (S := fun w' => w'.cell? ⟨g1, 0, none⟩ = some (.int .i64 kd) ∧ w'.cell? ⟨g1, 1, none⟩ = some (.slice A1 n1 c1) ∧ w'.cell? ⟨g1, 2, none⟩ = some (.slice A2 n2 c2) ∧ w'.cell? ⟨g1, 3, none⟩ = some (.slice A3 n3 c3) ∧ w'.cell? ⟨g2, 0, none⟩ = some (.int .i64 kd) ∧ w'.cell? ⟨g2, 1, none⟩ = some (.slice B1 n1 d1) ∧ w'.cell? ⟨g2, 2, none⟩ = some (.slice B2 n2 d2) ∧ w'.cell? ⟨g2, 3, none⟩ = some (.slice B3 n3 d3)) (ds := []) #[false, false, false, false, false, false, false, false, false, false, false, false, false, false, false] (by kernel_rfl) rfl rfl ⟨z0, z1, z2, z3, y0, y1, y2, y3⟩ (fun hHeld => ?_)
  refine take_ (i := 0) (N := some 33) (v := ?_) (a' := ?_) #[true, false, false, false, false, false, false, false, false, false, false, false, false, false, false] rfl rfl (by kernel_rfl) (fun _ _ _ h => h) (Or.inl ⟨by rfl, ?_⟩) hHeld ?_ ?_
  rotate_left
  · rintro w' ⟨s0, s1, s2, s3, s4, s5, s6, s7⟩
    go_simp
    with_reducible rfl
  rotate_left
  · simp only [Act.put, List.setIfInBounds_toArray, List.set_cons_zero, List.set_cons_succ, i64_w, i32_w]
    rfl
  refine take_ (i := 2) (N := some 35) (v := ?_) (a' := ?_) #[true, false, true, false, false, false, false, false, false, false, false, false, false, false, false] rfl rfl (by kernel_rfl) (fun _ _ _ h => h) (Or.inl ⟨by rfl, ?_⟩) hHeld ?_ ?_
  rotate_left
  · rintro w' ⟨s0, s1, s2, s3, s4, s5, s6, s7⟩
    go_simp
    with_reducible rfl
  rotate_left
  · simp only [Act.put, List.setIfInBounds_toArray, List.set_cons_zero, List.set_cons_succ, i64_w, i32_w]
    rfl
  refine one_ (i := 1) (N := some 34) #[true, true, true, false, false, false, false, false, false, false, false, false, false, false, false] rfl rfl (by kernel_rfl) (by decide) (fun K hK => ?_)
  refine goes_ Try.func48 (by kernel_rfl) rfl #[.agg #[.int .i64 kd, .slice A1 n1 c1, .slice A2 n2 c2, .slice A3 n3 c3]] (by rfl) rfl rfl (by (try simp only [List.map_toArray, List.map_cons, List.map_nil]); first | done | rfl) ?_
  with_reducible refine (obj_of_calls kd A1 A2 A3 n1 n2 n3 c1 c2 c3 _).mono ?_
  rintro e w4 ⟨rfl, hb4⟩
  refine ⟨_, rfl, ?_⟩
  refine hK.out _ _ ⟨(pw_cell_below hb4 hHeld.1), (pw_cell_below hb4 hHeld.2.1), (pw_cell_below hb4 hHeld.2.2.1), (pw_cell_below hb4 hHeld.2.2.2.1), (pw_cell_below hb4 hHeld.2.2.2.2.1), (pw_cell_below hb4 hHeld.2.2.2.2.2.1), (pw_cell_below hb4 hHeld.2.2.2.2.2.2.1), (pw_cell_below hb4 hHeld.2.2.2.2.2.2.2)⟩ (fun hHeld => ?_)
  clear hK K
  refine norm_ (a' := ?_) ?_ ?_
  rotate_left
  · show Act.put _ (some 34) _ = _
    simp only [Act.put, List.setIfInBounds_toArray, List.set_cons_zero, List.set_cons_succ, i64_w, i32_w]
    rfl
  refine one_ (i := 3) (N := some 36) #[true, true, true, true, false, false, false, false, false, false, false, false, false, false, false] rfl rfl (by kernel_rfl) (by decide) (fun K hK => ?_)
  refine goes_ Try.func45 (by kernel_rfl) rfl #[.agg #[.int .i64 kd, .slice A1 n1 c1, .slice A2 n2 c2, .slice A3 n3 c3], .agg #[.int .i64 kd, .slice B1 n1 d1, .slice B2 n2 d2, .slice B3 n3 d3]] (by rfl) rfl rfl (by (try simp only [List.map_toArray, List.map_cons, List.map_nil]); first | done | rfl) ?_
  with_reducible refine (ref_oSame_calls' kd kd ws raw it ws raw it n1 n2 n3 n1 n2 n3 E1.out E2.out E3.out E1.out E2.out E3.out A1 A2 A3 B1 B2 B3 c1 c2 c3 d1 d2 d3 _ (P1.out.below (below_step (below_drew (Below.refl _ w3)) hb4)) (P2.out.below (below_step (below_drew (Below.refl _ w3)) hb4)) (P3.out.below (below_step (below_drew (Below.refl _ w3)) hb4)) (Q1.out.below (below_step (below_drew (Below.refl _ w3)) hb4)) (Q2.out.below (below_step (below_drew (Below.refl _ w3)) hb4)) (Q3.out.below (below_step (below_drew (Below.refl _ w3)) hb4)) HRB.out HRB.out).mono ?_
  rintro e w5 ⟨rfl, hb5⟩
  refine ⟨_, rfl, ?_⟩
  rw [sameO_yes _ rfl rfl rfl]
  refine hK.out _ _ ⟨(pw_cell_below hb5 hHeld.1), (pw_cell_below hb5 hHeld.2.1), (pw_cell_below hb5 hHeld.2.2.1), (pw_cell_below hb5 hHeld.2.2.2.1), (pw_cell_below hb5 hHeld.2.2.2.2.1), (pw_cell_below hb5 hHeld.2.2.2.2.2.1), (pw_cell_below hb5 hHeld.2.2.2.2.2.2.1), (pw_cell_below hb5 hHeld.2.2.2.2.2.2.2)⟩ (fun hHeld => ?_)
  clear hK K
  refine norm_ (a' := ?_) ?_ ?_
  rotate_left
  · show Act.put _ (some 36) _ = _
    simp only [Act.put, List.setIfInBounds_toArray, List.set_cons_zero, List.set_cons_succ, i64_w, i32_w]
    rfl
  refine pure_ (i := 4) (N := some 37) (v := ?_) (a' := ?_) #[true, true, true, true, true, false, false, false, false, false, false, false, false, false, false] rfl rfl (by kernel_rfl) (fun _ _ _ h => h) (Or.inl ⟨by rfl, ?_⟩) ?_ ?_
  rotate_left
  · intro w'
    go_simp
    with_reducible rfl
  rotate_left
  · simp only [Act.put, List.setIfInBounds_toArray, List.set_cons_zero, List.set_cons_succ, i64_w, i32_w]
    rfl
  refine pure_ (i := 5) (N := some 38) (v := ?_) (a' := ?_) #[true, true, true, true, true, true, false, false, false, false, false, false, false, false, false] rfl rfl (by kernel_rfl) (fun _ _ _ h => h) (Or.inl ⟨by rfl, ?_⟩) ?_ ?_
  rotate_left
  · intro w'
    go_simp
    with_reducible rfl
  rotate_left
  · simp only [Act.put, List.setIfInBounds_toArray, List.set_cons_zero, List.set_cons_succ, i64_w, i32_w]
    rfl
  refine pure_ (i := 6) (N := some 39) (v := ?_) (a' := ?_) #[true, true, true, true, true, true, true, false, false, false, false, false, false, false, false] rfl rfl (by kernel_rfl) (fun _ _ _ h => h) (Or.inl ⟨by rfl, ?_⟩) ?_ ?_
  rotate_left
  · intro w'
    go_simp
    with_reducible rfl
  rotate_left
  · simp only [Act.put, List.setIfInBounds_toArray, List.set_cons_zero, List.set_cons_succ, i64_w, i32_w]
    rfl
  refine pure_ (i := 7) (N := some 40) (v := ?_) (a' := ?_) #[true, true, true, true, true, true, true, true, false, false, false, false, false, false, false] rfl rfl (by kernel_rfl) (fun _ _ _ h => h) (Or.inl ⟨by rfl, ?_⟩) ?_ ?_
  rotate_left
  · intro w'
    go_simp
    with_reducible rfl
  rotate_left
  · simp only [Act.put, List.setIfInBounds_toArray, List.set_cons_zero, List.set_cons_succ, i64_w, i32_w]
    rfl
  refine pure_ (i := 8) (N := some 41) (v := ?_) (a' := ?_) #[true, true, true, true, true, true, true, true, true, false, false, false, false, false, false] rfl rfl (by kernel_rfl) (fun _ _ _ h => h) (Or.inl ⟨by rfl, ?_⟩) ?_ ?_
  rotate_left
  · intro w'
    go_simp
    with_reducible rfl
  rotate_left
  · simp only [Act.put, List.setIfInBounds_toArray, List.set_cons_zero, List.set_cons_succ, i64_w, i32_w]
    rfl
  refine pure_ (i := 9) (N := some 42) (v := ?_) (a' := ?_) #[true, true, true, true, true, true, true, true, true, true, false, false, false, false, false] rfl rfl (by kernel_rfl) (fun _ _ _ h => h) (Or.inl ⟨by rfl, ?_⟩) ?_ ?_
  rotate_left
  · intro w'
    go_simp
    with_reducible rfl
  rotate_left
  · simp only [Act.put, List.setIfInBounds_toArray, List.set_cons_zero, List.set_cons_succ, i64_w, i32_w]
    rfl
  refine pure_ (i := 10) (N := some 43) (v := ?_) (a' := ?_) #[true, true, true, true, true, true, true, true, true, true, true, false, false, false, false] rfl rfl (by kernel_rfl) (fun _ _ _ h => h) (Or.inl ⟨by rfl, ?_⟩) ?_ ?_
  rotate_left
  · intro w'
    go_simp
    with_reducible rfl
  rotate_left
  · simp only [Act.put, List.setIfInBounds_toArray, List.set_cons_zero, List.set_cons_succ, i64_w, i32_w]
    rfl
  refine pure_ (i := 11) (N := some 44) (v := ?_) (a' := ?_) #[true, true, true, true, true, true, true, true, true, true, true, true, false, false, false] rfl rfl (by kernel_rfl) (fun _ _ _ h => h) (Or.inl ⟨by rfl, ?_⟩) ?_ ?_
  rotate_left
  · intro w'
    go_simp
    with_reducible rfl
  rotate_left
  · simp only [Act.put, List.setIfInBounds_toArray, List.set_cons_zero, List.set_cons_succ, i64_w, i32_w]
    rfl
  refine pure_ (i := 12) (N := some 45) (v := ?_) (a' := ?_) #[true, true, true, true, true, true, true, true, true, true, true, true, true, false, false] rfl rfl (by kernel_rfl) (fun _ _ _ h => h) (Or.inl ⟨by rfl, ?_⟩) ?_ ?_
  rotate_left
  · intro w'
    go_simp
    with_reducible rfl
  rotate_left
  · simp only [Act.put, List.setIfInBounds_toArray, List.set_cons_zero, List.set_cons_succ, i64_w, i32_w]
    rfl
  refine pure_ (i := 13) (N := some 46) (v := ?_) (a' := ?_) #[true, true, true, true, true, true, true, true, true, true, true, true, true, true, false] rfl rfl (by kernel_rfl) (fun _ _ _ h => h) (Or.inl ⟨by rfl, ?_⟩) ?_ ?_
  rotate_left
  · intro w'
    go_simp
    with_reducible rfl
  rotate_left
  · simp only [Act.put, List.setIfInBounds_toArray, List.set_cons_zero, List.set_cons_succ, i64_w, i32_w]
    rfl
  refine pure_ (i := 14) (N := some 47) (v := ?_) (a' := ?_) #[true, true, true, true, true, true, true, true, true, true, true, true, true, true, true] rfl rfl (by kernel_rfl) (fun _ _ _ h => h) (Or.inl ⟨by rfl, ?_⟩) ?_ ?_
  rotate_left
  · intro w'
    go_simp
    with_reducible rfl
  rotate_left
  · simp only [Act.put, List.setIfInBounds_toArray, List.set_cons_zero, List.set_cons_succ, i64_w, i32_w]
    rfl
  refine done_ (by kernel_rfl) ?_
  have hbb := below_step (below_step (below_drew (Below.refl _ w3)) hb4) hb5
  have HB5 := Aside0.mk (below_step HB2.out hbb)
  have HX5 := Aside0.mk (blk_below HX2.out hbb)
  have R1 := Aside0.mk (P1.out.below hbb)
  have R2 := Aside0.mk (P2.out.below hbb)
  have R3 := Aside0.mk (P3.out.below hbb)
  clear hbb hb4 hb5 z0 z1 z2 z3 y0 y1 y2 y3
  obtain ⟨i5, hi5, hz5⟩ := infoU8'
  obtain ⟨v', hcut, hrd⟩ := Rd.cut 30 5 Try.underlying30 hi5 hz5 HV.out a (a + al) a0 (by omega) (by omega)
  have HRD := Aside0.mk (show ∀ w1 : World, Rd w1 .u8 (.slice A l.length c) l → Rd w1 .u8 v' (objZ kd ws raw it) from fun w1 h => by rw [HZ.out]; exact hrd w1 h)
  clear hrd hi5 hz5
  go_wp2_with fail
  have z0 : (w5).cell? ⟨g1, 0, none⟩ = some (.int .i64 kd) := blk_cell HX5.out 0
  have z1 : (w5).cell? ⟨g1, 1, none⟩ = some (.slice A1 n1 c1) := blk_cell HX5.out 1
  have z2 : (w5).cell? ⟨g1, 2, none⟩ = some (.slice A2 n2 c2) := blk_cell HX5.out 2
  have z3 : (w5).cell? ⟨g1, 3, none⟩ = some (.slice A3 n3 c3) := blk_cell HX5.out 3
  refine start_ (n := 15) (S := fun w' => w'.cell? ⟨g1, 0, none⟩ = some (.int .i64 kd) ∧ w'.cell? ⟨g1, 1, none⟩ = some (.slice A1 n1 c1) ∧ w'.cell? ⟨g1, 2, none⟩ = some (.slice A2 n2 c2) ∧ w'.cell? ⟨g1, 3, none⟩ = some (.slice A3 n3 c3)) (ds := []) #[false, false, false, false, false, false, false, false, false, false, false, false, false, false, false] (by kernel_rfl) rfl rfl ⟨z0, z1, z2, z3⟩ (fun hHeld => ?_)
  refine pure_ (i := 0) (N := some 48) (v := ?_) (a' := ?_) #[true, false, false, false, false, false, false, false, false, false, false, false, false, false, false] rfl rfl (by kernel_rfl) (fun _ _ _ h => h) (Or.inl ⟨by rfl, ?_⟩) ?_ ?_
  rotate_left
  · intro w'
    go_simp
    with_reducible rfl
  rotate_left
  · simp only [Act.put, List.setIfInBounds_toArray, List.set_cons_zero, List.set_cons_succ, i64_w, i32_w]
    rfl
  refine pure_ (i := 1) (N := some 49) (v := ?_) (a' := ?_) #[true, true, false, false, false, false, false, false, false, false, false, false, false, false, false] rfl rfl (by kernel_rfl) (fun _ _ _ h => h) (Or.inl ⟨by rfl, ?_⟩) ?_ ?_
  rotate_left
  · intro w'
    go_simp
    with_reducible rfl
  rotate_left
  · simp only [Act.put, List.setIfInBounds_toArray, List.set_cons_zero, List.set_cons_succ, i64_w, i32_w]
    rfl
  refine pure_ (i := 2) (N := some 50) (v := ?_) (a' := ?_) #[true, true, true, false, false, false, false, false, false, false, false, false, false, false, false] rfl rfl (by kernel_rfl) (fun _ _ _ h => h) (Or.inl ⟨by rfl, ?_⟩) ?_ ?_
  rotate_left
  · intro w'
    go_simp
    with_reducible rfl
  rotate_left
  · simp only [Act.put, List.setIfInBounds_toArray, List.set_cons_zero, List.set_cons_succ, i64_w, i32_w]
    rfl
  refine pure_ (i := 5) (N := some 53) (v := ?_) (a' := ?_) #[true, true, true, false, false, true, false, false, false, false, false, false, false, false, false] rfl rfl (by kernel_rfl) (fun _ _ _ h => h) (Or.inl ⟨by rfl, ?_⟩) ?_ ?_
  rotate_left
  · intro w'
    go_simp
    with_reducible rfl
  rotate_left
  · simp only [Act.put, List.setIfInBounds_toArray, List.set_cons_zero, List.set_cons_succ, i64_w, i32_w]
    rfl
  refine pure_ (i := 6) (N := some 54) (v := ?_) (a' := ?_) #[true, true, true, false, false, true, true, false, false, false, false, false, false, false, false] rfl rfl (by kernel_rfl) (fun _ _ _ h => h) (Or.inl ⟨by rfl, ?_⟩) ?_ ?_
  rotate_left
  · intro w'
    go_simp
    with_reducible rfl
  rotate_left
  · simp only [Act.put, List.setIfInBounds_toArray, List.set_cons_zero, List.set_cons_succ, i64_w, i32_w]
    rfl
  refine pure_ (i := 7) (N := some 55) (v := ?_) (a' := ?_) #[true, true, true, false, false, true, true, true, false, false, false, false, false, false, false] rfl rfl (by kernel_rfl) (fun _ _ _ h => h) (Or.inl ⟨by rfl, ?_⟩) ?_ ?_
  rotate_left
  · intro w'
    go_simp
    with_reducible rfl
  rotate_left
  · simp only [Act.put, List.setIfInBounds_toArray, List.set_cons_zero, List.set_cons_succ, i64_w, i32_w]
    rfl
  refine pure_ (i := 8) (N := some 56) (v := ?_) (a' := ?_) #[true, true, true, false, false, true, true, true, true, false, false, false, false, false, false] rfl rfl (by kernel_rfl) (fun _ _ _ h => h) (Or.inl ⟨by rfl, ?_⟩) ?_ ?_
  rotate_left
  · intro w'
    go_simp
    with_reducible rfl
  rotate_left
  · simp only [Act.put, List.setIfInBounds_toArray, List.set_cons_zero, List.set_cons_succ, i64_w, i32_w]
    rfl
  refine take_ (i := 3) (N := some 51) (v := ?_) (a' := ?_) #[true, true, true, true, false, true, true, true, true, false, false, false, false, false, false] rfl rfl (by kernel_rfl) (fun _ _ _ h => h) (Or.inl ⟨by rfl, ?_⟩) hHeld ?_ ?_
  rotate_left
  · rintro w' ⟨s0, s1, s2, s3⟩
    go_simp
    with_reducible rfl
  rotate_left
  · simp only [Act.put, List.setIfInBounds_toArray, List.set_cons_zero, List.set_cons_succ, i64_w, i32_w]
    rfl
  refine one_ (i := 4) (N := some 52) #[true, true, true, true, true, true, true, true, true, false, false, false, false, false, false] rfl rfl (by kernel_rfl) (by decide) (fun K hK => ?_)
  refine goes_ Try.func33 (by kernel_rfl) rfl #[.agg #[.int .i64 kd, .slice A1 n1 c1, .slice A2 n2 c2, .slice A3 n3 c3]] (by rfl) rfl rfl (by (try simp only [List.map_toArray, List.map_cons, List.map_nil]); first | done | rfl) ?_
  with_reducible refine (obj_Encode_yes' kd ws raw it n1 n2 n3 E1.out E2.out E3.out A1 A2 A3 c1 c2 c3 _ (R1.out.below (below_drew (Below.refl _ w5))) (R2.out.below (below_drew (Below.refl _ w5))) (R3.out.below (below_drew (Below.refl _ w5))) HW.out HRB.out HI.out HOR.out).mono ?_
  rintro e w6 ⟨v6, rfl, ho6, hb6⟩
  refine ⟨_, rfl, ?_⟩
  refine hK.out _ _ ⟨(pw_cell_below hb6 hHeld.1), (pw_cell_below hb6 hHeld.2.1), (pw_cell_below hb6 hHeld.2.2.1), (pw_cell_below hb6 hHeld.2.2.2)⟩ (fun hHeld => ?_)
  clear hK K
  refine norm_ (a' := ?_) ?_ ?_
  rotate_left
  · show Act.put _ (some 52) _ = _
    simp only [Act.put, List.setIfInBounds_toArray, List.set_cons_zero, List.set_cons_succ, i64_w, i32_w]
    rfl
  refine one_ (i := 9) (N := some 57) #[true, true, true, true, true, true, true, true, true, true, false, false, false, false, false] rfl rfl (by kernel_rfl) (by decide) (fun K hK => ?_)
  refine goes_ Try.func17 (by kernel_rfl) rfl #[v6, v'] (by rfl) rfl rfl (by (try simp only [List.map_toArray, List.map_cons, List.map_nil]); first | done | rfl) ?_
  with_reducible refine (Same_calls v6 v' (objZ kd ws raw it) (objZ kd ws raw it) _ (Own.rd ho6) (HRD.out _ (HV.out.below (below_step HB5.out (below_step (below_drew (Below.refl _ w5)) hb6)))) (objZ_isB kd HRB.out) (objZ_isB kd HRB.out)).mono ?_
  rintro e w7 ⟨rfl, hb7⟩
  refine ⟨_, rfl, ?_⟩
  rw [decide_eq_true rfl]
  refine hK.out _ _ ⟨(pw_cell_below hb7 hHeld.1), (pw_cell_below hb7 hHeld.2.1), (pw_cell_below hb7 hHeld.2.2.1), (pw_cell_below hb7 hHeld.2.2.2)⟩ (fun hHeld => ?_)
  clear hK K
  refine norm_ (a' := ?_) ?_ ?_
  rotate_left
  · show Act.put _ (some 57) _ = _
    simp only [Act.put, List.setIfInBounds_toArray, List.set_cons_zero, List.set_cons_succ, i64_w, i32_w]
    rfl
  refine pure_ (i := 10) (N := some 58) (v := ?_) (a' := ?_) #[true, true, true, true, true, true, true, true, true, true, true, false, false, false, false] rfl rfl (by kernel_rfl) (fun _ _ _ h => h) (Or.inl ⟨by rfl, ?_⟩) ?_ ?_
  rotate_left
  · intro w'
    go_simp
    with_reducible rfl
  rotate_left
  · simp only [Act.put, List.setIfInBounds_toArray, List.set_cons_zero, List.set_cons_succ, i64_w, i32_w]
    rfl
  refine pure_ (i := 11) (N := some 59) (v := ?_) (a' := ?_) #[true, true, true, true, true, true, true, true, true, true, true, true, false, false, false] rfl rfl (by kernel_rfl) (fun _ _ _ h => h) (Or.inl ⟨by rfl, ?_⟩) ?_ ?_
  rotate_left
  · intro w'
    go_simp
    with_reducible rfl
  rotate_left
  · simp only [Act.put, List.setIfInBounds_toArray, List.set_cons_zero, List.set_cons_succ, i64_w, i32_w]
    rfl
  refine one_ (i := 12) (N := some 60) #[true, true, true, true, true, true, true, true, true, true, true, true, true, false, false] rfl rfl (by kernel_rfl) (by decide) (fun K hK => ?_)
  refine goes_ Try.func32 (by kernel_rfl) rfl #[] (by rfl) rfl rfl (by (try simp only [List.map_toArray, List.map_cons, List.map_nil]); first | done | rfl) ?_
  with_reducible refine (obj_awake_calls _).mono ?_
  rintro e w8 ⟨rfl, hb8⟩
  refine ⟨_, rfl, ?_⟩
  refine hK.out _ _ ⟨(pw_cell_below hb8 hHeld.1), (pw_cell_below hb8 hHeld.2.1), (pw_cell_below hb8 hHeld.2.2.1), (pw_cell_below hb8 hHeld.2.2.2)⟩ (fun hHeld => ?_)
  clear hK K
  refine norm_ (a' := ?_) ?_ ?_
  rotate_left
  · show Act.put _ (some 60) _ = _
    simp only [Act.put, List.setIfInBounds_toArray, List.set_cons_zero, List.set_cons_succ, i64_w, i32_w]
    rfl
  refine pure_ (i := 13) (N := some 61) (v := ?_) (a' := ?_) #[true, true, true, true, true, true, true, true, true, true, true, true, true, true, false] rfl rfl (by kernel_rfl) (fun _ _ _ h => h) (Or.inl ⟨by rfl, ?_⟩) ?_ ?_
  rotate_left
  · intro w'
    go_simp
    with_reducible rfl
  rotate_left
  · simp only [Act.put, List.setIfInBounds_toArray, List.set_cons_zero, List.set_cons_succ, i64_w, i32_w]
    rfl
  refine pure_ (i := 14) (N := some 4) (v := ?_) (a' := ?_) #[true, true, true, true, true, true, true, true, true, true, true, true, true, true, true] rfl rfl (by kernel_rfl) (fun _ _ _ h => h) (Or.inl ⟨by rfl, ?_⟩) ?_ ?_
  rotate_left
  · intro w'
    go_simp
    with_reducible rfl
  rotate_left
  · simp only [Act.put, List.setIfInBounds_toArray, List.set_cons_zero, List.set_cons_succ, i64_w, i32_w]
    rfl
  refine done_ (by kernel_rfl) ?_
  have HB8 := Aside0.mk (below_step HB5.out (below_step (below_step (below_step (below_drew (Below.refl _ w5)) hb6) hb7) hb8))
  clear hb6 hb7 hb8 z0 z1 z2 z3
  go_wp2_with fail
  go_ret
  exact ⟨rfl, HB8.out⟩
set_option maxHeartbeats 8000000 in
set_option maxRecDepth 100000 in
theorem ObjReads_no (v : Value) (l : List Int) (a : Int) (w : World) (hr : Rd w .u8 v l) (hb : isB l) (hl : l.length ≤ 2000) (ha : a ≤ 4000) (ha0 : -9223372036854775808 ≤ a) (hg : dG l a = false) :
    Calls Try.prog 8 #[v, .int .i64 a] w fun e w' => e = .returned (.bool true) ∧ Below w.heap.size w w' := by
  have HV := Aside0.mk hr
  have HIB := Aside0.mk hb
  have HG := Aside0.mk hg
  have HP1 := Aside0.mk (show ∀ (e : Ending) (w1 : World), (∃ u1 u2 u3, e = .returned (dV l a u1 u2 u3) ∧ (dG l a = true → Rd w1 .u64 u1 (odW l a (getN l a 8)) ∧ Rd w1 .u8 u2 (odR l a (getN l a 8) (getN l (a + 8) 8)) ∧ Rd w1 .u64 u3 (odI l a (getN l a 8) (getN l (a + 8) 8)))) → e = .returned (.tuple #[.agg #[.int .i64 0, .slice none 0 0, .slice none 0 0, .slice none 0 0], .int .i64 0, .bool false]) by
    rintro e w1 ⟨u1, u2, u3, rfl, h⟩
    rw [dV, hg]; rfl)
  obtain ⟨A, c, rfl, hc, hm, hr'⟩ := hr.mid
  clear hr' hr hb hc hm hg
  go_enter Try.func8, Try.ntmps8
  go_wp2_with fail
  refine (obj_Decode_all _ l a _ HV.out HIB.out (by omega) (by omega) ha0).mono ?_
  rintro e w1 ⟨hp, hb1⟩
  obtain rfl := HP1.out e w1 hp
  have HB1 := Aside0.mk (below_alloc hb1 (.cells #[.int .i64 0, .slice none 0 0, .slice none 0 0, .slice none 0 0] 53))
  have HX1 := Aside0.mk (blk_new w1 (.cells #[.int .i64 0, .slice none 0 0, .slice none 0 0, .slice none 0 0] 53))
  clear hp hb1
  go_wp2_with fail
  refine (ref_oDecode_all _ l a _ (HV.out.below HB1.out) HIB.out (by omega) (by omega) ha0).mono ?_
  rintro e w2 ⟨hp, hb2⟩
  obtain rfl := HP1.out e w2 hp
  have HB2 := Aside0.mk (below_alloc (below_step HB1.out hb2) (.cells #[.int .i64 0, .slice none 0 0, .slice none 0 0, .slice none 0 0] 49))
  have HX2 := Aside0.mk (blk_alloc (blk_below HX1.out hb2) (.cells #[.int .i64 0, .slice none 0 0, .slice none 0 0, .slice none 0 0] 49))
  have HY2 := Aside0.mk (blk_new w2 (.cells #[.int .i64 0, .slice none 0 0, .slice none 0 0, .slice none 0 0] 49))
  clear hp hb2
  obtain ⟨g1, hg1⟩ : ∃ g, w1.heap.size = g := ⟨_, rfl⟩
  obtain ⟨g2, hg2⟩ : ∃ g, w2.heap.size = g := ⟨_, rfl⟩
  rw [hg1] at HX2
  rw [hg2] at HY2
  have HG1 := Aside0.mk hg1
  have HG2 := Aside0.mk hg2
  obtain ⟨w3, hw3⟩ : ∃ w3, w2.alloc (.cells #[.int .i64 0, .slice none 0 0, .slice none 0 0, .slice none 0 0] 49) = w3 := ⟨_, rfl⟩
  rw [hw3] at HB2 HX2 HY2
  have HW3 := Aside0.mk hw3
  clear hg1 hg2 hw3
  go_wp2_with fail
  rw [HW3.out, HG1.out, HG2.out]
  have z0 : (w3).cell? ⟨g1, 0, none⟩ = some (.int .i64 0) := blk_cell HX2.out 0
  have z1 : (w3).cell? ⟨g1, 1, none⟩ = some (.slice none 0 0) := blk_cell HX2.out 1
  have z2 : (w3).cell? ⟨g1, 2, none⟩ = some (.slice none 0 0) := blk_cell HX2.out 2
  have z3 : (w3).cell? ⟨g1, 3, none⟩ = some (.slice none 0 0) := blk_cell HX2.out 3
  have y0 : (w3).cell? ⟨g2, 0, none⟩ = some (.int .i64 0) := blk_cell HY2.out 0
  have y1 : (w3).cell? ⟨g2, 1, none⟩ = some (.slice none 0 0) := blk_cell HY2.out 1
  have y2 : (w3).cell? ⟨g2, 2, none⟩ = some (.slice none 0 0) := blk_cell HY2.out 2
  have y3 : (w3).cell? ⟨g2, 3, none⟩ = some (.slice none 0 0) := blk_cell HY2.out 3
  refine start_ (n := 15) (S := fun w' => w'.cell? ⟨g1, 0, none⟩ = some (.int .i64 0) ∧ w'.cell? ⟨g1, 1, none⟩ = some (.slice none 0 0) ∧ w'.cell? ⟨g1, 2, none⟩ = some (.slice none 0 0) ∧ w'.cell? ⟨g1, 3, none⟩ = some (.slice none 0 0) ∧ w'.cell? ⟨g2, 0, none⟩ = some (.int .i64 0) ∧ w'.cell? ⟨g2, 1, none⟩ = some (.slice none 0 0) ∧ w'.cell? ⟨g2, 2, none⟩ = some (.slice none 0 0) ∧ w'.cell? ⟨g2, 3, none⟩ = some (.slice none 0 0)) (ds := []) #[false, false, false, false, false, false, false, false, false, false, false, false, false, false, false] (by kernel_rfl) rfl rfl ⟨z0, z1, z2, z3, y0, y1, y2, y3⟩ (fun hHeld => ?_)
  refine take_ (i := 0) (N := some 33) (v := ?_) (a' := ?_) #[true, false, false, false, false, false, false, false, false, false, false, false, false, false, false] rfl rfl (by kernel_rfl) (fun _ _ _ h => h) (Or.inl ⟨by rfl, ?_⟩) hHeld ?_ ?_
  rotate_left
  · rintro w' ⟨s0, s1, s2, s3, s4, s5, s6, s7⟩
    go_simp
    with_reducible rfl
  rotate_left
  · simp only [Act.put, List.setIfInBounds_toArray, List.set_cons_zero, List.set_cons_succ, i64_w, i32_w]
    rfl
  refine take_ (i := 2) (N := some 35) (v := ?_) (a' := ?_) #[true, false, true, false, false, false, false, false, false, false, false, false, false, false, false] rfl rfl (by kernel_rfl) (fun _ _ _ h => h) (Or.inl ⟨by rfl, ?_⟩) hHeld ?_ ?_
  rotate_left
  · rintro w' ⟨s0, s1, s2, s3, s4, s5, s6, s7⟩
    go_simp
    with_reducible rfl
  rotate_left
  · simp only [Act.put, List.setIfInBounds_toArray, List.set_cons_zero, List.set_cons_succ, i64_w, i32_w]
    rfl
  refine one_ (i := 1) (N := some 34) #[true, true, true, false, false, false, false, false, false, false, false, false, false, false, false] rfl rfl (by kernel_rfl) (by decide) (fun K hK => ?_)
  refine goes_ Try.func48 (by kernel_rfl) rfl #[.agg #[.int .i64 0, .slice none 0 0, .slice none 0 0, .slice none 0 0]] (by rfl) rfl rfl (by (try simp only [List.map_toArray, List.map_cons, List.map_nil]); first | done | rfl) ?_
  with_reducible refine (obj_of_calls 0 none none none 0 0 0 0 0 0 _).mono ?_
  rintro e w4 ⟨rfl, hb4⟩
  refine ⟨_, rfl, ?_⟩
  refine hK.out _ _ ⟨(pw_cell_below hb4 hHeld.1), (pw_cell_below hb4 hHeld.2.1), (pw_cell_below hb4 hHeld.2.2.1), (pw_cell_below hb4 hHeld.2.2.2.1), (pw_cell_below hb4 hHeld.2.2.2.2.1), (pw_cell_below hb4 hHeld.2.2.2.2.2.1), (pw_cell_below hb4 hHeld.2.2.2.2.2.2.1), (pw_cell_below hb4 hHeld.2.2.2.2.2.2.2)⟩ (fun hHeld => ?_)
  clear hK K
  refine norm_ (a' := ?_) ?_ ?_
  rotate_left
  · show Act.put _ (some 34) _ = _
    simp only [Act.put, List.setIfInBounds_toArray, List.set_cons_zero, List.set_cons_succ, i64_w, i32_w]
    rfl
  refine one_ (i := 3) (N := some 36) #[true, true, true, true, false, false, false, false, false, false, false, false, false, false, false] rfl rfl (by kernel_rfl) (by decide) (fun K hK => ?_)
  refine goes_ Try.func45 (by kernel_rfl) rfl #[.agg #[.int .i64 0, .slice none 0 0, .slice none 0 0, .slice none 0 0], .agg #[.int .i64 0, .slice none 0 0, .slice none 0 0, .slice none 0 0]] (by rfl) rfl rfl (by (try simp only [List.map_toArray, List.map_cons, List.map_nil]); first | done | rfl) ?_
  with_reducible refine (ref_oSame_calls' 0 0 [] [] [] [] [] [] 0 0 0 0 0 0 rfl rfl rfl rfl rfl rfl none none none none none none 0 0 0 0 0 0 _ (Rd.nil _ _) (Rd.nil _ _) (Rd.nil _ _) (Rd.nil _ _) (Rd.nil _ _) (Rd.nil _ _) oB_nil oB_nil).mono ?_
  rintro e w5 ⟨rfl, hb5⟩
  refine ⟨_, rfl, ?_⟩
  rw [sameO_yes _ rfl rfl rfl]
  refine hK.out _ _ ⟨(pw_cell_below hb5 hHeld.1), (pw_cell_below hb5 hHeld.2.1), (pw_cell_below hb5 hHeld.2.2.1), (pw_cell_below hb5 hHeld.2.2.2.1), (pw_cell_below hb5 hHeld.2.2.2.2.1), (pw_cell_below hb5 hHeld.2.2.2.2.2.1), (pw_cell_below hb5 hHeld.2.2.2.2.2.2.1), (pw_cell_below hb5 hHeld.2.2.2.2.2.2.2)⟩ (fun hHeld => ?_)
  clear hK K
  refine norm_ (a' := ?_) ?_ ?_
  rotate_left
  · show Act.put _ (some 36) _ = _
    simp only [Act.put, List.setIfInBounds_toArray, List.set_cons_zero, List.set_cons_succ, i64_w, i32_w]
    rfl
  refine pure_ (i := 4) (N := some 37) (v := ?_) (a' := ?_) #[true, true, true, true, true, false, false, false, false, false, false, false, false, false, false] rfl rfl (by kernel_rfl) (fun _ _ _ h => h) (Or.inl ⟨by rfl, ?_⟩) ?_ ?_
  rotate_left
  · intro w'
    go_simp
    with_reducible rfl
  rotate_left
  · simp only [Act.put, List.setIfInBounds_toArray, List.set_cons_zero, List.set_cons_succ, i64_w, i32_w]
    rfl
  refine pure_ (i := 5) (N := some 38) (v := ?_) (a' := ?_) #[true, true, true, true, true, true, false, false, false, false, false, false, false, false, false] rfl rfl (by kernel_rfl) (fun _ _ _ h => h) (Or.inl ⟨by rfl, ?_⟩) ?_ ?_
  rotate_left
  · intro w'
    go_simp
    with_reducible rfl
  rotate_left
  · simp only [Act.put, List.setIfInBounds_toArray, List.set_cons_zero, List.set_cons_succ, i64_w, i32_w]
    rfl
  refine pure_ (i := 6) (N := some 39) (v := ?_) (a' := ?_) #[true, true, true, true, true, true, true, false, false, false, false, false, false, false, false] rfl rfl (by kernel_rfl) (fun _ _ _ h => h) (Or.inl ⟨by rfl, ?_⟩) ?_ ?_
  rotate_left
  · intro w'
    go_simp
    with_reducible rfl
  rotate_left
  · simp only [Act.put, List.setIfInBounds_toArray, List.set_cons_zero, List.set_cons_succ, i64_w, i32_w]
    rfl
  refine pure_ (i := 7) (N := some 40) (v := ?_) (a' := ?_) #[true, true, true, true, true, true, true, true, false, false, false, false, false, false, false] rfl rfl (by kernel_rfl) (fun _ _ _ h => h) (Or.inl ⟨by rfl, ?_⟩) ?_ ?_
  rotate_left
  · intro w'
    go_simp
    with_reducible rfl
  rotate_left
  · simp only [Act.put, List.setIfInBounds_toArray, List.set_cons_zero, List.set_cons_succ, i64_w, i32_w]
    rfl
  refine pure_ (i := 8) (N := some 41) (v := ?_) (a' := ?_) #[true, true, true, true, true, true, true, true, true, false, false, false, false, false, false] rfl rfl (by kernel_rfl) (fun _ _ _ h => h) (Or.inl ⟨by rfl, ?_⟩) ?_ ?_
  rotate_left
  · intro w'
    go_simp
    with_reducible rfl
  rotate_left
  · simp only [Act.put, List.setIfInBounds_toArray, List.set_cons_zero, List.set_cons_succ, i64_w, i32_w]
    rfl
  refine pure_ (i := 9) (N := some 42) (v := ?_) (a' := ?_) #[true, true, true, true, true, true, true, true, true, true, false, false, false, false, false] rfl rfl (by kernel_rfl) (fun _ _ _ h => h) (Or.inl ⟨by rfl, ?_⟩) ?_ ?_
  rotate_left
  · intro w'
    go_simp
    with_reducible rfl
  rotate_left
  · simp only [Act.put, List.setIfInBounds_toArray, List.set_cons_zero, List.set_cons_succ, i64_w, i32_w]
    rfl
  refine pure_ (i := 10) (N := some 43) (v := ?_) (a' := ?_) #[true, true, true, true, true, true, true, true, true, true, true, false, false, false, false] rfl rfl (by kernel_rfl) (fun _ _ _ h => h) (Or.inl ⟨by rfl, ?_⟩) ?_ ?_
  rotate_left
  · intro w'
    go_simp
    with_reducible rfl
  rotate_left
  · simp only [Act.put, List.setIfInBounds_toArray, List.set_cons_zero, List.set_cons_succ, i64_w, i32_w]
    rfl
  refine pure_ (i := 11) (N := some 44) (v := ?_) (a' := ?_) #[true, true, true, true, true, true, true, true, true, true, true, true, false, false, false] rfl rfl (by kernel_rfl) (fun _ _ _ h => h) (Or.inl ⟨by rfl, ?_⟩) ?_ ?_
  rotate_left
  · intro w'
    go_simp
    with_reducible rfl
  rotate_left
  · simp only [Act.put, List.setIfInBounds_toArray, List.set_cons_zero, List.set_cons_succ, i64_w, i32_w]
    rfl
  refine pure_ (i := 12) (N := some 45) (v := ?_) (a' := ?_) #[true, true, true, true, true, true, true, true, true, true, true, true, true, false, false] rfl rfl (by kernel_rfl) (fun _ _ _ h => h) (Or.inl ⟨by rfl, ?_⟩) ?_ ?_
  rotate_left
  · intro w'
    go_simp
    with_reducible rfl
  rotate_left
  · simp only [Act.put, List.setIfInBounds_toArray, List.set_cons_zero, List.set_cons_succ, i64_w, i32_w]
    rfl
  refine pure_ (i := 13) (N := some 46) (v := ?_) (a' := ?_) #[true, true, true, true, true, true, true, true, true, true, true, true, true, true, false] rfl rfl (by kernel_rfl) (fun _ _ _ h => h) (Or.inl ⟨by rfl, ?_⟩) ?_ ?_
  rotate_left
  · intro w'
    go_simp
    with_reducible rfl
  rotate_left
  · simp only [Act.put, List.setIfInBounds_toArray, List.set_cons_zero, List.set_cons_succ, i64_w, i32_w]
    rfl
  refine pure_ (i := 14) (N := some 47) (v := ?_) (a' := ?_) #[true, true, true, true, true, true, true, true, true, true, true, true, true, true, true] rfl rfl (by kernel_rfl) (fun _ _ _ h => h) (Or.inl ⟨by rfl, ?_⟩) ?_ ?_
  rotate_left
  · intro w'
    go_simp
    with_reducible rfl
  rotate_left
  · simp only [Act.put, List.setIfInBounds_toArray, List.set_cons_zero, List.set_cons_succ, i64_w, i32_w]
    rfl
  refine done_ (by kernel_rfl) ?_
  have hbb := below_step (below_step (below_drew (Below.refl _ w3)) hb4) hb5
  have HB5 := Aside0.mk (below_step HB2.out hbb)
  have HX5 := Aside0.mk (blk_below HX2.out hbb)
  clear hbb hb4 hb5 z0 z1 z2 z3 y0 y1 y2 y3
  go_wp2_with fail
  have z0 : (w5).cell? ⟨g1, 0, none⟩ = some (.int .i64 0) := blk_cell HX5.out 0
  have z1 : (w5).cell? ⟨g1, 1, none⟩ = some (.slice none 0 0) := blk_cell HX5.out 1
  have z2 : (w5).cell? ⟨g1, 2, none⟩ = some (.slice none 0 0) := blk_cell HX5.out 2
  have z3 : (w5).cell? ⟨g1, 3, none⟩ = some (.slice none 0 0) := blk_cell HX5.out 3
  refine start_ (n := 15) (S := fun w' => w'.cell? ⟨g1, 0, none⟩ = some (.int .i64 0) ∧ w'.cell? ⟨g1, 1, none⟩ = some (.slice none 0 0) ∧ w'.cell? ⟨g1, 2, none⟩ = some (.slice none 0 0) ∧ w'.cell? ⟨g1, 3, none⟩ = some (.slice none 0 0)) (ds := []) #[false, false, false, false, false, false, false, false, false, false, false, false, false, false, false] (by kernel_rfl) rfl rfl ⟨z0, z1, z2, z3⟩ (fun hHeld => ?_)
  refine pure_ (i := 0) (N := some 48) (v := ?_) (a' := ?_) #[true, false, false, false, false, false, false, false, false, false, false, false, false, false, false] rfl rfl (by kernel_rfl) (fun _ _ _ h => h) (Or.inl ⟨by rfl, ?_⟩) ?_ ?_
  rotate_left
  · intro w'
    go_simp
    with_reducible rfl
  rotate_left
  · simp only [Act.put, List.setIfInBounds_toArray, List.set_cons_zero, List.set_cons_succ, i64_w, i32_w]
    rfl
  refine pure_ (i := 1) (N := some 49) (v := ?_) (a' := ?_) #[true, true, false, false, false, false, false, false, false, false, false, false, false, false, false] rfl rfl (by kernel_rfl) (fun _ _ _ h => h) (Or.inl ⟨by rfl, ?_⟩) ?_ ?_
  rotate_left
  · intro w'
    go_simp
    with_reducible rfl
  rotate_left
  · simp only [Act.put, List.setIfInBounds_toArray, List.set_cons_zero, List.set_cons_succ, i64_w, i32_w]
    rfl
  refine pure_ (i := 2) (N := some 50) (v := ?_) (a' := ?_) #[true, true, true, false, false, false, false, false, false, false, false, false, false, false, false] rfl rfl (by kernel_rfl) (fun _ _ _ h => h) (Or.inl ⟨by rfl, ?_⟩) ?_ ?_
  rotate_left
  · intro w'
    go_simp
    with_reducible rfl
  rotate_left
  · simp only [Act.put, List.setIfInBounds_toArray, List.set_cons_zero, List.set_cons_succ, i64_w, i32_w]
    rfl
  refine pure_ (i := 3) (N := some 51) (v := undef) (a' := ?_) #[true, true, true, true, false, false, false, false, false, false, false, false, false, false, false] rfl rfl (by kernel_rfl) (fun _ _ _ h => h) (Or.inr ⟨by rfl, rfl⟩) ?_ ?_
  rotate_left
  · simp only [Act.put, List.setIfInBounds_toArray, List.set_cons_zero, List.set_cons_succ, i64_w, i32_w]
    rfl
  refine pure_ (i := 4) (N := some 52) (v := undef) (a' := ?_) #[true, true, true, true, true, false, false, false, false, false, false, false, false, false, false] rfl rfl (by kernel_rfl) (fun _ _ _ h => h) (Or.inr ⟨by rfl, rfl⟩) ?_ ?_
  rotate_left
  · simp only [Act.put, List.setIfInBounds_toArray, List.set_cons_zero, List.set_cons_succ, i64_w, i32_w]
    rfl
  refine pure_ (i := 5) (N := some 53) (v := undef) (a' := ?_) #[true, true, true, true, true, true, false, false, false, false, false, false, false, false, false] rfl rfl (by kernel_rfl) (fun _ _ _ h => h) (Or.inr ⟨by rfl, rfl⟩) ?_ ?_
  rotate_left
  · simp only [Act.put, List.setIfInBounds_toArray, List.set_cons_zero, List.set_cons_succ, i64_w, i32_w]
    rfl
  refine pure_ (i := 6) (N := some 54) (v := undef) (a' := ?_) #[true, true, true, true, true, true, true, false, false, false, false, false, false, false, false] rfl rfl (by kernel_rfl) (fun _ _ _ h => h) (Or.inr ⟨by rfl, rfl⟩) ?_ ?_
  rotate_left
  · simp only [Act.put, List.setIfInBounds_toArray, List.set_cons_zero, List.set_cons_succ, i64_w, i32_w]
    rfl
  refine pure_ (i := 7) (N := some 55) (v := undef) (a' := ?_) #[true, true, true, true, true, true, true, true, false, false, false, false, false, false, false] rfl rfl (by kernel_rfl) (fun _ _ _ h => h) (Or.inr ⟨by rfl, rfl⟩) ?_ ?_
  rotate_left
  · simp only [Act.put, List.setIfInBounds_toArray, List.set_cons_zero, List.set_cons_succ, i64_w, i32_w]
    rfl
  refine pure_ (i := 8) (N := some 56) (v := undef) (a' := ?_) #[true, true, true, true, true, true, true, true, true, false, false, false, false, false, false] rfl rfl (by kernel_rfl) (fun _ _ _ h => h) (Or.inr ⟨by rfl, rfl⟩) ?_ ?_
  rotate_left
  · simp only [Act.put, List.setIfInBounds_toArray, List.set_cons_zero, List.set_cons_succ, i64_w, i32_w]
    rfl
  refine pure_ (i := 9) (N := some 57) (v := undef) (a' := ?_) #[true, true, true, true, true, true, true, true, true, true, false, false, false, false, false] rfl rfl (by kernel_rfl) (fun _ _ _ h => h) (Or.inr ⟨by rfl, rfl⟩) ?_ ?_
  rotate_left
  · simp only [Act.put, List.setIfInBounds_toArray, List.set_cons_zero, List.set_cons_succ, i64_w, i32_w]
    rfl
  refine pure_ (i := 10) (N := some 58) (v := ?_) (a' := ?_) #[true, true, true, true, true, true, true, true, true, true, true, false, false, false, false] rfl rfl (by kernel_rfl) (fun _ _ _ h => h) (Or.inl ⟨by rfl, ?_⟩) ?_ ?_
  rotate_left
  · intro w'
    go_simp
    with_reducible rfl
  rotate_left
  · simp only [Act.put, List.setIfInBounds_toArray, List.set_cons_zero, List.set_cons_succ, i64_w, i32_w]
    rfl
  refine pure_ (i := 11) (N := some 59) (v := ?_) (a' := ?_) #[true, true, true, true, true, true, true, true, true, true, true, true, false, false, false] rfl rfl (by kernel_rfl) (fun _ _ _ h => h) (Or.inl ⟨by rfl, ?_⟩) ?_ ?_
  rotate_left
  · intro w'
    go_simp
    with_reducible rfl
  rotate_left
  · simp only [Act.put, List.setIfInBounds_toArray, List.set_cons_zero, List.set_cons_succ, i64_w, i32_w]
    rfl
  refine one_ (i := 12) (N := some 60) #[true, true, true, true, true, true, true, true, true, true, true, true, true, false, false] rfl rfl (by kernel_rfl) (by decide) (fun K hK => ?_)
  refine goes_ Try.func32 (by kernel_rfl) rfl #[] (by rfl) rfl rfl (by (try simp only [List.map_toArray, List.map_cons, List.map_nil]); first | done | rfl) ?_
  with_reducible refine (obj_awake_calls _).mono ?_
  rintro e w8 ⟨rfl, hb8⟩
  refine ⟨_, rfl, ?_⟩
  refine hK.out _ _ ⟨(pw_cell_below hb8 hHeld.1), (pw_cell_below hb8 hHeld.2.1), (pw_cell_below hb8 hHeld.2.2.1), (pw_cell_below hb8 hHeld.2.2.2)⟩ (fun hHeld => ?_)
  clear hK K
  refine norm_ (a' := ?_) ?_ ?_
  rotate_left
  · show Act.put _ (some 60) _ = _
    simp only [Act.put, List.setIfInBounds_toArray, List.set_cons_zero, List.set_cons_succ, i64_w, i32_w]
    rfl
  refine pure_ (i := 13) (N := some 61) (v := ?_) (a' := ?_) #[true, true, true, true, true, true, true, true, true, true, true, true, true, true, false] rfl rfl (by kernel_rfl) (fun _ _ _ h => h) (Or.inl ⟨by rfl, ?_⟩) ?_ ?_
  rotate_left
  · intro w'
    go_simp
    with_reducible rfl
  rotate_left
  · simp only [Act.put, List.setIfInBounds_toArray, List.set_cons_zero, List.set_cons_succ, i64_w, i32_w]
    rfl
  refine pure_ (i := 14) (N := some 4) (v := ?_) (a' := ?_) #[true, true, true, true, true, true, true, true, true, true, true, true, true, true, true] rfl rfl (by kernel_rfl) (fun _ _ _ h => h) (Or.inl ⟨by rfl, ?_⟩) ?_ ?_
  rotate_left
  · intro w'
    go_simp
    with_reducible rfl
  rotate_left
  · simp only [Act.put, List.setIfInBounds_toArray, List.set_cons_zero, List.set_cons_succ, i64_w, i32_w]
    rfl
  refine done_ (by kernel_rfl) ?_
  have HB8 := Aside0.mk (below_step HB5.out (below_step (below_drew (Below.refl _ w5)) hb8))
  clear hb8 z0 z1 z2 z3
  go_wp2_with fail
  go_ret
  exact ⟨rfl, HB8.out⟩

set_option maxHeartbeats 8000000 in
set_option maxRecDepth 100000 in
theorem ObjReads_far (v : Value) (l : List Int) (a : Int) (w : World) (hr : Rd w .u8 v l) (hf : ¬ (l.length ≤ 2000 ∧ a ≤ 4000)) : Calls Try.prog 8 #[v, .int .i64 a] w fun e w' => e = .returned (.bool true) ∧ Below w.heap.size w w' := by
  obtain ⟨A, c, rfl, hc, hm, hr'⟩ := hr.mid
  clear hr hr' hc
  by_cases h1 : 2000 < l.length
  · have t1 : decide ((2000 : Int) < (l.length : Int)) = true := by simp; omega
    clear hf h1
    go_enter Try.func8, Try.ntmps8
    go_wp2_with fail
    refine (obj_awake_calls _).mono ?_
    rintro e w1 ⟨rfl, hb⟩
    have HB1 := Aside0.mk hb
    clear hb
    go_wp2_with fail
    go_ret
    exact ⟨rfl, HB1.out⟩
  · have t1 : decide ((2000 : Int) < (l.length : Int)) = false := by simp; omega
    have t2 : decide ((4000 : Int) < a) = true := by simp; omega
    clear hf h1
    go_enter Try.func8, Try.ntmps8
    go_wp2_with fail
    refine (obj_awake_calls _).mono ?_
    rintro e w1 ⟨rfl, hb⟩
    have HB1 := Aside0.mk hb
    clear hb
    go_wp2_with fail
    go_ret
    exact ⟨rfl, HB1.out⟩
theorem ObjReads_calls (v : Value) (l : List Int) (a : Int) (w : World) (hr : Rd w .u8 v l) (hb : isB l) (ha0 : -9223372036854775808 ≤ a) : Calls Try.prog 8 #[v, .int .i64 a] w fun e w' => e = .returned (.bool true) ∧ Below w.heap.size w w' := by
  by_cases hf : l.length ≤ 2000 ∧ a ≤ 4000
  · cases hg : dG l a
    · exact ObjReads_no v l a w hr hb hf.1 hf.2 ha0 hg
    · exact ObjReads_yes v l a w hr hb hf.1 hf.2 ha0 hg
  · exact ObjReads_far v l a w hr hf
theorem ObjReads_walk (a0 : Option Addr) (len0 cap0 : Nat) (z0 : List Int) (a1 : Int) (w : World) (w0 : (a0 = none ∧ len0 = 0 ∧ cap0 = 0 ∧ z0 = []) ∨ ∃ x, a0 = some x ∧ len0 ≤ cap0 ∧ cap0 ≤ maxLen ∧ z0.length = cap0 ∧ (∀ i, i < z0.length → w.cell? (x.add i) = some (.int .u8 (z0.getD i 0))) ∧ ∀ n ∈ z0, (Lit.int .u8 n).wf = true) (y0 : len0 * 1 ≤ 140737488351232) (w1 : (Lit.int .i64 a1).wf = true) :
    Calls Try.prog 8 #[.slice a0 len0 cap0, .int .i64 a1] w fun e w' => e = .returned (.bool true) ∧ Below w.heap.size w w' := by
  obtain ⟨l0, rfl, hr0, hm0, hw0, hc0⟩ := ReadsInt.ofRowC w0
  exact ObjReads_calls _ l0 a1 w ⟨_, _, rfl, hc0, hr0⟩ (wf_isB hw0) (bounds_i64 w1).1
end Go.Proofs.Ytdleajnecohacaa
