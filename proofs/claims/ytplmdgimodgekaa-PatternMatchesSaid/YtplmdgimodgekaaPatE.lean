/- Patterns: the program's Compile, its walk. -/
import Derived.Test.YtplmdgimodgekaaPatD
namespace Go.Proofs.Ytplmdgimodgekaa
open Go.RowKit Go.Proofs.YtplmdgimodgekaaW.PrintWords Go.Proofs.YtplmdgimodgekaaW.PrintLast Go.Proofs.YtplmdgimodgekaaW.PrintMore
attribute [local go_sem] max2_int min2_int max_two min_two max_three min_three max_four min_four   -- for this text's walks alone
set_option linter.unusedVariables false
set_option linter.unusedSimpArgs false

/-- A pattern that was read, in block g. -/
def PatV (W : World) (g : Nat) (chs : List (List Pt)) (fold : Bool) : Prop := ∃ vc ds, PaV W g vc fold ∧ RdE SlE (none, 0, 0) W vc ds ∧ ds.length = chs.length ∧ ∀ j, j < chs.length → KRd ptL 7 W (SlE (ds.getD j (none, 0, 0))) (chs.getD j [])
theorem PatV.below {W W1 : World} {g : Nat} {chs : List (List Pt)} {fold : Bool} (h : PatV W g chs fold) (hb : Below W.heap.size W W1) : PatV W1 g chs fold := by
  obtain ⟨vc, ds, h1, h2, h3, h4⟩ := h
  exact ⟨vc, ds, blk_below h1 hb, h2.below hb, h3, fun j hj => (h4 j hj).below hb⟩
theorem CoS.pat {w W : World} {hC gP gR : Nat} {L : List Int} {n : Int} {b : Nat} {fold : Bool} {vc : Value} {ds : List (Option Addr × Nat × Nat)} {cu : Option Addr × Nat × Nat} {D : List (List Pt)} {C : List Pt} (h : CoS w W hC gP gR L n b fold vc ds cu D C) : PatV W gP (D ++ [C]) fold := by
  refine ⟨vc, ds ++ [cu], h.p, h.o.rdE _, by rw [List.length_append, List.length_append, h.l]; rfl, fun j hj => ?_⟩
  by_cases e : j < D.length
  · rw [List.getD_eq_getElem?_getD, List.getElem?_append_left (by rw [h.l]; exact e), ← List.getD_eq_getElem?_getD, List.getD_eq_getElem?_getD (l := D ++ [C]), List.getElem?_append_left e, ← List.getD_eq_getElem?_getD]
    exact KRow.rd (h.d j e).1 ptL_len
  · have e2 : j = D.length := by rw [List.length_append] at hj; simp at hj; omega
    subst e2
    rw [List.getD_eq_getElem?_getD, List.getElem?_append_right (by rw [h.l]; exact Nat.le_refl _), List.getD_eq_getElem?_getD (l := D ++ [C]), List.getElem?_append_right (Nat.le_refl _), h.l, Nat.sub_self]
    exact KRow.rd h.c ptL_len
def CmpD (w w' : World) (L : List Int) (fold : Bool) (e : Ending) : Prop := Below w.heap.size w w' ∧ ((compP L = none ∧ e = .returned (.tuple #[.pointer none, .int .i64 29])) ∨ ∃ g chs, compP L = some chs ∧ e = .returned (.tuple #[.pointer (some ⟨g, 0, none⟩), .int .i64 0]) ∧ PatV w' g chs fold)
theorem infoSl : (Try.prog.info? 103).map (fun i => (i.zero, i.size, i.bytes)) = some (some (.slice none 0 0), 1, 24) := by kernel_rfl
theorem infoPt : (Try.prog.info? 100).map (fun i => (i.zero, i.size, i.bytes)) = some (some (.agg #[.int .i64 0, .int .u8 0, .int .u64 0, .int .u64 0, .int .u64 0, .int .u64 0, .bool false]), 7, 56) := by kernel_rfl
theorem ptA_open (p : Pt) : ∃ (k c a0 a1 a2 a3 : Int) (ng : Bool), ptA p = #[.int .i64 k, .int .u8 c, .int .u64 a0, .int .u64 a1, .int .u64 a2, .int .u64 a3, .bool ng] := ⟨_, _, _, _, _, _, _, rfl⟩
theorem comp_none {L : List Int} {f n : Nat} {l : List Int} {D : List (List Pt)} {C : List Pt} {R : Option (List (List Pt) × Nat)} (h : patP (L.length + 1) L 0 [] [] = R) (h2 : patP f l n D C = R) (hn : 64 < n) : compP L = none := by
  rw [compP, h]
  cases R with
  | none => rfl
  | some x =>
    obtain ⟨ch, m⟩ := x
    have := patP_n h2
    dsimp only
    rw [if_neg (by omega)]
set_option maxHeartbeats 8000000 in
set_option maxRecDepth 100000 in
theorem pCompile_calls (w : World) (L : List Int) (fold : Bool) (hib : isB L) (hL : L.length ≤ 100000) :
    Calls Try.prog 16 #[.string (strOfNums L), .bool fold] w fun e w' => CmpD w w' L fold e := by
  have HIB := Aside0.mk hib
  have HL := Aside0.mk hL
  obtain ⟨N, hN⟩ : ∃ N, L.length = N := ⟨_, rfl⟩
  have HN := Aside0.mk hN
  have s1 : (w.alloc (.cells #[.slice none 0 0] 103)).heap.size = w.heap.size + 1 := Array.size_push _
  have s2 : ((w.alloc (.cells #[.slice none 0 0] 103)).alloc (.cells #[.slice (some ⟨w.heap.size, 0, none⟩) 1 1, .bool fold] 92)).heap.size = w.heap.size + 2 := by rw [show ((w.alloc (.cells #[.slice none 0 0] 103)).alloc (.cells #[.slice (some ⟨w.heap.size, 0, none⟩) 1 1, .bool fold] 92)).heap.size = (w.alloc (.cells #[.slice none 0 0] 103)).heap.size + 1 from Array.size_push _, s1]
  have s3 : (((w.alloc (.cells #[.slice none 0 0] 103)).alloc (.cells #[.slice (some ⟨w.heap.size, 0, none⟩) 1 1, .bool fold] 92)).alloc (.cells #[.string (strOfNums L), .int .i64 0, .int .i64 0] 95)).heap.size = w.heap.size + 3 := by rw [show (((w.alloc (.cells #[.slice none 0 0] 103)).alloc (.cells #[.slice (some ⟨w.heap.size, 0, none⟩) 1 1, .bool fold] 92)).alloc (.cells #[.string (strOfNums L), .int .i64 0, .int .i64 0] 95)).heap.size = ((w.alloc (.cells #[.slice none 0 0] 103)).alloc (.cells #[.slice (some ⟨w.heap.size, 0, none⟩) 1 1, .bool fold] 92)).heap.size + 1 from Array.size_push _, s2]
  have HCS := Aside0.mk (show CoS w (((w.alloc (.cells #[.slice none 0 0] 103)).alloc (.cells #[.slice (some ⟨w.heap.size, 0, none⟩) 1 1, .bool fold] 92)).alloc (.cells #[.string (strOfNums L), .int .i64 0, .int .i64 0] 95)) (w.heap.size + 3) (w.heap.size + 1) (w.heap.size + 1 + 1) L 0 0 fold (.slice (some ⟨w.heap.size, 0, none⟩) 1 1) [] (none, 0, 0) [] [] from by
    have b3 := below_alloc (Below.refl _ _) (.cells #[.string (strOfNums L), .int .i64 0, .int .i64 0] 95) (w := ((w.alloc (.cells #[.slice none 0 0] 103)).alloc (.cells #[.slice (some ⟨w.heap.size, 0, none⟩) 1 1, .bool fold] 92)))
    have b2 := below_alloc (Below.refl _ _) (.cells #[.slice (some ⟨w.heap.size, 0, none⟩) 1 1, .bool fold] 92) (w := (w.alloc (.cells #[.slice none 0 0] 103)))
    refine ⟨?_, ?_, ?_, rfl, fun j hj => by simp at hj, KRow.nil _ _, ⟨by omega, by rw [s3]; exact Nat.le_refl _⟩, ⟨by omega, by omega⟩, below_alloc (below_alloc (below_alloc (Below.refl _ _) _) _) _⟩
    · have := blk_new ((w.alloc (.cells #[.slice none 0 0] 103)).alloc (.cells #[.slice (some ⟨w.heap.size, 0, none⟩) 1 1, .bool fold] 92)) (.cells #[.string (strOfNums L), .int .i64 0, .int .i64 0] 95)
      rw [s2] at this
      exact this
    · have := blk_new (w.alloc (.cells #[.slice none 0 0] 103)) (.cells #[.slice (some ⟨w.heap.size, 0, none⟩) 1 1, .bool fold] 92)
      rw [s1] at this
      exact blk_below this b3
    · have := OwnO.of_own (own_lit_of (enc := SlE) w w.heap.size 103 [(none, 0, 0)] (Nat.le_refl _) (by simp))
      exact ((this.below b2).below b3))
  clear s1 s2 s3 hib hN
  go_enter Try.func16, Try.ntmps16
  go_upto_region 3 with fail
  obtain ⟨g0, hg0⟩ : ∃ g, w.heap.size = g := ⟨_, rfl⟩
  obtain ⟨wx, hwx⟩ : ∃ wx, (((w.alloc (.cells #[.slice none 0 0] 103)).alloc (.cells #[.slice (some ⟨w.heap.size, 0, none⟩) 1 1, .bool fold] 92)).alloc (.cells #[.string (strOfNums L), .int .i64 0, .int .i64 0] 95)) = wx := ⟨_, rfl⟩
  rw [hwx] at HCS ⊢
  clear hwx
  rw [hg0] at HCS ⊢
  have HG0 := Aside0.mk hg0
  obtain ⟨gP, hgP⟩ : ∃ g, g0 + 1 = g := ⟨_, rfl⟩
  rw [hgP] at HCS ⊢
  obtain ⟨gR, hgR⟩ : ∃ g, gP + 1 = g := ⟨_, rfl⟩
  rw [hgR] at HCS ⊢
  obtain ⟨hC, hhC⟩ : ∃ g, g0 + 3 = g := ⟨_, rfl⟩
  rw [hhC] at HCS
  obtain ⟨vc, hvc⟩ : ∃ v, Value.slice (some ⟨g0, 0, none⟩) 1 1 = v := ⟨_, rfl⟩
  rw [hvc] at HCS
  clear hg0 hgP hgR hhC hvc
  go_wp2_with fail
  with_reducible refine (pNext_calls _ gR L 0 0 HCS.out.r HIB.out HL.out (Nat.zero_le _)).mono ?_
  rintro e w1 ⟨rfl, hr, hk⟩
  replace HCS := Aside0.mk (HCS.out.next hr hk)
  rw [HN.out]
  clear hr hk
  go_upto_block 0 with (fail)
  go_cut [] (fun wx => ∃ (n : Nat) (hC : Nat) (vc : Value) (ds : List (Option Addr × Nat × Nat)) (cu : Option Addr × Nat × Nat) (D : List (List Pt)) (C : List Pt) (b : Nat), n ≤ N ∧ Aside0 (compP L = if n ≤ 64 then some (D ++ [C]) else none) ∧ Aside0 (CoS w wx hC gP gR L n b fold vc ds cu D C))
  case first =>
    obtain ⟨RES, hRES⟩ : ∃ R, patP (L.length + 1) L 0 [] [] = R := ⟨_, rfl⟩
    have HRES := Aside0.mk hRES
    clear hRES
    go_wp2_with fail
    go_loopg [8, 9] (N + 1) (fun kq v8 v9 w' => ∃ (q f n : Nat) (hC : Nat) (vc : Value) (ds : List (Option Addr × Nat × Nat)) (cu : Option Addr × Nat × Nat) (D : List (List Pt)) (C : List Pt), v8 = .int .u8 (L.getD q 0) ∧ v9 = .bool (decide (q < N)) ∧ q ≤ N ∧ n ≤ q ∧ D.length + C.length ≤ n ∧ N + 1 ≤ q + kq ∧ N < q + f ∧ Aside0 (patP f (L.drop q) n D C = RES) ∧ Aside0 (CoS w w' hC gP gR L n (nxA L q) fold vc ds cu D C))
    case atStart => exact ⟨0, L.length + 1, 0, hC, vc, [], (none, 0, 0), [], [], rfl, rfl, Nat.zero_le _, Nat.le_refl _, Nat.le_refl _, by omega, by rw [HN.out]; omega, Aside0.mk (by rw [List.drop_zero]; exact HRES.out), HCS⟩
    case round =>
      clear HCS vc hC
      obtain ⟨q, f, n, hC, vc, ds, cu, D, C, rfl, rfl, hqN, hnq, hdn, hqk, hqf, HS, HCS⟩ := hrel
      by_cases c1 : q < N
      · have g1 : decide (q < N) = true := decide_eq_true c1
        have hne : L.drop q ≠ [] := fun e => by have := congrArg List.length e; rw [List.length_drop, HN.out] at this; simp at this; omega
        obtain ⟨f', rfl⟩ : ∃ f', f = f' + 1 := ⟨f - 1, by omega⟩
        have hsx := HS.out
        rw [patP, if_neg hne, List.getD_eq_getElem?_getD, List.getElem?_drop, Nat.add_zero, ← List.getD_eq_getElem?_getD, List.drop_drop] at hsx
        rw [show nxA L q = q + 1 by rw [nxA, if_pos (by rw [HN.out]; exact c1)]] at HCS
        obtain ⟨c, hc⟩ : ∃ c, L.getD q 0 = c := ⟨_, rfl⟩
        have HC := Aside0.mk hc
        rw [hc] at hsx ⊢
        have HSX := Aside0.mk hsx
        have HCB := Aside0.mk (show 0 ≤ c ∧ c ≤ 255 by rw [← hc]; exact HIB.out.getD q)
        have HDR := Aside0.mk (show L.drop q = c :: L.drop (q + 1) by
          have hl : q < L.length := by rw [HN.out]; exact c1
          rw [List.drop_eq_getElem_cons hl, ← hc, List.getD_eq_getElem?_getD, List.getElem?_eq_getElem hl]; rfl)
        have hN9 : N ≤ 100000 := by rw [← HN.out]; exact HL.out
        clear HS hsx hc hne
        by_cases c2 : c = 124
        · subst c2
          obtain ⟨A0, k0, hvc, hcap, _⟩ := HCS.out.o.sl (k := D.length + 1) (by rw [List.length_append, HCS.out.l]; rfl)
          subst hvc
          obtain ⟨A1, k1, w2, hr2, ho2, hk2, _⟩ := app_lits (P := Try.prog) (d := ((none, 0, 0) : Option Addr × Nat × Nat)) oneSl Try.underlying90 infoSl rfl (by omega) (ty := 90) [(none, 0, 0)] (cs := #[.slice none 0 0]) (k := D.length + 1) (m := 1) rfl HCS.out.o (by rw [List.length_append, HCS.out.l]; rfl) rfl HCS.out.k.size (by omega)
          have HR2 := Aside0.mk hr2
          have x0 : wr.cell? ⟨gP, 0, none⟩ = some (.slice A0 (D.length + 1) k0) := blk_cell HCS.out.p 0
          have hz2 : PaV w2 gP (.slice A0 (D.length + 1) k0) fold := hk2.blk HCS.out.p HCS.out.og.1
          have f2 : w2.frozen? ⟨gP, 0, none⟩ = false := blk_frozen hz2 0
          have z2 : w2.cell? ⟨gP, 0, none⟩ = some (.slice A0 (D.length + 1) k0) := blk_cell hz2 0
          have HC2 := Aside0.mk (HCS.out.bar ho2 hk2)
          clear hr2 ho2 hk2 hz2
          go_upto_region 8 with (first | ((with_reducible refine gate_builtin (b := .append) (xs := #[.tmp 37, .tmp 38]) rfl ?_); at_builtin; refine app_list rfl (.tmp 37) (.tmp 38) rfl rfl rfl HR2.out ?_) | fail)
          clear HR2 x0 z2 f2
          obtain ⟨w3, hw3⟩ : ∃ x, w2.setCell ⟨gP, 0, none⟩ (.slice A1 (D.length + 1 + 1) k1) = x := ⟨_, rfl⟩
          rw [hw3] at HC2 ⊢
          clear hw3
          have x2 : w3.cell? ⟨gR, 2, none⟩ = some (.int .i64 (n : Int)) := blk_cell HC2.out.r 2
          have f2 : w3.frozen? ⟨gR, 2, none⟩ = false := blk_frozen HC2.out.r 2
          have v1 : IntKind.i64.wrap ((n : Int) + 1) = (n : Int) + 1 := by rw [IntKind.wrap_i64]; omega
          go_upto_region 5 with fail
          have HCB := Aside0.mk (HC2.out.next (n' := ((n + 1 : Nat) : Int)) (by have := HC2.out.r.s2 ((n : Int) + 1); exact this) (Kp.set w3 ⟨gR, 2, none⟩ (.int .i64 ((n : Int) + 1))))
          obtain ⟨w4, hw4⟩ : ∃ x, w3.setCell ⟨gR, 2, none⟩ (.int .i64 ((n : Int) + 1)) = x := ⟨_, rfl⟩
          rw [hw4] at HCB ⊢
          clear hw4 x2 f2 v1
          go_wp2_with fail
          with_reducible refine (pNext_calls _ gR L (q + 1) ((n + 1) : Nat) HCB.out.r HIB.out HL.out (by rw [HN.out]; omega)).mono ?_
          rintro e w9 ⟨rfl, hr, hk⟩
          have HC9 := Aside0.mk (HCB.out.next hr hk)
          clear hr hk
          rw [HN.out]
          go_wp2_with fail
          go_roundg (gk - 1)
          case measure => omega
          case rel => exact ⟨(q + 1), f', (n + 1), _, _, _, _, _, _, rfl, rfl, by omega, by omega, by simp; omega, by omega, by omega, Aside0.mk (by have := HSX.out; simpa using this), HC9⟩
        · have g2 : (c == 124) = false := by simpa using c2
          rw [if_neg c2, HDR.out] at HSX
          go_wp2_with fail
          with_reducible refine (pPart_calls _ gR L c (q + 1) n HCS.out.r HIB.out HL.out (by rw [HN.out]; omega) HCB.out (by omega)).mono ?_
          rintro e w2 ⟨p, ok, b, rfl, hqb, hbN, hpt, hr, hk⟩
          have HC2 := Aside0.mk (HCS.out.next (n' := ((n + 1 : Nat) : Int)) hr hk)
          rw [HN.out] at hbN
          rw [hpt] at HSX
          obtain ⟨kk, cc, a0, a1, a2, a3, ng, hpa⟩ := ptA_open p
          have HPA := Aside0.mk hpa
          rw [hpa]
          clear hr hk hpt hpa g2
          cases ok with
          | false =>
            have HFIN := Aside0.mk (show compP L = none by rw [compP, HRES.out, ← HSX.out]; rfl)
            go_wp2_with fail
            go_ret2
            exact ⟨below_step HC2.out.k (below_alloc (Below.refl _ _) _), .inl ⟨HFIN.out, rfl⟩⟩
          | true =>
            have HSY := Aside0.mk (show patP f' (L.drop b) (n + 1) D (C ++ [p]) = RES by have := HSX.out; simpa using this)
            clear HSX
            go_upto_region 10 with fail
            have HXB := Aside0.mk (blk_new w2 (.cells #[.int .i64 kk, .int .u8 cc, .int .u64 a0, .int .u64 a1, .int .u64 a2, .int .u64 a3, .bool ng] 100))
            have HC3 := Aside0.mk (HC2.out.below (below_alloc (Below.refl w2.heap.size w2) (.cells #[.int .i64 kk, .int .u8 cc, .int .u64 a0, .int .u64 a1, .int .u64 a2, .int .u64 a3, .bool ng] 100)))
            obtain ⟨gx, hgx⟩ : ∃ x, w2.heap.size = x := ⟨_, rfl⟩
            rw [hgx] at HXB ⊢
            obtain ⟨w3, hw3⟩ : ∃ x, w2.alloc (.cells #[.int .i64 kk, .int .u8 cc, .int .u64 a0, .int .u64 a1, .int .u64 a2, .int .u64 a3, .bool ng] 100) = x := ⟨_, rfl⟩
            rw [hw3] at HXB HC3 ⊢
            have HXN := Aside0.mk (show (SlE cu).ownBlock ≠ some gx from fun e => by have := (KRow.lt HC2.out.c e).2; omega)
            clear hgx hw3 HC2
            have x2 : w3.cell? ⟨gR, 2, none⟩ = some (.int .i64 ((n + 1 : Nat) : Int)) := blk_cell HC3.out.r 2
            by_cases c4 : 64 < n + 1
            · have g4 : decide (64 < ((n + 1 : Nat) : Int)) = true := decide_eq_true (by omega)
              have g4' : decide (64 < n + 1) = true := decide_eq_true (by omega)
              have HFIN := Aside0.mk (comp_none HRES.out HSY.out c4)
              go_wp2_with fail
              go_ret2
              exact ⟨HC3.out.k, .inl ⟨HFIN.out, rfl⟩⟩
            · have g4 : decide (64 < ((n + 1 : Nat) : Int)) = false := decide_eq_false (by omega)
              have g4' : decide (64 < n + 1) = false := decide_eq_false (by omega)
              obtain ⟨m, hm⟩ : ∃ m, D.length = m := ⟨_, rfl⟩
              have HM := Aside0.mk hm
              obtain ⟨A0, k0, hvc, hcap, _⟩ := HC3.out.o.sl (k := m + 1) (by rw [List.length_append, HC3.out.l, hm]; rfl)
              subst hvc
              rw [hm] at hdn
              obtain ⟨g9, o9, hA0, hg9, hg9b, hcl⟩ := HC3.out.o.get ((none, 0, 0) : Option Addr × Nat × Nat) (show (ds ++ [cu]).length = m + 1 by rw [List.length_append, HC3.out.l, hm]; rfl) (by omega)
              subst hA0
              obtain ⟨y1, f1⟩ := hcl m (by omega)
              rw [show (ds ++ [cu]).getD m (none, 0, 0) = cu by rw [List.getD_eq_getElem?_getD, List.getElem?_append_right (by rw [HC3.out.l, hm]; exact Nat.le_refl _), HC3.out.l, hm, Nat.sub_self]; rfl] at y1
              have x0 : w3.cell? ⟨gP, 0, none⟩ = some (.slice (some ⟨g9, o9, none⟩) (m + 1) k0) := blk_cell HC3.out.p 0
              have v1 : IntKind.i64.wrap (m : Int) = (m : Int) := by rw [IntKind.wrap_i64]; omega
              have v2 : IntKind.i64.wrap ((m : Int) + 1 - 1) = (m : Int) := by rw [IntKind.wrap_i64]; omega
              obtain ⟨cA, cn, ck⟩ := cu
              obtain ⟨r, hr0⟩ : ∃ r, C.length = r := ⟨_, rfl⟩
              have HRL := Aside0.mk hr0
              rw [hr0] at hdn
              obtain ⟨e1, e2, hcu⟩ := KRow.slice HC3.out.c hr0
              simp only [SlE, Value.slice.injEq] at hcu
              obtain ⟨rfl, rfl, rfl⟩ := hcu
              have y1' : w3.cell? ⟨g9, o9 + m, none⟩ = some (.slice cA cn ck) := y1
              have HD := Aside0.mk (HC3.out.below (below_drew (Below.refl w3.heap.size w3)))
              obtain ⟨A5, k5, w5, hr5, ho5, hk5⟩ := app_k (P := Try.prog) ptL_len ptL_one Try.underlying103 infoPt rfl (by decide) (ty := 103) p (cs := #[.int .i64 kk, .int .u8 cc, .int .u64 a0, .int .u64 a1, .int .u64 a2, .int .u64 a3, .bool ng]) (by rw [ptL, HPA.out]) (W := w3.drew) HD.out.c hr0 (HD.out.h.2) (by omega) (by omega)
              simp only [SlE] at hr5
              have HR5 := Aside0.mk hr5
              have mm1 : (m : Int) < (m : Int) + 1 := by omega
              have mm0 : (0 : Int) ≤ (m : Int) := by omega
              have hx5 : PaV w5 gP (.slice (some ⟨g9, o9, none⟩) (m + 1) k0) fold := hk5.blk HD.out.p (PRowC.og HD.out HD.out.c).1
              have z0 : w5.cell? ⟨gP, 0, none⟩ = some (.slice (some ⟨g9, o9, none⟩) (m + 1) k0) := blk_cell hx5 0
              have ho9 := HD.out.o.kp hk5 (fun k hk' e => (PRowC.og HD.out HD.out.c).2.2 k e hk')
              obtain ⟨g9', o9', hA9, _, _, hcl5⟩ := ho9.get ((none, 0, 0) : Option Addr × Nat × Nat) (show (ds ++ [(cA, cn, ck)]).length = m + 1 by rw [List.length_append, HC3.out.l, HM.out]; rfl) (by omega)
              cases hA9
              obtain ⟨z1, f5⟩ := hcl5 m (by omega)
              rw [show (ds ++ [(cA, cn, ck)]).getD m (none, 0, 0) = (cA, cn, ck) by rw [List.getD_eq_getElem?_getD, List.getElem?_append_right (by rw [HC3.out.l, HM.out]; exact Nat.le_refl _), HC3.out.l, HM.out, Nat.sub_self]; rfl] at z1
              have z1' : w5.cell? ⟨g9, o9 + m, none⟩ = some (.slice cA cn ck) := z1
              have hxx := hk5.blk (blk_drew HXB.out) (fun e => by have := (KRow.lt HC3.out.c e); exact HXN.out e)
              have q0 : (w3).cell? ⟨gx, 0, none⟩ = some (.int .i64 kk) := blk_cell HXB.out 0
              have q1 : (w3).cell? ⟨gx, 1, none⟩ = some (.int .u8 cc) := blk_cell HXB.out 1
              have q2 : (w3).cell? ⟨gx, 2, none⟩ = some (.int .u64 a0) := blk_cell HXB.out 2
              have q3 : (w3).cell? ⟨gx, 3, none⟩ = some (.int .u64 a1) := blk_cell HXB.out 3
              have q4 : (w3).cell? ⟨gx, 4, none⟩ = some (.int .u64 a2) := blk_cell HXB.out 4
              have q5 : (w3).cell? ⟨gx, 5, none⟩ = some (.int .u64 a3) := blk_cell HXB.out 5
              have q6 : (w3).cell? ⟨gx, 6, none⟩ = some (.bool ng) := blk_cell HXB.out 6
              have t0 : (w5).cell? ⟨gx, 0, none⟩ = some (.int .i64 kk) := blk_cell hxx 0
              have t1 : (w5).cell? ⟨gx, 1, none⟩ = some (.int .u8 cc) := blk_cell hxx 1
              have t2 : (w5).cell? ⟨gx, 2, none⟩ = some (.int .u64 a0) := blk_cell hxx 2
              have t3 : (w5).cell? ⟨gx, 3, none⟩ = some (.int .u64 a1) := blk_cell hxx 3
              have t4 : (w5).cell? ⟨gx, 4, none⟩ = some (.int .u64 a2) := blk_cell hxx 4
              have t5 : (w5).cell? ⟨gx, 5, none⟩ = some (.int .u64 a3) := blk_cell hxx 5
              have t6 : (w5).cell? ⟨gx, 6, none⟩ = some (.bool ng) := blk_cell hxx 6
              have HCB0 := Aside0.mk (show CoS w (w5.setCell ⟨g9, o9 + m, none⟩ (.slice A5 (cn + 1) k5)) hC gP gR L ((n + 1 : Nat) : Int) b fold (.slice (some ⟨g9, o9, none⟩) (m + 1) k0) ds (A5, cn + 1, k5) D (C ++ [p]) from HD.out.part (m := m) (cu' := (A5, cn + 1, k5)) HM.out ho5 hk5)
              clear hr5 ho5 hk5 hx5 ho9 hcl5 z1 y1 hxx hcl
              go_upto_region 13 with fail
              refine start_ (n := 17) (S := fun w' => w'.cell? ⟨gP, 0, none⟩ = some (.slice (some ⟨g9, o9, none⟩) (m + 1) k0) ∧ w'.cell? ⟨g9, o9 + m, none⟩ = some (.slice cA cn ck) ∧ w'.cell? ⟨gx, 0, none⟩ = some (.int .i64 kk) ∧ w'.cell? ⟨gx, 1, none⟩ = some (.int .u8 cc) ∧ w'.cell? ⟨gx, 2, none⟩ = some (.int .u64 a0) ∧ w'.cell? ⟨gx, 3, none⟩ = some (.int .u64 a1) ∧ w'.cell? ⟨gx, 4, none⟩ = some (.int .u64 a2) ∧ w'.cell? ⟨gx, 5, none⟩ = some (.int .u64 a3) ∧ w'.cell? ⟨gx, 6, none⟩ = some (.bool ng)) (ds := [16]) #[false, false, false, false, false, false, false, false, false, false, false, false, false, false, false, false, false] (by kernel_rfl) rfl rfl ⟨x0, y1', q0, q1, q2, q3, q4, q5, q6⟩ (fun hHeld => ?_)
              refine pure_ (i := 0) (N := some 70) (v := ?_) (a' := ?_) #[true, false, false, false, false, false, false, false, false, false, false, false, false, false, false, false, false] rfl rfl (by kernel_rfl) (fun _ _ _ h => h) (Or.inl ⟨by rfl, ?_⟩) ?_ ?_
              rotate_left
              · intro w'
                go_simp
                with_reducible rfl
              rotate_left
              · simp only [Act.put, List.setIfInBounds_toArray, List.set_cons_zero, List.set_cons_succ, i64_w, i32_w]
                rfl
              refine pure_ (i := 1) (N := some 71) (v := ?_) (a' := ?_) #[true, true, false, false, false, false, false, false, false, false, false, false, false, false, false, false, false] rfl rfl (by kernel_rfl) (fun _ _ _ h => h) (Or.inl ⟨by rfl, ?_⟩) ?_ ?_
              rotate_left
              · intro w'
                go_simp
                with_reducible rfl
              rotate_left
              · simp only [Act.put, List.setIfInBounds_toArray, List.set_cons_zero, List.set_cons_succ, i64_w, i32_w]
                rfl
              refine pure_ (i := 2) (N := some 72) (v := ?_) (a' := ?_) #[true, true, true, false, false, false, false, false, false, false, false, false, false, false, false, false, false] rfl rfl (by kernel_rfl) (fun _ _ _ h => h) (Or.inl ⟨by rfl, ?_⟩) ?_ ?_
              rotate_left
              · intro w'
                go_simp
                with_reducible rfl
              rotate_left
              · simp only [Act.put, List.setIfInBounds_toArray, List.set_cons_zero, List.set_cons_succ, i64_w, i32_w]
                rfl
              refine pure_ (i := 4) (N := some 74) (v := ?_) (a' := ?_) #[true, true, true, false, true, false, false, false, false, false, false, false, false, false, false, false, false] rfl rfl (by kernel_rfl) (fun _ _ _ h => h) (Or.inl ⟨by rfl, ?_⟩) ?_ ?_
              rotate_left
              · intro w'
                go_simp
                with_reducible rfl
              rotate_left
              · simp only [Act.put, List.setIfInBounds_toArray, List.set_cons_zero, List.set_cons_succ, i64_w, i32_w]
                rfl
              refine pure_ (i := 5) (N := some 75) (v := ?_) (a' := ?_) #[true, true, true, false, true, true, false, false, false, false, false, false, false, false, false, false, false] rfl rfl (by kernel_rfl) (fun _ _ _ h => h) (Or.inl ⟨by rfl, ?_⟩) ?_ ?_
              rotate_left
              · intro w'
                go_simp
                with_reducible rfl
              rotate_left
              · simp only [Act.put, List.setIfInBounds_toArray, List.set_cons_zero, List.set_cons_succ, i64_w, i32_w]
                rfl
              refine pure_ (i := 6) (N := some 76) (v := ?_) (a' := ?_) #[true, true, true, false, true, true, true, false, false, false, false, false, false, false, false, false, false] rfl rfl (by kernel_rfl) (fun _ _ _ h => h) (Or.inl ⟨by rfl, ?_⟩) ?_ ?_
              rotate_left
              · intro w'
                go_simp
                with_reducible rfl
              rotate_left
              · simp only [Act.put, List.setIfInBounds_toArray, List.set_cons_zero, List.set_cons_succ, i64_w, i32_w]
                rfl
              refine pure_ (i := 7) (N := some 77) (v := ?_) (a' := ?_) #[true, true, true, false, true, true, true, true, false, false, false, false, false, false, false, false, false] rfl rfl (by kernel_rfl) (fun _ _ _ h => h) (Or.inl ⟨by rfl, ?_⟩) ?_ ?_
              rotate_left
              · intro w'
                go_simp
                with_reducible rfl
              rotate_left
              · simp only [Act.put, List.setIfInBounds_toArray, List.set_cons_zero, List.set_cons_succ, i64_w, i32_w]
                rfl
              refine pure_ (i := 9) (N := some 79) (v := ?_) (a' := ?_) #[true, true, true, false, true, true, true, true, false, true, false, false, false, false, false, false, false] rfl rfl (by kernel_rfl) (fun _ _ _ h => h) (Or.inl ⟨by rfl, ?_⟩) ?_ ?_
              rotate_left
              · intro w'
                go_simp
                with_reducible rfl
              rotate_left
              · simp only [Act.put, List.setIfInBounds_toArray, List.set_cons_zero, List.set_cons_succ, i64_w, i32_w]
                rfl
              refine take_ (i := 3) (N := some 73) (v := ?_) (a' := ?_) #[true, true, true, true, true, true, true, true, false, true, false, false, false, false, false, false, false] rfl rfl (by kernel_rfl) (fun _ _ _ h => h) (Or.inl ⟨by rfl, ?_⟩) hHeld ?_ ?_
              rotate_left
              · rintro w' ⟨s0, s1, s2, s3, s4, s5, s6, s7, s8⟩
                go_simp
                with_reducible rfl
              rotate_left
              · simp only [Act.put, List.setIfInBounds_toArray, List.set_cons_zero, List.set_cons_succ, i64_w, i32_w]
                rfl
              refine take_ (i := 8) (N := some 78) (v := ?_) (a' := ?_) #[true, true, true, true, true, true, true, true, true, true, false, false, false, false, false, false, false] rfl rfl (by kernel_rfl) (fun _ _ _ h => h) (Or.inl ⟨by rfl, ?_⟩) hHeld ?_ ?_
              rotate_left
              · rintro w' ⟨s0, s1, s2, s3, s4, s5, s6, s7, s8⟩
                go_simp
                with_reducible rfl
              rotate_left
              · simp only [Act.put, List.setIfInBounds_toArray, List.set_cons_zero, List.set_cons_succ, i64_w, i32_w]
                rfl
              refine pure_ (i := 10) (N := some 80) (v := ?_) (a' := ?_) #[true, true, true, true, true, true, true, true, true, true, true, false, false, false, false, false, false] rfl rfl (by kernel_rfl) (fun _ _ _ h => h) (Or.inl ⟨by rfl, ?_⟩) ?_ ?_
              rotate_left
              · intro w'
                go_simp
                with_reducible rfl
              rotate_left
              · simp only [Act.put, List.setIfInBounds_toArray, List.set_cons_zero, List.set_cons_succ, i64_w, i32_w]
                rfl
              refine take_ (i := 11) (N := some 81) (v := ?_) (a' := ?_) #[true, true, true, true, true, true, true, true, true, true, true, true, false, false, false, false, false] rfl rfl (by kernel_rfl) (fun _ _ _ h => h) (Or.inl ⟨by rfl, ?_⟩) hHeld ?_ ?_
              rotate_left
              · rintro w' ⟨s0, s1, s2, s3, s4, s5, s6, s7, s8⟩
                go_simp
                with_reducible rfl
              rotate_left
              · simp only [Act.put, List.setIfInBounds_toArray, List.set_cons_zero, List.set_cons_succ, i64_w, i32_w]
                rfl
              refine take_ (i := 12) (N := some 82) (v := ?_) (a' := ?_) #[true, true, true, true, true, true, true, true, true, true, true, true, true, false, false, false, false] rfl rfl (by kernel_rfl) (fun _ _ _ h => h) (Or.inl ⟨by rfl, ?_⟩) hHeld ?_ ?_
              rotate_left
              · rintro w' ⟨s0, s1, s2, s3, s4, s5, s6, s7, s8⟩
                go_simp
                with_reducible rfl
              rotate_left
              · simp only [Act.put, List.setIfInBounds_toArray, List.set_cons_zero, List.set_cons_succ, i64_w, i32_w]
                rfl
              refine one_ (i := 13) (N := some 83) #[true, true, true, true, true, true, true, true, true, true, true, true, true, true, false, false, false] rfl rfl (by kernel_rfl) (by decide) (fun K hK => ?_)
              refine value_ (w1 := ?_) (v := ?_) (by rfl) rfl ?_ ?_
              rotate_left 2
              · go_simp
                constructor
                · rfl
                · rfl
              refine hK.out _ _ ⟨(pw_cell_below (below_alloc (Below.refl _ _) _) hHeld.1), (pw_cell_below (below_alloc (Below.refl _ _) _) hHeld.2.1), (pw_cell_below (below_alloc (Below.refl _ _) _) hHeld.2.2.1), (pw_cell_below (below_alloc (Below.refl _ _) _) hHeld.2.2.2.1), (pw_cell_below (below_alloc (Below.refl _ _) _) hHeld.2.2.2.2.1), (pw_cell_below (below_alloc (Below.refl _ _) _) hHeld.2.2.2.2.2.1), (pw_cell_below (below_alloc (Below.refl _ _) _) hHeld.2.2.2.2.2.2.1), (pw_cell_below (below_alloc (Below.refl _ _) _) hHeld.2.2.2.2.2.2.2.1), (pw_cell_below (below_alloc (Below.refl _ _) _) hHeld.2.2.2.2.2.2.2.2)⟩ (fun hHeld => ?_)
              clear hK K
              refine norm_ (a' := ?_) ?_ ?_
              rotate_left
              · show Act.put _ (some 83) _ = _
                simp only [Act.put, List.setIfInBounds_toArray, List.set_cons_zero, List.set_cons_succ, i64_w, i32_w]
                rfl
              refine one_ (i := 14) (N := some 84) #[true, true, true, true, true, true, true, true, true, true, true, true, true, true, true, false, false] rfl rfl (by kernel_rfl) (by decide) (fun K hK => ?_)
              refine app_step (by rfl) (.tmp 81) (.tmp 83) rfl rfl rfl HR5.out ?_
              refine hK.out _ _ ⟨z0, z1', t0, t1, t2, t3, t4, t5, t6⟩ (fun hHeld => ?_)
              clear hK K
              refine norm_ (a' := ?_) ?_ ?_
              rotate_left
              · show Act.put _ (some 84) _ = _
                simp only [Act.put, List.setIfInBounds_toArray, List.set_cons_zero, List.set_cons_succ, i64_w, i32_w]
                rfl
              refine pure_ (i := 15) (N := some 85) (v := ?_) (a' := ?_) #[true, true, true, true, true, true, true, true, true, true, true, true, true, true, true, true, false] rfl rfl (by kernel_rfl) (fun _ _ _ h => h) (Or.inl ⟨by rfl, ?_⟩) ?_ ?_
              rotate_left
              · intro w'
                go_simp
                with_reducible rfl
              rotate_left
              · simp only [Act.put, List.setIfInBounds_toArray, List.set_cons_zero, List.set_cons_succ, i64_w, i32_w]
                rfl
              refine last_ (i := 16) (N := none) #[true, true, true, true, true, true, true, true, true, true, true, true, true, true, true, true, true] rfl rfl (by kernel_rfl) (by decide) (fun K hK => ?_)
              refine skip_ (w1 := ?_) (by rfl) rfl ?_ ?_
              rotate_left
              · go_simp
                rfl
              refine hK.out _ _ ?_
              clear hK K
              refine done_ (by kernel_rfl) ?_
              obtain ⟨w6, hw6⟩ : ∃ x, w5.setCell ⟨g9, o9 + m, none⟩ (.slice A5 (cn + 1) k5) = x := ⟨_, rfl⟩
              rw [hw6] at HCB0 ⊢
              have HCB2 := HCB0
              clear hw6 x0 y1' x2 z0 z1' f1 f5 g4 g4' v1 v2 mm1 mm0 q0 q1 q2 q3 q4 q5 q6 t0 t1 t2 t3 t4 t5 t6
              go_wp2_with fail
              with_reducible refine (pNext_calls _ gR L b ((n + 1 : Nat) : Int) HCB2.out.r HIB.out HL.out (by rw [HN.out]; omega)).mono ?_
              rintro e w9 ⟨rfl, hr, hk⟩
              have HC9 := Aside0.mk (HCB2.out.next hr hk)
              clear hr hk
              rw [HN.out]
              go_wp2_with fail
              go_roundg (gk - 1)
              case measure => omega
              case rel => exact ⟨b, f', n + 1, _, _, _, _, _, _, rfl, rfl, by omega, by omega, by rw [List.length_append, HM.out, HRL.out]; simp; omega, by omega, by omega, HSY, HC9⟩
      · have g1 : decide (q < N) = false := decide_eq_false c1
        have hd : L.drop q = [] := List.drop_eq_nil_of_le (by rw [HN.out]; omega)
        obtain ⟨f', rfl⟩ : ∃ f', f = f' + 1 := ⟨f - 1, by omega⟩
        have hsx := HS.out
        rw [patP, if_pos hd] at hsx
        have HCM := Aside0.mk (show compP L = if n ≤ 64 then some (D ++ [C]) else none by rw [compP, HRES.out, ← hsx])
        clear hsx hd HS
        go_wp2_with fail
        go_meet
        exact ⟨n, hC, vc, ds, cu, D, C, nxA L q, by omega, HCM, HCS⟩
  case rest =>
  obtain ⟨n, hC, vc, ds, cu, D, C, b, hnN, HCM, HCS⟩ := hcut
  have x2 : wc.cell? ⟨gR, 2, none⟩ = some (.int .i64 (n : Int)) := blk_cell HCS.out.r 2
  by_cases c : n ≤ 64
  · have g1 : (64 < (n : Int)) = False := by simp; omega
    rw [if_pos c] at HCM
    go_wp2_with fail
    go_ret2
    exact ⟨HCS.out.k, .inr ⟨gP, _, HCM.out, rfl, HCS.out.pat⟩⟩
  · have g1 : (64 < (n : Int)) = True := by simp; omega
    rw [if_neg c] at HCM
    go_wp2_with fail
    go_ret2
    exact ⟨HCS.out.k, .inl ⟨HCM.out, rfl⟩⟩
end Go.Proofs.Ytplmdgimodgekaa
