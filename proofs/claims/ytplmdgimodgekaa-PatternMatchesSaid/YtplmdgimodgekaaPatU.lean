/- Patterns: the document's Compile, its walk. -/
import Derived.Test.YtplmdgimodgekaaPatT
namespace Go.Proofs.Ytplmdgimodgekaa
open Go.RowKit Go.Proofs.YtplmdgimodgekaaW.PrintWords Go.Proofs.YtplmdgimodgekaaW.PrintLast Go.Proofs.YtplmdgimodgekaaW.PrintMore
attribute [local go_sem] max2_int min2_int max_two min_two max_three min_three max_four min_four   -- for this text's walks alone
set_option linter.unusedVariables false
set_option linter.unusedSimpArgs false

def RCmD (w w' : World) (L : List Int) (e : Ending) : Prop := Below w.heap.size w w' ∧ ((compP L = none ∧ e = .returned (.tuple #[.slice none 0 0, .bool false])) ∨ ∃ v xs, compP L = some (xs.map fun l => l.map fun x : PtX => x.1) ∧ e = .returned (.tuple #[v, .bool true]) ∧ RfP w' v xs)
def fsts (C : List PtX) : List Pt := C.map fun x => x.1
theorem fsts_app (C : List PtX) (x : PtX) : fsts (C ++ [x]) = fsts C ++ [x.1] := by simp [fsts]
theorem fsts2_app (D : List (List PtX)) (C : List PtX) : (D ++ [C]).map fsts = D.map fsts ++ [fsts C] := by simp
theorem RCo.own {w W W1 : World} {hC gR gx : Nat} {L : List Int} {n : Int} {b : Nat} {bad : Bool} {vc : Value} {ds : List (Option Addr × Nat × Nat)} {cu : Option Addr × Nat × Nat} {D : List (List PtX)} {C : List PtX} {cs : Array Value} (h : RCo w W hC gR L n b bad vc ds cu D C) (hx : W.heap[gx]? = some (.cells cs 109 (0, 0))) (h1 : hC ≤ gx) (hcu : (SlE cu).ownBlock ≠ some gx) (hk : Kp (fun k => k = gx) W W1) : RCo w W1 hC gR L n b bad vc ds cu D C := by
  have hgR : gR ≠ gx := fun e => by
    have h2 := h.r
    unfold RfV at h2
    rw [e, hx] at h2
    injection h2 with h2
    injection h2 with _ h2
    exact absurd h2 (by decide)
  exact ⟨hk.blk h.r hgR, h.o.kp hk (fun k hk' e => h.o.ne hx (by decide) (by rw [hk', show k = gx from e])), h.l, fun j hj => ⟨KRow.kp (h.d j hj).1 hk (fun k hk' e => by have := (h.d j hj).2 k hk'; have : k = gx := e; omega), (h.d j hj).2⟩, KRow.kp h.c hk (fun k hk' e => hcu (by rw [hk', show k = gx from e])), ⟨h.h.1, Nat.le_trans h.h.2 hk.size⟩, h.g, Kp.from h.k hk (fun k hk' => by have := h.h.1; have : k = gx := hk'; omega), fun hb' l hl x hxx => (h.s hb' l hl x hxx).kp hk (fun b ys hy e => hy.tne hx (by decide) e)⟩
theorem part_b2 (l : List Int) : partP (91 :: l) = setQ l := rfl
theorem part_c2 {c : Int} (l : List Int) (h1 : c ≠ 63) (h2 : c ≠ 42) (h3 : c ≠ 91) {d : Int} {r : List Int} {ok : Bool} (h : litP (c :: l) = if ok = true then some (d, r) else none) : partP (c :: l) = if ok = true then some (⟨0, d, [], false⟩, r) else none := by
  rw [partP, if_neg (by simpa using h1), if_neg (by simpa using h2), if_neg (by simpa using h3), h]
  cases ok <;> rfl
theorem comp_res {L : List Int} {n : Nat} {ch : List (List Pt)} {R : Option (List (List Pt) × Nat)} (h : patP (L.length + 1) L 0 [] [] = R) (h2 : R = some (ch, n)) : compP L = if n ≤ 64 then some ch else none := by
  rw [compP, h, h2]
theorem comp_bad {L : List Int} {R : Option (List (List Pt) × Nat)} (h : patP (L.length + 1) L 0 [] [] = R) (h2 : R = none) : compP L = none := by
  rw [compP, h, h2]
set_option maxHeartbeats 8000000 in
set_option maxRecDepth 100000 in
theorem rCompile_calls (w : World) (L : List Int) (hib : isB L) (hL : L.length ≤ 100000) :
    Calls Try.prog 17 #[.string (strOfNums L)] w fun e w' => RCmD w w' L e := by
  have HIB := Aside0.mk hib
  have HL := Aside0.mk hL
  obtain ⟨N, hN⟩ : ∃ N, L.length = N := ⟨_, rfl⟩
  have HN := Aside0.mk hN
  have hsz : (strOfNums L).size = N := by rw [strOf_size]; exact hN
  rw [hN] at hL
  have s1 : (w.alloc (.cells #[.string (strOfNums L), .int .i64 0, .int .i64 0, .bool false] 106)).heap.size = w.heap.size + 1 := Array.size_push _
  have s2 : ((w.alloc (.cells #[.string (strOfNums L), .int .i64 0, .int .i64 0, .bool false] 106)).alloc (.cells #[.slice none 0 0] 112)).heap.size = w.heap.size + 2 := by rw [show ((w.alloc (.cells #[.string (strOfNums L), .int .i64 0, .int .i64 0, .bool false] 106)).alloc (.cells #[.slice none 0 0] 112)).heap.size = (w.alloc (.cells #[.string (strOfNums L), .int .i64 0, .int .i64 0, .bool false] 106)).heap.size + 1 from Array.size_push _, s1]
  have HCS := Aside0.mk (show RCo w ((w.alloc (.cells #[.string (strOfNums L), .int .i64 0, .int .i64 0, .bool false] 106)).alloc (.cells #[.slice none 0 0] 112)) (w.heap.size + 2) w.heap.size L 0 0 false (.slice (some ⟨w.heap.size + 1, 0, none⟩) 1 1) [] (none, 0, 0) [] [] from by
    have b2 := below_alloc (Below.refl _ _) (.cells #[.slice none 0 0] 112) (w := (w.alloc (.cells #[.string (strOfNums L), .int .i64 0, .int .i64 0, .bool false] 106)))
    refine ⟨?_, ?_, rfl, fun j hj => by simp at hj, KRow.nil _ _, ⟨by omega, by rw [s2]; exact Nat.le_refl _⟩, Nat.le_refl _, below_alloc (below_alloc (Below.refl _ _) _) _, fun _ l hl x hx => by simp at hl; subst hl; cases hx⟩
    · exact blk_below (blk_new w (.cells #[.string (strOfNums L), .int .i64 0, .int .i64 0, .bool false] 106)) b2
    · have := OwnO.of_own (own_lit_of (enc := SlE) (w.alloc (.cells #[.string (strOfNums L), .int .i64 0, .int .i64 0, .bool false] 106)) w.heap.size 112 [(none, 0, 0)] (by omega) (by simp))
      rw [s1] at this
      exact this)
  clear s1 s2 hib hN
  go_enter Try.func17, Try.ntmps17
  go_upto_block 0 with (fail)
  obtain ⟨wx, hwx⟩ : ∃ wx, ((w.alloc (.cells #[.string (strOfNums L), .int .i64 0, .int .i64 0, .bool false] 106)).alloc (.cells #[.slice none 0 0] 112)) = wx := ⟨_, rfl⟩
  rw [hwx] at HCS ⊢
  obtain ⟨gR, hg⟩ : ∃ g, w.heap.size = g := ⟨_, rfl⟩
  have HGR := Aside0.mk hg
  rw [hg] at HCS ⊢
  obtain ⟨vc, hvc⟩ : ∃ v, Value.slice (some ⟨gR + 1, 0, none⟩) 1 1 = v := ⟨_, rfl⟩
  rw [hvc] at HCS ⊢
  obtain ⟨RES, hRES⟩ : ∃ R, patP (L.length + 1) L 0 [] [] = R := ⟨_, rfl⟩
  have HRES := Aside0.mk hRES
  clear hwx hg hvc hRES
  go_cut [5] (fun v5 w' => ∃ (q n hC : Nat) (vc : Value) (ds : List (Option Addr × Nat × Nat)) (cu : Option Addr × Nat × Nat) (D : List (List PtX)) (C : List PtX) (bad : Bool), v5 = vc ∧ n ≤ N ∧ Aside0 (RCo w w' hC gR L n q bad vc ds cu D C) ∧ ((bad = true ∧ Aside0 (RES = none)) ∨ (bad = false ∧ Aside0 (RES = some ((D ++ [C]).map fsts, n)))))
  case first =>
    go_wp2_with fail
    go_loopg [5] (N + 3) (fun kq v5 w' => ∃ (q n hC : Nat) (vc : Value) (ds : List (Option Addr × Nat × Nat)) (cu : Option Addr × Nat × Nat) (D : List (List PtX)) (C : List PtX) (bad : Bool), v5 = vc ∧ q ≤ N ∧ n ≤ q ∧ Aside0 (RCo w w' hC gR L n q bad vc ds cu D C) ∧ ((bad = true ∧ Aside0 (RES = none)) ∨ (bad = false ∧ D.length + C.length ≤ n ∧ N + 3 ≤ q + kq ∧ ∃ f, N < q + f ∧ Aside0 (patP f (L.drop q) n (D.map fsts) (fsts C) = RES))))
    case atStart => exact ⟨0, 0, _, vc, [], (none, 0, 0), [], [], false, rfl, Nat.zero_le _, Nat.le_refl _, HCS, .inr ⟨rfl, Nat.le_refl _, by omega, L.length + 1, by rw [HN.out]; omega, Aside0.mk (by rw [List.drop_zero]; exact HRES.out)⟩⟩
    case round =>
      clear HCS
      obtain ⟨q, n, hC, vc, ds, cu, D, C, bad, rfl, hqN, hnq, HCS, hcase⟩ := hrel
      have x0 := HCS.out.r.c0
      have x1 := HCS.out.r.c1
      have x3 := HCS.out.r.c3
      rcases hcase with ⟨rfl, HRN⟩ | ⟨rfl, hdn, hqk, f, hqf, HS⟩
      · by_cases c1 : q < N
        · have g1 : decide ((q : Int) < (N : Int)) = true := decide_eq_true (by omega)
          have g1' : decide (q < N) = true := decide_eq_true c1
          go_wp2_with fail
          go_meet
          exact ⟨q, n, hC, u5, ds, cu, D, C, true, rfl, by omega, HCS, .inl ⟨rfl, HRN⟩⟩
        · have g1 : decide ((q : Int) < (N : Int)) = false := decide_eq_false (by omega)
          have g1' : decide (q < N) = false := decide_eq_false c1
          go_wp2_with fail
          go_meet
          exact ⟨q, n, hC, u5, ds, cu, D, C, true, rfl, by omega, HCS, .inl ⟨rfl, HRN⟩⟩
      · obtain ⟨f', rfl⟩ : ∃ f', f = f' + 1 := ⟨f - 1, by omega⟩
        by_cases c1 : q < N
        · have g1 : decide ((q : Int) < (N : Int)) = true := decide_eq_true (by omega)
          have g1' : decide (q < N) = true := decide_eq_true c1
          have hne : L.drop q ≠ [] := fun e => by have := congrArg List.length e; rw [List.length_drop, HN.out] at this; simp at this; omega
          have hix := fun (W : World) => str_at L HIB.out q (q : Int) rfl (by rw [HN.out]; exact c1) W
          have hsx := HS.out
          rw [patP, if_neg hne, List.getD_eq_getElem?_getD, List.getElem?_drop, Nat.add_zero, ← List.getD_eq_getElem?_getD, List.drop_drop] at hsx
          obtain ⟨c, hc⟩ : ∃ c, L.getD q 0 = c := ⟨_, rfl⟩
          rw [hc] at hsx hix
          have HSX := Aside0.mk hsx
          have HDR := Aside0.mk (show L.drop q = c :: L.drop (q + 1) by
            have hl : q < L.length := by rw [HN.out]; exact c1
            rw [List.drop_eq_getElem_cons hl, ← hc, List.getD_eq_getElem?_getD, List.getElem?_eq_getElem hl]; rfl)
          have v1 : IntKind.i64.wrap ((n : Int) + 1) = (n : Int) + 1 := by rw [IntKind.wrap_i64]; omega
          have x2 := HCS.out.r.c2
          have f2 := HCS.out.r.fz 2
          clear HS hsx hc hne
          go_upto_region 6 with fail
          have HC2 := Aside0.mk (HCS.out.next (b' := q) (n' := ((n + 1 : Nat) : Int)) (by have := HCS.out.r.s2 ((n : Int) + 1); exact this) (Kp.set wr ⟨gR, 2, none⟩ (.int .i64 ((n : Int) + 1))) id)
          obtain ⟨w2, hw2⟩ : ∃ x, wr.setCell ⟨gR, 2, none⟩ (.int .i64 ((n : Int) + 1)) = x := ⟨_, rfl⟩
          rw [hw2] at HC2 ⊢
          clear hw2 x0 x1 x2 x3 f2 v1 hix g1 g1' HCS
          have x1 := HC2.out.r.c1
          have f1 := HC2.out.r.fz 1
          have v1 : IntKind.i64.wrap ((q : Int) + 1) = (q : Int) + 1 := by rw [IntKind.wrap_i64]; omega
          by_cases c2 : c = 124
          · subst c2
            go_upto_region 8 with fail
            have HC3 := Aside0.mk (HC2.out.next (b' := q + 1) (by have := HC2.out.r.s1 ((q : Int) + 1); exact this) (Kp.set w2 ⟨gR, 1, none⟩ (.int .i64 ((q : Int) + 1))) id)
            obtain ⟨w3, hw3⟩ : ∃ x, w2.setCell ⟨gR, 1, none⟩ (.int .i64 ((q : Int) + 1)) = x := ⟨_, rfl⟩
            rw [hw3] at HC3 ⊢
            clear hw3 x1 f1 v1
            obtain ⟨A0, k0, hvc, hcap, _⟩ := HC3.out.o.sl (k := D.length + 1) (by rw [List.length_append, HC3.out.l]; rfl)
            subst hvc
            obtain ⟨A1, k1, w4, hr4, ho4, hk4, _⟩ := app_lits (P := Try.prog) (d := ((none, 0, 0) : Option Addr × Nat × Nat)) oneSl Try.underlying28 infoSl4 rfl (by omega) (ty := 28) [(none, 0, 0)] (cs := #[.slice none 0 0]) (k := D.length + 1) (m := 1) rfl HC3.out.o (by rw [List.length_append, HC3.out.l]; rfl) rfl HC3.out.k.size (by omega)
            have HR4 := Aside0.mk hr4
            have HC4 := Aside0.mk (HC3.out.bar ho4 hk4)
            clear hr4 ho4 hk4
            go_wp2_with (first | ((with_reducible refine gate_builtin (b := .append) (xs := #[.tmp 49, .tmp 50]) rfl ?_); at_builtin; refine app_list rfl (.tmp 49) (.tmp 50) rfl rfl rfl HR4.out ?_) | fail)
            go_roundg (gk - 1)
            case measure => omega
            case rel => exact ⟨q + 1, n + 1, _, _, _, _, _, _, false, rfl, by omega, by omega, HC4, .inr ⟨rfl, by simp; omega, by omega, f', by omega, Aside0.mk (by have := HSX.out; rw [fsts2_app]; show patP f' (L.drop (q + 1)) (n + 1) (D.map fsts ++ [fsts C]) [] = RES; simpa using this)⟩⟩
          · have g2 : (c == 124) = false := by simpa using c2
            rw [if_neg c2, HDR.out] at HSX
            have E2 := Aside0.mk c2
            clear c2
            go_upto_region 10 with fail
            have HXB := Aside0.mk (blk_new w2 (.cells #[.int .i64 0, .int .u8 0, .slice none 0 0, .bool false] 109))
            have HC3 := Aside0.mk (HC2.out.below (below_alloc (Below.refl w2.heap.size w2) (.cells #[.int .i64 0, .int .u8 0, .slice none 0 0, .bool false] 109)))
            have HKX := Aside0.mk (show (SlE cu).ownBlock ≠ some w2.heap.size from fun e => by have := (KRow.lt HC2.out.c e).2; omega)
            obtain ⟨gx, hgx⟩ : ∃ x, w2.heap.size = x := ⟨_, rfl⟩
            have HGX := Aside0.mk (show gR < gx by rw [← hgx]; exact blk_lt HC2.out.r)
            have HGW := Aside0.mk (show w.heap.size ≤ gx by rw [← hgx]; exact HC2.out.k.size)
            have HCG := Aside0.mk (show hC ≤ gx by rw [← hgx]; exact HC2.out.h.2)
            rw [hgx] at HXB HKX ⊢
            obtain ⟨w3, hw3⟩ : ∃ x, w2.alloc (.cells #[.int .i64 0, .int .u8 0, .slice none 0 0, .bool false] 109) = x := ⟨_, rfl⟩
            rw [hw3] at HXB HC3 ⊢
            clear hgx hw3 HC2 x1 f1 g2
            obtain ⟨bq, hbq⟩ : ∃ x, (c == 63 || c == 42) = x := ⟨_, rfl⟩
            have HBQ := Aside0.mk hbq
            clear hbq
            go_cut [58] (fun v58 wx => v58 = .bool bq ∧ w3 = wx)
            case first =>
              by_cases c3 : c = 63
              · have g3 : (c == 63) = true := by simpa using c3
                have HG := Aside0.mk (show bq = true by rw [← HBQ.out, g3]; rfl)
                clear c3
                go_wp2_with fail
                go_meet
                exact ⟨by rw [HG.out], rfl⟩
              · have g3 : (c == 63) = false := by simpa using c3
                by_cases c4 : c = 42
                · have g4 : (c == 42) = true := by simpa using c4
                  have HG := Aside0.mk (show bq = true by rw [← HBQ.out, g3, g4]; rfl)
                  clear c3 c4
                  go_wp2_with fail
                  go_meet
                  exact ⟨by rw [HG.out], rfl⟩
                · have g4 : (c == 42) = false := by simpa using c4
                  have HG := Aside0.mk (show bq = false by rw [← HBQ.out, g3, g4]; rfl)
                  clear c3 c4
                  go_wp2_with fail
                  go_meet
                  exact ⟨by rw [HG.out], rfl⟩
            case rest =>
            obtain ⟨rfl, rfl⟩ := hcut
            go_upto_if 58 with fail
            go_cut [] (fun wx => ∃ (x : PtX) (ok : Bool) (b : Nat) (kk cc : Int) (sA : Option Addr) (sn sk : Nat) (ng : Bool), Aside0 (enc4 x = [.int .i64 kk, .int .u8 cc, .slice sA sn sk, .bool ng]) ∧ q ≤ b ∧ b ≤ N ∧ q < b ∧ Aside0 (wx.heap[gx]? = some (.cells #[.int .i64 kk, .int .u8 cc, .slice sA sn sk, .bool ng] 109 (0, 0))) ∧ Aside0 (partP (c :: L.drop (q + 1)) = if ok = true then some (x.1, L.drop b) else none) ∧ Aside0 (ok = true → SetOk wx w.heap.size x) ∧ Aside0 (RCo w wx hC gR L ((n + 1 : Nat) : Int) b (!ok) u5 ds cu D C))
            case first =>
              have y0 : w3.cell? ⟨gx, 0, none⟩ = some (.int .i64 0) := blk_cell HXB.out 0
              have f0 : w3.frozen? ⟨gx, 0, none⟩ = false := blk_frozen HXB.out 0
              cases bq with
              | true =>
                go_upto_region 12 with fail
                have HKs := Aside0.mk (Kp.set w3 ⟨gx, 0, none⟩ (.int .i64 1))
                have HX4 := Aside0.mk (show (w3.setCell ⟨gx, 0, none⟩ (.int .i64 1)).heap[gx]? = some (.cells #[.int .i64 1, .int .u8 0, .slice none 0 0, .bool false] 109 (0, 0)) by have := blk_set HXB.out 0 (.int .i64 1); exact this)
                have HC4 := Aside0.mk (HC3.out.own HXB.out HCG.out HKX.out HKs.out)
                obtain ⟨w4, hnw⟩ : ∃ x, w3.setCell ⟨gx, 0, none⟩ (.int .i64 1) = x := ⟨_, rfl⟩
                rw [hnw] at HX4 HC4 ⊢
                clear hnw HKs
                clear y0 f0
                have y0 : w4.cell? ⟨gx, 0, none⟩ = some (.int .i64 1) := blk_cell HX4.out 0
                have f0 : w4.frozen? ⟨gx, 0, none⟩ = false := blk_frozen HX4.out 0
                by_cases c4 : c = 42
                · have g4 : (c == 42) = true := by simpa using c4
                  have E4 := Aside0.mk c4
                  clear c4
                  go_upto_region 14 with fail
                  have HKs := Aside0.mk (Kp.set w4 ⟨gx, 0, none⟩ (.int .i64 2))
                  have HX5 := Aside0.mk (show (w4.setCell ⟨gx, 0, none⟩ (.int .i64 2)).heap[gx]? = some (.cells #[.int .i64 2, .int .u8 0, .slice none 0 0, .bool false] 109 (0, 0)) by have := blk_set HX4.out 0 (.int .i64 2); exact this)
                  have HC5 := Aside0.mk (HC4.out.own HX4.out HCG.out HKX.out HKs.out)
                  obtain ⟨w5, hnw⟩ : ∃ x, w4.setCell ⟨gx, 0, none⟩ (.int .i64 2) = x := ⟨_, rfl⟩
                  rw [hnw] at HX5 HC5 ⊢
                  clear hnw HKs
                  clear y0 f0 g4
                  have x1 := HC5.out.r.c1
                  have f1 := HC5.out.r.fz 1
                  have HRN := Aside0.mk (show RfV (w5.setCell ⟨gR, 1, none⟩ (.int .i64 ((q : Int) + 1))) gR L ((q + 1 : Nat) : Int) ((n + 1 : Nat) : Int) false by have := HC5.out.r.s1 ((q : Int) + 1); exact this)
                  have HKN := Aside0.mk (Kp.set w5 ⟨gR, 1, none⟩ (.int .i64 ((q : Int) + 1)))
                  have HXN := Aside0.mk (HKN.out.blk HX5.out (fun e => by have := HGX.out; have : gx = gR := e; omega))
                  have HCN := Aside0.mk (HC5.out.next HRN.out HKN.out id)
                  go_wp2_with fail
                  go_meet
                  exact ⟨(⟨2, 0, [], false⟩, (none, 0, 0)), true, q + 1, 2, 0, none, 0, 0, false, Aside0.mk rfl, by omega, by omega, by omega, HXN, Aside0.mk (by rw [E4.out]; rfl), Aside0.mk (fun _ h => by cases h), HCN⟩
                · have g4 : (c == 42) = false := by simpa using c4
                  have E4 := Aside0.mk (show c = 63 by
                    have := HBQ.out
                    rw [g4, Bool.or_false, beq_iff_eq] at this
                    exact this)
                  clear c4
                  go_upto_region 14 with fail
                  clear y0 f0 g4
                  have x1 := HC4.out.r.c1
                  have f1 := HC4.out.r.fz 1
                  have HRN := Aside0.mk (show RfV (w4.setCell ⟨gR, 1, none⟩ (.int .i64 ((q : Int) + 1))) gR L ((q + 1 : Nat) : Int) ((n + 1 : Nat) : Int) false by have := HC4.out.r.s1 ((q : Int) + 1); exact this)
                  have HKN := Aside0.mk (Kp.set w4 ⟨gR, 1, none⟩ (.int .i64 ((q : Int) + 1)))
                  have HXN := Aside0.mk (HKN.out.blk HX4.out (fun e => by have := HGX.out; have : gx = gR := e; omega))
                  have HCN := Aside0.mk (HC4.out.next HRN.out HKN.out id)
                  go_wp2_with fail
                  go_meet
                  exact ⟨(⟨1, 0, [], false⟩, (none, 0, 0)), true, q + 1, 1, 0, none, 0, 0, false, Aside0.mk rfl, by omega, by omega, by omega, HXN, Aside0.mk (by rw [E4.out]; rfl), Aside0.mk (fun _ h => by cases h), HCN⟩
              | false =>
                have E3 := Aside0.mk (show c ≠ 63 ∧ c ≠ 42 by have := HBQ.out; simpa using this)
                by_cases c5 : c = 91
                · subst c5
                  have x1 := HC3.out.r.c1
                  have f1 := HC3.out.r.fz 1
                  have HRN := Aside0.mk (show RfV (w3.setCell ⟨gR, 1, none⟩ (.int .i64 ((q : Int) + 1))) gR L ((q + 1 : Nat) : Int) ((n + 1 : Nat) : Int) false by have := HC3.out.r.s1 ((q : Int) + 1); exact this)
                  have HKN := Aside0.mk (Kp.set w3 ⟨gR, 1, none⟩ (.int .i64 ((q : Int) + 1)))
                  have HXN := Aside0.mk (HKN.out.blk HXB.out (fun e => by have := HGX.out; have : gx = gR := e; omega))
                  have HCN := Aside0.mk (HC3.out.next HRN.out HKN.out id)
                  go_upto_region 17 with fail
                  obtain ⟨w4, hw4⟩ : ∃ x, w3.setCell ⟨gR, 1, none⟩ (.int .i64 ((q : Int) + 1)) = x := ⟨_, rfl⟩
                  rw [hw4] at HRN HKN HXN HCN ⊢
                  clear hw4 x1 f1
                  go_wp2_with fail
                  with_reducible refine (rSet_calls _ gR L (q + 1) ((n + 1 : Nat) : Int) HRN.out HIB.out HL.out (by rw [HN.out]; omega)).mono ?_
                  rintro e w5 ⟨ng, ins, ys, ok, b, bk, rfl, hbk, hyl, hyb, hqb, hbN, hst, hyt, hr, hk⟩
                  rw [HN.out] at hbN
                  have HX5 := Aside0.mk (hk.blk HXN.out (fun e => by have := HGX.out; omega))
                  have HC5 := Aside0.mk (HCN.out.next hr hk (fun _ => rfl))
                  have HYB := Aside0.mk hyb
                  have HYT := Aside0.mk hyt
                  have HST := Aside0.mk hst
                  have HBK := Aside0.mk (show w.heap.size ≤ bk from Nat.le_trans HCN.out.k.size hbk)
                  have HT := Aside0.mk (show w5.there gx 0 (#[.int .i64 3, .int .u8 0, .slice (some ⟨bk, 0, none⟩) 256 256, .bool ng] : Array Value).size by have := there_blk HX5.out; exact this)
                  have HKC := Aside0.mk (kp_cells (b := gx) (#[.int .i64 3, .int .u8 0, .slice (some ⟨bk, 0, none⟩) 256 256, .bool ng] : Array Value).toList 0 w5)
                  have HXC := Aside0.mk (show (w5.setCells gx 0 (#[.int .i64 3, .int .u8 0, .slice (some ⟨bk, 0, none⟩) 256 256, .bool ng] : Array Value).toList).heap[gx]? = some (.cells #[.int .i64 3, .int .u8 0, .slice (some ⟨bk, 0, none⟩) 256 256, .bool ng] 109 (0, 0)) by
                    have a0 := blk_set HX5.out 0 (.int .i64 3)
                    have a1 := blk_set a0 1 (.int .u8 0)
                    have a2 := blk_set a1 2 (.slice (some ⟨bk, 0, none⟩) 256 256)
                    have a3 := blk_set a2 3 (.bool ng)
                    exact a3)
                  have HC6 := Aside0.mk (HC5.out.own HX5.out HCG.out HKX.out HKC.out)
                  have HSO := Aside0.mk (show ok = true → SetOk (w5.setCells gx 0 (#[.int .i64 3, .int .u8 0, .slice (some ⟨bk, 0, none⟩) 256 256, .bool ng] : Array Value).toList) w.heap.size (⟨3, 0, ins, ng⟩, (some ⟨bk, 0, none⟩, 256, 256)) from fun h _ => ⟨bk, rfl, HBK.out, by
                    have := HKC.out.blk HYB.out (fun e => HYB.out.tne HX5.out (by decide) e)
                    rw [HYT.out h] at this
                    exact this⟩)
                  clear hyb hyt hst hr hk hbk
                  go_wp2_with (first | (refine wpList_store_mid rfl 109 (.tmp 7) (.tmp 80) rfl gx 0 #[.int .i64 3, .int .u8 0, .slice (some ⟨bk, 0, none⟩) 256 256, .bool ng] rfl rfl HT.out info4 (z4_ones _ _ _ _ _ _) ?_) | fail)
                  go_meet
                  exact ⟨(⟨3, 0, ins, ng⟩, (some ⟨bk, 0, none⟩, 256, 256)), ok, b, 3, 0, some ⟨bk, 0, none⟩, 256, 256, ng, Aside0.mk rfl, by omega, hbN, by omega, HXC, Aside0.mk (by rw [part_b2]; exact HST.out), HSO, HC6⟩
                · have g5 : (c == 91) = false := by simpa using c5
                  have E5 := Aside0.mk c5
                  clear c5
                  go_wp2_with fail
                  with_reducible refine (rByte_calls _ gR L q ((n + 1 : Nat) : Int) false HC3.out.r HIB.out HL.out (by rw [HN.out]; exact hqN)).mono ?_
                  rintro e w5 ⟨d, ok, b, rfl, hqb, hbN, hbe, hblt, hlt, hd0, hd1, hr, hk⟩
                  rw [HN.out] at hbN
                  rw [Bool.false_or] at hr
                  have HX5 := Aside0.mk (hk.blk HXB.out (fun e => by have := HGX.out; omega))
                  have HC5 := Aside0.mk (HC3.out.next hr hk (fun _ => rfl))
                  have HPT := Aside0.mk (show partP (c :: L.drop (q + 1)) = if ok = true then some (⟨0, d, [], false⟩, L.drop b) else none from part_c2 _ E3.out.1 E3.out.2 E5.out (by rw [← HDR.out]; exact hlt))
                  have HBLT := Aside0.mk (show q < b by
                    cases ok with
                    | true => exact hblt rfl
                    | false => have := hbe rfl; rw [HN.out] at this; omega)
                  clear hlt hr hk hblt hbe y0 f0
                  have y1 : w5.cell? ⟨gx, 1, none⟩ = some (.int .u8 0) := blk_cell HX5.out 1
                  have f1 : w5.frozen? ⟨gx, 1, none⟩ = false := blk_frozen HX5.out 1
                  have HKs := Aside0.mk (Kp.set w5 ⟨gx, 1, none⟩ (.int .u8 d))
                  have HXC := Aside0.mk (show (w5.setCell ⟨gx, 1, none⟩ (.int .u8 d)).heap[gx]? = some (.cells #[.int .i64 0, .int .u8 d, .slice none 0 0, .bool false] 109 (0, 0)) by have := blk_set HX5.out 1 (.int .u8 d); exact this)
                  have HC6 := Aside0.mk (HC5.out.own HX5.out HCG.out HKX.out HKs.out)
                  go_wp2_with fail
                  go_meet
                  exact ⟨(⟨0, d, [], false⟩, (none, 0, 0)), ok, b, 0, d, none, 0, 0, false, Aside0.mk rfl, hqb, hbN, HBLT.out, HXC, HPT, Aside0.mk (fun _ h => by cases h), HC6⟩
            case rest =>
            obtain ⟨x, ok, b, kk, cc, sA, sn, sk, ng, HEX, hqb, hbN, hqlt, HXC, HPT, HSO, HC4⟩ := hcut
            clear HC3 HXB
            have HPS := Aside0.mk (show (match (if ok = true then some (x.1, L.drop b) else none : Option (Pt × List Int)) with | none => none | some (p, r) => patP f' r (n + 1) (D.map fsts) (fsts C ++ [p])) = RES by rw [← HPT.out]; exact HSX.out)
            obtain ⟨m, hm⟩ : ∃ m, D.length = m := ⟨_, rfl⟩
            have HM := Aside0.mk hm
            obtain ⟨A0, k0, hvc, hcap, _⟩ := HC4.out.o.sl (k := m + 1) (by rw [List.length_append, HC4.out.l, hm]; rfl)
            subst hvc
            rw [hm] at hdn
            obtain ⟨g9, o9, hA0, hg9, hg9b, hcl⟩ := HC4.out.o.get ((none, 0, 0) : Option Addr × Nat × Nat) (show (ds ++ [cu]).length = m + 1 by rw [List.length_append, HC4.out.l, hm]; rfl) (by omega)
            subst hA0
            obtain ⟨y1, f1⟩ := hcl m (by omega)
            rw [show (ds ++ [cu]).getD m (none, 0, 0) = cu by rw [List.getD_eq_getElem?_getD, List.getElem?_append_right (by rw [HC4.out.l, hm]; exact Nat.le_refl _), HC4.out.l, hm, Nat.sub_self]; rfl] at y1
            have v1 : IntKind.i64.wrap (m : Int) = (m : Int) := by rw [IntKind.wrap_i64]; omega
            have v2 : IntKind.i64.wrap ((m : Int) + 1 - 1) = (m : Int) := by rw [IntKind.wrap_i64]; omega
            obtain ⟨cA, cn, ck⟩ := cu
            obtain ⟨r, hr0⟩ : ∃ r, C.length = r := ⟨_, rfl⟩
            have HRL := Aside0.mk hr0
            rw [hr0] at hdn
            obtain ⟨e1, e2, hcu⟩ := KRow.slice HC4.out.c hr0
            simp only [SlE, Value.slice.injEq] at hcu
            obtain ⟨rfl, rfl, rfl⟩ := hcu
            have y1' : wc.cell? ⟨g9, o9 + m, none⟩ = some (.slice cA cn ck) := y1
            have HD := Aside0.mk (HC4.out.below (below_drew (Below.refl wc.heap.size wc)))
            obtain ⟨A5, k5, w5, hr5, ho5, hk5⟩ := app_k (P := Try.prog) enc4_len enc4_one Try.underlying112 infoP4 rfl (by decide) (ty := 112) x (cs := #[.int .i64 kk, .int .u8 cc, .slice sA sn sk, .bool ng]) (by rw [HEX.out]) (W := wc.drew) HD.out.c hr0 (HD.out.h.2) (by omega) (by omega)
            simp only [SlE] at hr5
            have HR5 := Aside0.mk hr5
            have mm1 : (m : Int) < (m : Int) + 1 := by omega
            have mm0 : (0 : Int) ≤ (m : Int) := by omega
            have ho9 := HD.out.o.kp hk5 (fun k hk' e => (RRow.og HD.out HD.out.c).2 k e hk')
            obtain ⟨g9', o9', hA9, _, _, hcl5⟩ := ho9.get ((none, 0, 0) : Option Addr × Nat × Nat) (show (ds ++ [(cA, cn, ck)]).length = m + 1 by rw [List.length_append, HC4.out.l, HM.out]; rfl) (by omega)
            cases hA9
            obtain ⟨z1, f5⟩ := hcl5 m (by omega)
            rw [show (ds ++ [(cA, cn, ck)]).getD m (none, 0, 0) = (cA, cn, ck) by rw [List.getD_eq_getElem?_getD, List.getElem?_append_right (by rw [HC4.out.l, HM.out]; exact Nat.le_refl _), HC4.out.l, HM.out, Nat.sub_self]; rfl] at z1
            have z1' : w5.cell? ⟨g9, o9 + m, none⟩ = some (.slice cA cn ck) := z1
            have hxx := hk5.blk (blk_drew HXC.out) (fun e => HKX.out e)
            have q0 : (wc).cell? ⟨gx, 0, none⟩ = some (.int .i64 kk) := blk_cell HXC.out 0
            have q1 : (wc).cell? ⟨gx, 1, none⟩ = some (.int .u8 cc) := blk_cell HXC.out 1
            have q2 : (wc).cell? ⟨gx, 2, none⟩ = some (.slice sA sn sk) := blk_cell HXC.out 2
            have q3 : (wc).cell? ⟨gx, 3, none⟩ = some (.bool ng) := blk_cell HXC.out 3
            have t0 : (w5).cell? ⟨gx, 0, none⟩ = some (.int .i64 kk) := blk_cell hxx 0
            have t1 : (w5).cell? ⟨gx, 1, none⟩ = some (.int .u8 cc) := blk_cell hxx 1
            have t2 : (w5).cell? ⟨gx, 2, none⟩ = some (.slice sA sn sk) := blk_cell hxx 2
            have t3 : (w5).cell? ⟨gx, 3, none⟩ = some (.bool ng) := blk_cell hxx 3
            have HSD := Aside0.mk (show (!ok) = false → SetOk wc.drew w.heap.size x from fun h => (HSO.out (by simpa using h)).kp (Kp.of_below (below_drew (Below.refl wc.heap.size wc)) (fun _ => False)) (fun _ _ _ => id))
            have HCB0 := Aside0.mk (show RCo w (w5.setCell ⟨g9, o9 + m, none⟩ (.slice A5 (cn + 1) k5)) hC gR L ((n + 1 : Nat) : Int) b (!ok) (.slice (some ⟨g9, o9, none⟩) (m + 1) k0) ds (A5, cn + 1, k5) D (C ++ [x]) from HD.out.part (m := m) (cu' := (A5, cn + 1, k5)) HM.out ho5 hk5 HSD.out)
            clear hr5 ho5 hk5 ho9 hcl5 z1 y1 hxx hcl
            go_upto_region 20 with fail
            refine start_ (n := 11) (S := fun w' => w'.cell? ⟨g9, o9 + m, none⟩ = some (.slice cA cn ck) ∧ w'.cell? ⟨gx, 0, none⟩ = some (.int .i64 kk) ∧ w'.cell? ⟨gx, 1, none⟩ = some (.int .u8 cc) ∧ w'.cell? ⟨gx, 2, none⟩ = some (.slice sA sn sk) ∧ w'.cell? ⟨gx, 3, none⟩ = some (.bool ng)) (ds := [10]) #[false, false, false, false, false, false, false, false, false, false, false] (by kernel_rfl) rfl rfl ⟨y1', q0, q1, q2, q3⟩ (fun hHeld => ?_)
            refine pure_ (i := 0) (N := some 87) (v := ?_) (a' := ?_) #[true, false, false, false, false, false, false, false, false, false, false] rfl rfl (by kernel_rfl) (fun _ _ _ h => h) (Or.inl ⟨by rfl, ?_⟩) ?_ ?_
            rotate_left
            · intro w'
              go_simp
              with_reducible rfl
            rotate_left
            · simp only [Act.put, List.setIfInBounds_toArray, List.set_cons_zero, List.set_cons_succ, i64_w, i32_w]
              rfl
            refine pure_ (i := 1) (N := some 88) (v := ?_) (a' := ?_) #[true, true, false, false, false, false, false, false, false, false, false] rfl rfl (by kernel_rfl) (fun _ _ _ h => h) (Or.inl ⟨by rfl, ?_⟩) ?_ ?_
            rotate_left
            · intro w'
              go_simp
              with_reducible rfl
            rotate_left
            · simp only [Act.put, List.setIfInBounds_toArray, List.set_cons_zero, List.set_cons_succ, i64_w, i32_w]
              rfl
            refine pure_ (i := 2) (N := some 89) (v := ?_) (a' := ?_) #[true, true, true, false, false, false, false, false, false, false, false] rfl rfl (by kernel_rfl) (fun _ _ _ h => h) (Or.inl ⟨by rfl, ?_⟩) ?_ ?_
            rotate_left
            · intro w'
              go_simp
              with_reducible rfl
            rotate_left
            · simp only [Act.put, List.setIfInBounds_toArray, List.set_cons_zero, List.set_cons_succ, i64_w, i32_w]
              rfl
            refine pure_ (i := 3) (N := some 90) (v := ?_) (a' := ?_) #[true, true, true, true, false, false, false, false, false, false, false] rfl rfl (by kernel_rfl) (fun _ _ _ h => h) (Or.inl ⟨by rfl, ?_⟩) ?_ ?_
            rotate_left
            · intro w'
              go_simp
              with_reducible rfl
            rotate_left
            · simp only [Act.put, List.setIfInBounds_toArray, List.set_cons_zero, List.set_cons_succ, i64_w, i32_w]
              rfl
            refine pure_ (i := 4) (N := some 91) (v := ?_) (a' := ?_) #[true, true, true, true, true, false, false, false, false, false, false] rfl rfl (by kernel_rfl) (fun _ _ _ h => h) (Or.inl ⟨by rfl, ?_⟩) ?_ ?_
            rotate_left
            · intro w'
              go_simp
              with_reducible rfl
            rotate_left
            · simp only [Act.put, List.setIfInBounds_toArray, List.set_cons_zero, List.set_cons_succ, i64_w, i32_w]
              rfl
            refine take_ (i := 5) (N := some 92) (v := ?_) (a' := ?_) #[true, true, true, true, true, true, false, false, false, false, false] rfl rfl (by kernel_rfl) (fun _ _ _ h => h) (Or.inl ⟨by rfl, ?_⟩) hHeld ?_ ?_
            rotate_left
            · rintro w' ⟨s0, s1, s2, s3, s4⟩
              go_simp
              with_reducible rfl
            rotate_left
            · simp only [Act.put, List.setIfInBounds_toArray, List.set_cons_zero, List.set_cons_succ, i64_w, i32_w]
              rfl
            refine take_ (i := 6) (N := some 93) (v := ?_) (a' := ?_) #[true, true, true, true, true, true, true, false, false, false, false] rfl rfl (by kernel_rfl) (fun _ _ _ h => h) (Or.inl ⟨by rfl, ?_⟩) hHeld ?_ ?_
            rotate_left
            · rintro w' ⟨s0, s1, s2, s3, s4⟩
              go_simp
              with_reducible rfl
            rotate_left
            · simp only [Act.put, List.setIfInBounds_toArray, List.set_cons_zero, List.set_cons_succ, i64_w, i32_w]
              rfl
            refine one_ (i := 7) (N := some 94) #[true, true, true, true, true, true, true, true, false, false, false] rfl rfl (by kernel_rfl) (by decide) (fun K hK => ?_)
            refine value_ (w1 := ?_) (v := ?_) (by rfl) rfl ?_ ?_
            rotate_left 2
            · go_simp
              constructor
              · rfl
              · rfl
            refine hK.out _ _ ⟨(pw_cell_below (below_alloc (Below.refl _ _) _) hHeld.1), (pw_cell_below (below_alloc (Below.refl _ _) _) hHeld.2.1), (pw_cell_below (below_alloc (Below.refl _ _) _) hHeld.2.2.1), (pw_cell_below (below_alloc (Below.refl _ _) _) hHeld.2.2.2.1), (pw_cell_below (below_alloc (Below.refl _ _) _) hHeld.2.2.2.2)⟩ (fun hHeld => ?_)
            clear hK K
            refine norm_ (a' := ?_) ?_ ?_
            rotate_left
            · show Act.put _ (some 94) _ = _
              simp only [Act.put, List.setIfInBounds_toArray, List.set_cons_zero, List.set_cons_succ, i64_w, i32_w]
              rfl
            refine one_ (i := 8) (N := some 95) #[true, true, true, true, true, true, true, true, true, false, false] rfl rfl (by kernel_rfl) (by decide) (fun K hK => ?_)
            refine app_step (by rfl) (.tmp 92) (.tmp 94) rfl rfl rfl HR5.out ?_
            refine hK.out _ _ ⟨z1', t0, t1, t2, t3⟩ (fun hHeld => ?_)
            clear hK K
            refine norm_ (a' := ?_) ?_ ?_
            rotate_left
            · show Act.put _ (some 95) _ = _
              simp only [Act.put, List.setIfInBounds_toArray, List.set_cons_zero, List.set_cons_succ, i64_w, i32_w]
              rfl
            refine pure_ (i := 9) (N := some 96) (v := ?_) (a' := ?_) #[true, true, true, true, true, true, true, true, true, true, false] rfl rfl (by kernel_rfl) (fun _ _ _ h => h) (Or.inl ⟨by rfl, ?_⟩) ?_ ?_
            rotate_left
            · intro w'
              go_simp
              with_reducible rfl
            rotate_left
            · simp only [Act.put, List.setIfInBounds_toArray, List.set_cons_zero, List.set_cons_succ, i64_w, i32_w]
              rfl
            refine last_ (i := 10) (N := none) #[true, true, true, true, true, true, true, true, true, true, true] rfl rfl (by kernel_rfl) (by decide) (fun K hK => ?_)
            refine skip_ (w1 := ?_) (by rfl) rfl ?_ ?_
            rotate_left
            · go_simp
              rfl
            refine hK.out _ _ ?_
            clear hK K
            refine done_ (by kernel_rfl) ?_
            obtain ⟨w6, hw6⟩ : ∃ x, w5.setCell ⟨g9, o9 + m, none⟩ (.slice A5 (cn + 1) k5) = x := ⟨_, rfl⟩
            rw [hw6] at HCB0 ⊢
            clear hw6 y1' z1' f1 f5 v1 v2 mm1 mm0 q0 q1 q2 q3 t0 t1 t2 t3
            cases ok with
            | false =>
              go_wp2_with fail
              go_roundg (gk - 1)
              case measure => omega
              case rel => exact ⟨b, n + 1, _, _, _, _, _, _, true, rfl, hbN, by omega, HCB0, .inl ⟨rfl, Aside0.mk (by have := HPS.out; simpa using this.symm)⟩⟩
            | true =>
              go_wp2_with fail
              go_roundg (gk - 1)
              case measure => omega
              case rel => exact ⟨b, n + 1, _, _, _, _, _, _, false, rfl, hbN, by omega, HCB0, .inr ⟨rfl, by rw [List.length_append, HM.out, HRL.out]; simp; omega, by omega, f', by omega, Aside0.mk (by have := HPS.out; rw [fsts_app]; simpa using this)⟩⟩
        · have g1 : decide ((q : Int) < (N : Int)) = false := decide_eq_false (by omega)
          have g1' : decide (q < N) = false := decide_eq_false c1
          have hd : L.drop q = [] := List.drop_eq_nil_of_le (by rw [HN.out]; omega)
          have hsx := HS.out
          rw [patP, if_pos hd] at hsx
          have HRS := Aside0.mk (show RES = some ((D ++ [C]).map fsts, n) by rw [fsts2_app]; exact hsx.symm)
          clear hsx hd HS
          go_wp2_with fail
          go_meet
          exact ⟨q, n, hC, u5, ds, cu, D, C, false, rfl, by omega, HCS, .inr ⟨rfl, HRS⟩⟩
  case rest =>
  obtain ⟨q, n, hC, vc, ds, cu, D, C, bad, rfl, hnN, HCS, hcase⟩ := hcut
  have x2 := HCS.out.r.c2
  have x3 := HCS.out.r.c3
  rcases hcase with ⟨rfl, HRN⟩ | ⟨rfl, HRS⟩
  · have HCM := Aside0.mk (comp_bad HRES.out HRN.out)
    go_wp2_with fail
    go_ret2
    exact ⟨HCS.out.k, .inl ⟨HCM.out, rfl⟩⟩
  · have HCM := Aside0.mk (comp_res HRES.out HRS.out)
    by_cases c : n ≤ 64
    · have g1 : decide (64 < (n : Int)) = false := decide_eq_false (by omega)
      have g1' : decide (64 < n) = false := decide_eq_false (by omega)
      rw [if_pos c] at HCM
      go_wp2_with fail
      go_ret2
      exact ⟨HCS.out.k, .inr ⟨_, _, HCM.out, rfl, HCS.out.pat⟩⟩
    · have g1 : decide (64 < (n : Int)) = true := decide_eq_true (by omega)
      have g1' : decide (64 < n) = true := decide_eq_true (by omega)
      rw [if_neg c] at HCM
      go_wp2_with fail
      go_ret2
      exact ⟨HCS.out.k, .inl ⟨HCM.out, rfl⟩⟩
end Go.Proofs.Ytplmdgimodgekaa
