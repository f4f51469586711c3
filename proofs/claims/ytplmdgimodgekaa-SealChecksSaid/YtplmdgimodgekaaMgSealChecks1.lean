import Derived.Test.YtplmdgimodgekaaMgSealTags2
set_option linter.unusedVariables false
set_option linter.unusedSimpArgs false
section
/- Seals: the document's Check. -/
namespace Go.Proofs.Ytplmdgimodgekaa
open Go.RowKit Go.Proofs.YtplmdgimodgekaaW.PrintWords Go.Proofs.YtplmdgimodgekaaW.PrintLast Go.Proofs.YtplmdgimodgekaaW.PrintMore
attribute [local go_sem] max2_int min2_int max_two min_two max_three min_three max_four min_four
/-- A row of the document's tags. -/
def WAt (W : World) (b o : Nat) (x : Tg) : Prop := ∃ B c, W.rangeAt b o [.int .u64 x.e, .int .u64 x.f, .int .u64 x.t, .slice B 32 c] ∧ Rd W .u8 (.slice B 32 c) x.s
def WRd (W : World) (v : Value) (xs : List Tg) : Prop := ∃ A c, v = .slice A xs.length c ∧ xs.length ≤ c ∧ (0 < xs.length → ∃ b o, A = some ⟨b, o, none⟩ ∧ b < W.heap.size ∧ ∀ i (hi : i < xs.length), WAt W b (o + i * 4) xs[i])
theorem WAt.below {W W1 : World} {b o : Nat} {x : Tg} (h : WAt W b o x) (hb : Below W.heap.size W W1) : WAt W1 b o x := by
  obtain ⟨B, c, h1, h2⟩ := h
  exact ⟨B, c, range_below h1 hb, h2.below hb⟩
theorem WRd.below {W W1 : World} {v : Value} {xs : List Tg} (h : WRd W v xs) (hb : Below W.heap.size W W1) : WRd W1 v xs := by
  obtain ⟨A, c, e, hc, h⟩ := h
  exact ⟨A, c, e, hc, fun h0 => by
    obtain ⟨b, o, e, hl, hr⟩ := h h0
    exact ⟨b, o, e, Nat.lt_of_lt_of_le hl hb.size, fun i hi => (hr i hi).below hb⟩⟩
theorem WRd.get {W : World} {A : Option Addr} {n c : Nat} {xs : List Tg} (h : WRd W (.slice A n c) xs) (h0 : 0 < xs.length) : ∃ b o, A = some ⟨b, o, none⟩ ∧ b < W.heap.size ∧ ∀ i (hi : i < xs.length), WAt W b (o + i * 4) xs[i] := by
  obtain ⟨A2, c2, ev, _, hr⟩ := h
  simp only [Value.slice.injEq] at ev
  obtain ⟨rfl, _, _⟩ := ev
  exact hr h0
def ckW (r : Option Int) : Value := match r with
  | some n => .tuple #[.int .i64 n, .bool true]
  | none => .tuple #[.int .i64 0, .bool false]
set_option maxHeartbeats 8000000 in
set_option maxRecDepth 100000 in
theorem refCheck_calls (va vk u ub vt : Value) (s L : List Int) (xs : List Tg) (w : World) (ha : Rd w .u32 va h0L) (hk : Rd w .u32 vk kT) (hr : Rd w .u8 u s) (hib : isB s) (hL : s.length ≤ 80000) (hrb : Rd w .u8 ub L) (hibL : isB L) (hLL : L.length ≤ 80000) (ht : WRd w vt xs) (hok : ∀ x ∈ xs, x.ok) (hn : xs.length ≤ 10000) :
    Calls Try.prog 49 #[.agg #[va, vk], u, ub, vt] w fun e w' => e = .returned (ckW (ckGo s L xs 0 0)) ∧ Below w.heap.size w w' := by
  obtain ⟨Aa, ca, eva, _⟩ := ha.mid
  obtain ⟨Ak, ck, evk, _⟩ := hk.mid
  subst eva
  subst evk
  obtain ⟨N, hN⟩ : ∃ N, L.length = N := ⟨_, rfl⟩
  obtain ⟨n, hNX⟩ : ∃ n, xs.length = n := ⟨_, rfl⟩
  obtain ⟨A0, c0, ev, _⟩ := hrb.mid
  subst ev
  have HT := Aside0.mk ht
  obtain ⟨At, ct, rfl, hct, _⟩ := ht
  obtain ⟨R, hR⟩ : ∃ R, ckGo s L xs 0 0 = R := ⟨_, rfl⟩
  rw [hN] at hrb hLL ⊢
  rw [hNX] at hn hct HT ⊢
  rw [hR]
  have HA := Aside0.mk ha
  have HK := Aside0.mk hk
  have HR := Aside0.mk hr
  have HIB := Aside0.mk hib
  have HRB := Aside0.mk hrb
  have HIL := Aside0.mk hibL
  have HN := Aside0.mk hN
  have HNX := Aside0.mk hNX
  have HOK := Aside0.mk hok
  have HGO := Aside0.mk (show ckGo s L (xs.drop 0) ((0 : Nat) : Int) ((0 : Nat) : Int) = R from hR)
  have HW := Aside0.mk (blk_new w (.cells #[.slice Aa h0L.length ca, .slice Ak kT.length ck] 78))
  have HB := Aside0.mk (below_alloc (Below.refl w.heap.size w) (.cells #[.slice Aa h0L.length ca, .slice Ak kT.length ck] 78))
  clear ha hk hr hib hrb hibL hN hNX hok hR
  go_enter Try.func49, Try.ntmps49
  go_upto_block 0 with (fail)
  obtain ⟨g8, hg8⟩ : ∃ g, w.heap.size = g := ⟨_, rfl⟩
  obtain ⟨w2, hw2⟩ : ∃ wx, w.alloc (.cells #[.slice Aa h0L.length ca, .slice Ak kT.length ck] 78) = wx := ⟨_, rfl⟩
  rw [hg8] at HW ⊢
  rw [hw2] at HW HB ⊢
  clear hg8 hw2
  go_cut [11] (fun v wx => ∃ tw : Nat, tw ≤ N ∧ v = .int .u64 (tw : Int) ∧ R = some (tw : Int) ∧ Aside0 (Below w.heap.size w wx))
  case first => as_aux_lemma =>
    go_wp2_with fail
    go_loopw [10, 11, 12] (fun v9 v10 v17 w' => ∃ (i ep tw : Nat), i ≤ n ∧ tw ≤ N ∧ ep ≤ 1000 ∧ v17 = .int .i64 (i : Int) ∧ v9 = .int .u64 (ep : Int) ∧ v10 = .int .u64 (tw : Int) ∧ Aside0 (ckGo s L (xs.drop i) (ep : Int) (tw : Int) = R) ∧ Aside0 (w'.heap[g8]? = some (.cells #[.slice Aa h0L.length ca, .slice Ak kT.length ck] 78 (0, 0))) ∧ Aside0 (Below w.heap.size w w')) (fun _ _ v17 _ => n - (intOf v17).toNat)
    case atStart => exact ⟨0, 0, 0, by omega, by omega, by omega, rfl, rfl, rfl, HGO, HW, HB⟩
    case round =>
      clear HGO HW HB
      obtain ⟨i, ep, tw, hi, htw, hep, rfl, rfl, rfl, HGO, HW, HB⟩ := hrel
      by_cases c2 : i < n
      · have hil : i < xs.length := by rw [HNX.out]; exact c2
        have hxo := HOK.out _ (List.getElem_mem hil)
        have hdr := List.drop_eq_getElem_cons hil
        obtain ⟨b, o, rfl, hbl, hr⟩ := HT.out.get (by omega)
        have hrx := (hr i hil).below HB.out
        obtain ⟨x, hx⟩ : ∃ x, xs[i] = x := ⟨_, rfl⟩
        rw [hx] at hxo hdr hrx
        clear hr hx
        obtain ⟨xe, xf, xt, Sx⟩ := x
        obtain ⟨Bx, cx, hrx, hrs⟩ := hrx
        have h3 := hxo.1
        have he := h3 xe (by simp)
        have hf := h3 xf (by simp)
        have ht := h3 xt (by simp)
        obtain ⟨Ex, rfl⟩ := Int.eq_ofNat_of_zero_le he.1
        obtain ⟨Fx, rfl⟩ := Int.eq_ofNat_of_zero_le hf.1
        obtain ⟨Tx, rfl⟩ := Int.eq_ofNat_of_zero_le ht.1
        have HDR := Aside0.mk hdr
        have HRX := Aside0.mk (show wr.rangeAt b (o + i * 4) [.int .u64 (Ex : Int), .int .u64 (Fx : Int), .int .u64 (Tx : Int), .slice Bx 32 cx] from hrx)
        have HSB := Aside0.mk hxo.2.2
        have HTB := Aside0.mk (blk_new wr (.cells [.int .u64 (Ex : Int), .int .u64 (Fx : Int), .int .u64 (Tx : Int), .slice Bx 32 cx].toArray 70))
        have HBT := Aside0.mk (below_alloc (Below.refl wr.heap.size wr) (.cells [.int .u64 (Ex : Int), .int .u64 (Fx : Int), .int .u64 (Tx : Int), .slice Bx 32 cx].toArray 70))
        have HRS := Aside0.mk (hrs.below HBT.out)
        clear hxo hdr hrx h3 hrs
        go_upto_region 6 with (first | (refine wpList_load_mid rfl 70 (.tmp 22) rfl b (o + i * 4) rfl [.int .u64 (Ex : Int), .int .u64 (Fx : Int), .int .u64 (Tx : Int), .slice Bx 32 cx] _ HRX.out Try.underlying70 rfl info4 ?_) | fail)
        obtain ⟨gt, hgt⟩ : ∃ g, wr.heap.size = g := ⟨_, rfl⟩
        obtain ⟨wt, hwt⟩ : ∃ wx, wr.alloc (.cells [.int .u64 (Ex : Int), .int .u64 (Fx : Int), .int .u64 (Tx : Int), .slice Bx 32 cx].toArray 70) = wx := ⟨_, rfl⟩
        have HWT := Aside0.mk (blk_below HW.out HBT.out)
        have HBW := Aside0.mk (below_step HB.out HBT.out)
        rw [hgt] at HTB ⊢
        first | rw [show wr.alloc (.cells #[.int .u64 (Ex : Int), .int .u64 (Fx : Int), .int .u64 (Tx : Int), .slice Bx 32 cx] 70) = wt from hwt] | rw [hwt]
        rw [hwt] at HTB HWT HBW HRS
        clear hgt hwt HBT HW HRX
        have y0 : wt.cell? ⟨gt, 0, none⟩ = some (.int .u64 (Ex : Int)) := blk_cell HTB.out 0
        have y1 : wt.cell? ⟨gt, 1, none⟩ = some (.int .u64 (Fx : Int)) := blk_cell HTB.out 1
        have y2 : wt.cell? ⟨gt, 2, none⟩ = some (.int .u64 (Tx : Int)) := blk_cell HTB.out 2
        have y3 : wt.cell? ⟨gt, 3, none⟩ = some (.slice Bx 32 cx) := blk_cell HTB.out 3
        have z0 := blk_cell HWT.out 0
        have z1 := blk_cell HWT.out 1
        have hwn : IntKind.u64.wrap (N : Int) = (N : Int) := by rw [IntKind.wrap_u64]; omega
        by_cases h1 : Ex < ep
        · have HRN := Aside0.mk (show R = none by rw [← HGO.out, HDR.out]; exact ckGo_bad (Or.inl (by show (Ex : Int) < (ep : Int); omega)))
          have g1 : decide ((Ex : Int) < (ep : Int)) = true := decide_eq_true (by omega)
          go_quiet (fail)
          have HBQ := Aside0.mk (pw_below_drewN HBW.out nq)
          obtain ⟨wq, hwq⟩ : ∃ wq, wt.drewN nq = wq := ⟨_, rfl⟩
          rw [hwq] at HBQ ⊢
          clear hwq
          go_wp2_with fail
          go_ret2
          exact ⟨by rw [HRN.out]; rfl, HBQ.out⟩
        by_cases h2 : 1000 < Ex
        · have HRN := Aside0.mk (show R = none by rw [← HGO.out, HDR.out]; exact ckGo_bad (Or.inr (Or.inl (by show (1000 : Int) < (Ex : Int); omega))))
          have g1 : decide ((Ex : Int) < (ep : Int)) = false := decide_eq_false (by omega)
          have g2 : decide ((1000 : Int) < (Ex : Int)) = true := decide_eq_true (by omega)
          go_quiet (fail)
          have HBQ := Aside0.mk (pw_below_drewN HBW.out nq)
          obtain ⟨wq, hwq⟩ : ∃ wq, wt.drewN nq = wq := ⟨_, rfl⟩
          rw [hwq] at HBQ ⊢
          clear hwq
          go_wp2_with fail
          go_ret2
          exact ⟨by rw [HRN.out]; rfl, HBQ.out⟩
        by_cases h3 : Fx = tw
        rotate_left
        · have HRN := Aside0.mk (show R = none by rw [← HGO.out, HDR.out]; exact ckGo_bad (Or.inr (Or.inr (Or.inl (by show (Fx : Int) ≠ (tw : Int); omega)))))
          have g1 : decide ((Ex : Int) < (ep : Int)) = false := decide_eq_false (by omega)
          have g2 : decide ((1000 : Int) < (Ex : Int)) = false := decide_eq_false (by omega)
          have g3 : ((Fx : Int) != (tw : Int)) = true := by simp; omega
          go_quiet (fail)
          have HBQ := Aside0.mk (pw_below_drewN HBW.out nq)
          obtain ⟨wq, hwq⟩ : ∃ wq, wt.drewN nq = wq := ⟨_, rfl⟩
          rw [hwq] at HBQ ⊢
          clear hwq
          go_wp2_with fail
          go_ret2
          exact ⟨by rw [HRN.out]; rfl, HBQ.out⟩
        subst h3
        by_cases h4 : Tx ≤ Fx
        · have HRN := Aside0.mk (show R = none by rw [← HGO.out, HDR.out]; exact ckGo_bad (Or.inr (Or.inr (Or.inr (Or.inl (by show (Tx : Int) ≤ (Fx : Int); omega))))))
          have g1 : decide ((Ex : Int) < (ep : Int)) = false := decide_eq_false (by omega)
          have g2 : decide ((1000 : Int) < (Ex : Int)) = false := decide_eq_false (by omega)
          have g3 : ((Fx : Int) != (Fx : Int)) = false := by simp
          have g4 : decide ((Tx : Int) ≤ (Fx : Int)) = true := decide_eq_true (by omega)
          go_quiet (fail)
          have HBQ := Aside0.mk (pw_below_drewN HBW.out nq)
          obtain ⟨wq, hwq⟩ : ∃ wq, wt.drewN nq = wq := ⟨_, rfl⟩
          rw [hwq] at HBQ ⊢
          clear hwq
          go_wp2_with fail
          go_ret2
          exact ⟨by rw [HRN.out]; rfl, HBQ.out⟩
        by_cases h5 : N < Tx
        · have HRN := Aside0.mk (show R = none by rw [← HGO.out, HDR.out]; exact ckGo_bad (Or.inr (Or.inr (Or.inr (Or.inr (by show (L.length : Int) < (Tx : Int); rw [HN.out]; omega))))))
          have g1 : decide ((Ex : Int) < (ep : Int)) = false := decide_eq_false (by omega)
          have g2 : decide ((1000 : Int) < (Ex : Int)) = false := decide_eq_false (by omega)
          have g3 : ((Fx : Int) != (Fx : Int)) = false := by simp
          have g4 : decide ((Tx : Int) ≤ (Fx : Int)) = false := decide_eq_false (by omega)
          have g5 : decide ((N : Int) < (Tx : Int)) = true := decide_eq_true (by omega)
          go_quiet (fail)
          have HBQ := Aside0.mk (pw_below_drewN HBW.out nq)
          obtain ⟨wq, hwq⟩ : ∃ wq, wt.drewN nq = wq := ⟨_, rfl⟩
          rw [hwq] at HBQ ⊢
          clear hwq
          go_wp2_with fail
          go_ret2
          exact ⟨by rw [HRN.out]; rfl, HBQ.out⟩
        have HGD := Aside0.mk (show ¬ ((Tg.mk (Ex : Int) (Fx : Int) (Tx : Int) Sx).e < (ep : Int) ∨ 1000 < (Tg.mk (Ex : Int) (Fx : Int) (Tx : Int) Sx).e ∨ (Tg.mk (Ex : Int) (Fx : Int) (Tx : Int) Sx).f ≠ (Fx : Int) ∨ (Tg.mk (Ex : Int) (Fx : Int) (Tx : Int) Sx).t ≤ (Tg.mk (Ex : Int) (Fx : Int) (Tx : Int) Sx).f ∨ (L.length : Int) < (Tg.mk (Ex : Int) (Fx : Int) (Tx : Int) Sx).t) from by
          rw [HN.out]; dsimp only; omega)
        have g1 : decide ((Ex : Int) < (ep : Int)) = false := decide_eq_false (by omega)
        have g2 : decide ((1000 : Int) < (Ex : Int)) = false := decide_eq_false (by omega)
        have g3 : ((Fx : Int) != (Fx : Int)) = false := by simp
        have g4 : decide ((Tx : Int) ≤ (Fx : Int)) = false := decide_eq_false (by omega)
        have g5 : decide ((N : Int) < (Tx : Int)) = false := decide_eq_false (by omega)
        have hFT : Fx ≤ Tx := by omega
        have hTN : Tx ≤ N := by omega
        obtain ⟨S0, hS0⟩ : ∃ S0, suP (keyE s Ex) (Ex : Int) Fx Tx L = S0 := ⟨_, rfl⟩
        have HS0 := Aside0.mk hS0
        have HI0 := Aside0.mk (show isB S0 by rw [← hS0]; exact suP_isB _ _ _ _ _)
        have CU := Aside0.mk (fun (W : World) (hb : Below wt.heap.size wt W) => Sum45_calls (.slice Aa h0L.length ca) (.slice Ak kT.length ck) u (.slice A0 N c0) (.slice Bx 32 cx) s L Ex Fx Tx W (HA.out.below (below_step HBW.out hb)) (HK.out.below (below_step HBW.out hb)) (HR.out.below (below_step HBW.out hb)) HIB.out hL (by omega) (HRB.out.below (below_step HBW.out hb)) HIL.out (by rw [HN.out]; exact hLL) hFT (by rw [HN.out]; exact hTN))
        rw [hS0] at CU
        obtain ⟨bv, hbv⟩ : ∃ bv, decide (Sx = S0) = bv := ⟨_, rfl⟩
        have HBV := Aside0.mk hbv
        have k1 : decide (Ex < ep) = false := decide_eq_false h1
        have k2 : decide (1000 < Ex) = false := decide_eq_false h2
        have k4 : decide (Tx ≤ Fx) = false := decide_eq_false h4
        have k5 : decide (N < Tx) = false := decide_eq_false h5
        clear hS0 hbv
        refine start_ (n := 41) (S := fun w' => w'.cell? ⟨gt, 0, none⟩ = some (.int .u64 (Ex : Int)) ∧ w'.cell? ⟨gt, 1, none⟩ = some (.int .u64 (Fx : Int)) ∧ w'.cell? ⟨gt, 2, none⟩ = some (.int .u64 (Tx : Int)) ∧ w'.cell? ⟨gt, 3, none⟩ = some (.slice Bx 32 cx) ∧ w'.cell? ⟨g8, 0, none⟩ = some (.slice Aa h0L.length ca) ∧ w'.cell? ⟨g8, 1, none⟩ = some (.slice Ak kT.length ck)) (ds := []) #[false,false,false,false,false,false,false,false,false,false,false,false,false,false,false,false,false,false,false,false,false,false,false,false,false,false,false,false,false,false,false,false,false,false,false,false,false,false,false,false,false] (by kernel_rfl) rfl rfl ⟨y0, y1, y2, y3, z0, z1⟩ (fun hHeld => ?_)
        refine pure_ (i := 0) (N := some 24) (v := ?_) (a' := ?_) #[true,false,false,false,false,false,false,false,false,false,false,false,false,false,false,false,false,false,false,false,false,false,false,false,false,false,false,false,false,false,false,false,false,false,false,false,false,false,false,false,false] rfl rfl (by kernel_rfl) (fun _ _ _ h => h) (Or.inl ⟨by rfl, ?_⟩) ?_ ?_
        rotate_left
        · intro w'
          go_simp
          with_reducible rfl
        rotate_left
        · simp only [Act.put, List.setIfInBounds_toArray, List.set_cons_zero, List.set_cons_succ, i64_w, i32_w]
          rfl
        refine pure_ (i := 2) (N := some 26) (v := ?_) (a' := ?_) #[true,false,true,false,false,false,false,false,false,false,false,false,false,false,false,false,false,false,false,false,false,false,false,false,false,false,false,false,false,false,false,false,false,false,false,false,false,false,false,false,false] rfl rfl (by kernel_rfl) (fun _ _ _ h => h) (Or.inl ⟨by rfl, ?_⟩) ?_ ?_
        rotate_left
        · intro w'
          go_simp
          with_reducible rfl
        rotate_left
        · simp only [Act.put, List.setIfInBounds_toArray, List.set_cons_zero, List.set_cons_succ, i64_w, i32_w]
          rfl
        refine take_ (i := 1) (N := some 25) (v := ?_) (a' := ?_) #[true,true,true,false,false,false,false,false,false,false,false,false,false,false,false,false,false,false,false,false,false,false,false,false,false,false,false,false,false,false,false,false,false,false,false,false,false,false,false,false,false] rfl rfl (by kernel_rfl) (fun _ _ _ h => h) (Or.inl ⟨by rfl, ?_⟩) hHeld ?_ ?_
        rotate_left
        · rintro w' ⟨s0, s1, s2, s3, s4, s5⟩
          go_simp
          with_reducible rfl
        rotate_left
        · simp only [Act.put, List.setIfInBounds_toArray, List.set_cons_zero, List.set_cons_succ, i64_w, i32_w]
          rfl
        refine pure_ (i := 3) (N := some 27) (v := ?_) (a' := ?_) #[true,true,true,true,false,false,false,false,false,false,false,false,false,false,false,false,false,false,false,false,false,false,false,false,false,false,false,false,false,false,false,false,false,false,false,false,false,false,false,false,false] rfl rfl (by kernel_rfl) (fun _ _ _ h => h) (Or.inl ⟨by rfl, ?_⟩) ?_ ?_
        rotate_left
        · intro w'
          go_simp
          with_reducible rfl
        rotate_left
        · simp only [Act.put, List.setIfInBounds_toArray, List.set_cons_zero, List.set_cons_succ, i64_w, i32_w]
          rfl
        refine pure_ (i := 4) (N := some 28) (v := ?_) (a' := ?_) #[true,true,true,true,true,false,false,false,false,false,false,false,false,false,false,false,false,false,false,false,false,false,false,false,false,false,false,false,false,false,false,false,false,false,false,false,false,false,false,false,false] rfl rfl (by kernel_rfl) (fun _ _ _ h => h) (Or.inl ⟨by rfl, ?_⟩) ?_ ?_
        rotate_left
        · intro w'
          go_simp
          with_reducible rfl
        rotate_left
        · simp only [Act.put, List.setIfInBounds_toArray, List.set_cons_zero, List.set_cons_succ, i64_w, i32_w]
          rfl
        refine pure_ (i := 5) (N := some 29) (v := ?_) (a' := ?_) #[true,true,true,true,true,true,false,false,false,false,false,false,false,false,false,false,false,false,false,false,false,false,false,false,false,false,false,false,false,false,false,false,false,false,false,false,false,false,false,false,false] rfl rfl (by kernel_rfl) (fun _ _ _ h => h) (Or.inl ⟨by rfl, ?_⟩) ?_ ?_
        rotate_left
        · intro w'
          go_simp
          with_reducible rfl
        rotate_left
        · simp only [Act.put, List.setIfInBounds_toArray, List.set_cons_zero, List.set_cons_succ, i64_w, i32_w]
          rfl
        refine take_ (i := 6) (N := some 30) (v := ?_) (a' := ?_) #[true,true,true,true,true,true,true,false,false,false,false,false,false,false,false,false,false,false,false,false,false,false,false,false,false,false,false,false,false,false,false,false,false,false,false,false,false,false,false,false,false] rfl rfl (by kernel_rfl) (fun _ _ _ h => h) (Or.inl ⟨by rfl, ?_⟩) hHeld ?_ ?_
        rotate_left
        · rintro w' ⟨s0, s1, s2, s3, s4, s5⟩
          go_simp
          with_reducible rfl
        rotate_left
        · simp only [Act.put, List.setIfInBounds_toArray, List.set_cons_zero, List.set_cons_succ, i64_w, i32_w]
          rfl
        refine pure_ (i := 7) (N := some 31) (v := ?_) (a' := ?_) #[true,true,true,true,true,true,true,true,false,false,false,false,false,false,false,false,false,false,false,false,false,false,false,false,false,false,false,false,false,false,false,false,false,false,false,false,false,false,false,false,false] rfl rfl (by kernel_rfl) (fun _ _ _ h => h) (Or.inl ⟨by rfl, ?_⟩) ?_ ?_
        rotate_left
        · intro w'
          go_simp
          with_reducible rfl
        rotate_left
        · simp only [Act.put, List.setIfInBounds_toArray, List.set_cons_zero, List.set_cons_succ, i64_w, i32_w]
          rfl
        refine pure_ (i := 8) (N := some 32) (v := ?_) (a' := ?_) #[true,true,true,true,true,true,true,true,true,false,false,false,false,false,false,false,false,false,false,false,false,false,false,false,false,false,false,false,false,false,false,false,false,false,false,false,false,false,false,false,false] rfl rfl (by kernel_rfl) (fun _ _ _ h => h) (Or.inl ⟨by rfl, ?_⟩) ?_ ?_
        rotate_left
        · intro w'
          go_simp
          with_reducible rfl
        rotate_left
        · simp only [Act.put, List.setIfInBounds_toArray, List.set_cons_zero, List.set_cons_succ, i64_w, i32_w]
          rfl
        refine pure_ (i := 9) (N := some 33) (v := ?_) (a' := ?_) #[true,true,true,true,true,true,true,true,true,true,false,false,false,false,false,false,false,false,false,false,false,false,false,false,false,false,false,false,false,false,false,false,false,false,false,false,false,false,false,false,false] rfl rfl (by kernel_rfl) (fun _ _ _ h => h) (Or.inl ⟨by rfl, ?_⟩) ?_ ?_
        rotate_left
        · intro w'
          go_simp
          with_reducible rfl
        rotate_left
        · simp only [Act.put, List.setIfInBounds_toArray, List.set_cons_zero, List.set_cons_succ, i64_w, i32_w]
          rfl
        refine pure_ (i := 10) (N := some 34) (v := ?_) (a' := ?_) #[true,true,true,true,true,true,true,true,true,true,true,false,false,false,false,false,false,false,false,false,false,false,false,false,false,false,false,false,false,false,false,false,false,false,false,false,false,false,false,false,false] rfl rfl (by kernel_rfl) (fun _ _ _ h => h) (Or.inl ⟨by rfl, ?_⟩) ?_ ?_
        rotate_left
        · intro w'
          go_simp
          with_reducible rfl
        rotate_left
        · simp only [Act.put, List.setIfInBounds_toArray, List.set_cons_zero, List.set_cons_succ, i64_w, i32_w]
          rfl
        refine pure_ (i := 12) (N := some 36) (v := ?_) (a' := ?_) #[true,true,true,true,true,true,true,true,true,true,true,false,true,false,false,false,false,false,false,false,false,false,false,false,false,false,false,false,false,false,false,false,false,false,false,false,false,false,false,false,false] rfl rfl (by kernel_rfl) (fun _ _ _ h => h) (Or.inl ⟨by rfl, ?_⟩) ?_ ?_
        rotate_left
        · intro w'
          go_simp
          with_reducible rfl
        rotate_left
        · simp only [Act.put, List.setIfInBounds_toArray, List.set_cons_zero, List.set_cons_succ, i64_w, i32_w]
          rfl
        refine take_ (i := 11) (N := some 35) (v := ?_) (a' := ?_) #[true,true,true,true,true,true,true,true,true,true,true,true,true,false,false,false,false,false,false,false,false,false,false,false,false,false,false,false,false,false,false,false,false,false,false,false,false,false,false,false,false] rfl rfl (by kernel_rfl) (fun _ _ _ h => h) (Or.inl ⟨by rfl, ?_⟩) hHeld ?_ ?_
        rotate_left
        · rintro w' ⟨s0, s1, s2, s3, s4, s5⟩
          go_simp
          with_reducible rfl
        rotate_left
        · simp only [Act.put, List.setIfInBounds_toArray, List.set_cons_zero, List.set_cons_succ, i64_w, i32_w]
          rfl
        refine pure_ (i := 13) (N := some 37) (v := ?_) (a' := ?_) #[true,true,true,true,true,true,true,true,true,true,true,true,true,true,false,false,false,false,false,false,false,false,false,false,false,false,false,false,false,false,false,false,false,false,false,false,false,false,false,false,false] rfl rfl (by kernel_rfl) (fun _ _ _ h => h) (Or.inl ⟨by rfl, ?_⟩) ?_ ?_
        rotate_left
        · intro w'
          go_simp
          with_reducible rfl
        rotate_left
        · simp only [Act.put, List.setIfInBounds_toArray, List.set_cons_zero, List.set_cons_succ, i64_w, i32_w]
          rfl
        refine pure_ (i := 14) (N := some 38) (v := ?_) (a' := ?_) #[true,true,true,true,true,true,true,true,true,true,true,true,true,true,true,false,false,false,false,false,false,false,false,false,false,false,false,false,false,false,false,false,false,false,false,false,false,false,false,false,false] rfl rfl (by kernel_rfl) (fun _ _ _ h => h) (Or.inl ⟨by rfl, ?_⟩) ?_ ?_
        rotate_left
        · intro w'
          go_simp
          with_reducible rfl
        rotate_left
        · simp only [Act.put, List.setIfInBounds_toArray, List.set_cons_zero, List.set_cons_succ, i64_w, i32_w]
          rfl
        refine pure_ (i := 15) (N := some 39) (v := ?_) (a' := ?_) #[true,true,true,true,true,true,true,true,true,true,true,true,true,true,true,true,false,false,false,false,false,false,false,false,false,false,false,false,false,false,false,false,false,false,false,false,false,false,false,false,false] rfl rfl (by kernel_rfl) (fun _ _ _ h => h) (Or.inl ⟨by rfl, ?_⟩) ?_ ?_
        rotate_left
        · intro w'
          go_simp
          with_reducible rfl
        rotate_left
        · simp only [Act.put, List.setIfInBounds_toArray, List.set_cons_zero, List.set_cons_succ, i64_w, i32_w]
          rfl
        refine pure_ (i := 16) (N := some 40) (v := ?_) (a' := ?_) #[true,true,true,true,true,true,true,true,true,true,true,true,true,true,true,true,true,false,false,false,false,false,false,false,false,false,false,false,false,false,false,false,false,false,false,false,false,false,false,false,false] rfl rfl (by kernel_rfl) (fun _ _ _ h => h) (Or.inl ⟨by rfl, ?_⟩) ?_ ?_
        rotate_left
        · intro w'
          go_simp
          with_reducible rfl
        rotate_left
        · simp only [Act.put, List.setIfInBounds_toArray, List.set_cons_zero, List.set_cons_succ, i64_w, i32_w]
          rfl
        refine pure_ (i := 18) (N := some 42) (v := ?_) (a' := ?_) #[true,true,true,true,true,true,true,true,true,true,true,true,true,true,true,true,true,false,true,false,false,false,false,false,false,false,false,false,false,false,false,false,false,false,false,false,false,false,false,false,false] rfl rfl (by kernel_rfl) (fun _ _ _ h => h) (Or.inl ⟨by rfl, ?_⟩) ?_ ?_
        rotate_left
        · intro w'
          go_simp
          with_reducible rfl
        rotate_left
        · simp only [Act.put, List.setIfInBounds_toArray, List.set_cons_zero, List.set_cons_succ, i64_w, i32_w]
          rfl
        refine take_ (i := 17) (N := some 41) (v := ?_) (a' := ?_) #[true,true,true,true,true,true,true,true,true,true,true,true,true,true,true,true,true,true,true,false,false,false,false,false,false,false,false,false,false,false,false,false,false,false,false,false,false,false,false,false,false] rfl rfl (by kernel_rfl) (fun _ _ _ h => h) (Or.inl ⟨by rfl, ?_⟩) hHeld ?_ ?_
        rotate_left
        · rintro w' ⟨s0, s1, s2, s3, s4, s5⟩
          go_simp
          with_reducible rfl
        rotate_left
        · simp only [Act.put, List.setIfInBounds_toArray, List.set_cons_zero, List.set_cons_succ, i64_w, i32_w]
          rfl
        refine take_ (i := 19) (N := some 43) (v := ?_) (a' := ?_) #[true,true,true,true,true,true,true,true,true,true,true,true,true,true,true,true,true,true,true,true,false,false,false,false,false,false,false,false,false,false,false,false,false,false,false,false,false,false,false,false,false] rfl rfl (by kernel_rfl) (fun _ _ _ h => h) (Or.inl ⟨by rfl, ?_⟩) hHeld ?_ ?_
        rotate_left
        · rintro w' ⟨s0, s1, s2, s3, s4, s5⟩
          go_simp
          with_reducible rfl
        rotate_left
        · simp only [Act.put, List.setIfInBounds_toArray, List.set_cons_zero, List.set_cons_succ, i64_w, i32_w]
          rfl
        refine pure_ (i := 20) (N := some 44) (v := ?_) (a' := ?_) #[true,true,true,true,true,true,true,true,true,true,true,true,true,true,true,true,true,true,true,true,true,false,false,false,false,false,false,false,false,false,false,false,false,false,false,false,false,false,false,false,false] rfl rfl (by kernel_rfl) (fun _ _ _ h => h) (Or.inl ⟨by rfl, ?_⟩) ?_ ?_
        rotate_left
        · intro w'
          go_simp
          with_reducible rfl
        rotate_left
        · simp only [Act.put, List.setIfInBounds_toArray, List.set_cons_zero, List.set_cons_succ, i64_w, i32_w]
          rfl
        refine pure_ (i := 21) (N := some 45) (v := ?_) (a' := ?_) #[true,true,true,true,true,true,true,true,true,true,true,true,true,true,true,true,true,true,true,true,true,true,false,false,false,false,false,false,false,false,false,false,false,false,false,false,false,false,false,false,false] rfl rfl (by kernel_rfl) (fun _ _ _ h => h) (Or.inl ⟨by rfl, ?_⟩) ?_ ?_
        rotate_left
        · intro w'
          go_simp
          with_reducible rfl
        rotate_left
        · simp only [Act.put, List.setIfInBounds_toArray, List.set_cons_zero, List.set_cons_succ, i64_w, i32_w]
          rfl
        refine pure_ (i := 22) (N := some 46) (v := ?_) (a' := ?_) #[true,true,true,true,true,true,true,true,true,true,true,true,true,true,true,true,true,true,true,true,true,true,true,false,false,false,false,false,false,false,false,false,false,false,false,false,false,false,false,false,false] rfl rfl (by kernel_rfl) (fun _ _ _ h => h) (Or.inl ⟨by rfl, ?_⟩) ?_ ?_
        rotate_left
        · intro w'
          go_simp
          with_reducible rfl
        rotate_left
        · simp only [Act.put, List.setIfInBounds_toArray, List.set_cons_zero, List.set_cons_succ, i64_w, i32_w]
          rfl
        refine pure_ (i := 23) (N := some 47) (v := ?_) (a' := ?_) #[true,true,true,true,true,true,true,true,true,true,true,true,true,true,true,true,true,true,true,true,true,true,true,true,false,false,false,false,false,false,false,false,false,false,false,false,false,false,false,false,false] rfl rfl (by kernel_rfl) (fun _ _ _ h => h) (Or.inl ⟨by rfl, ?_⟩) ?_ ?_
        rotate_left
        · intro w'
          go_simp
          with_reducible rfl
        rotate_left
        · simp only [Act.put, List.setIfInBounds_toArray, List.set_cons_zero, List.set_cons_succ, i64_w, i32_w]
          rfl
        refine pure_ (i := 25) (N := some 49) (v := ?_) (a' := ?_) #[true,true,true,true,true,true,true,true,true,true,true,true,true,true,true,true,true,true,true,true,true,true,true,true,false,true,false,false,false,false,false,false,false,false,false,false,false,false,false,false,false] rfl rfl (by kernel_rfl) (fun _ _ _ h => h) (Or.inl ⟨by rfl, ?_⟩) ?_ ?_
        rotate_left
        · intro w'
          go_simp
          with_reducible rfl
        rotate_left
        · simp only [Act.put, List.setIfInBounds_toArray, List.set_cons_zero, List.set_cons_succ, i64_w, i32_w]
          rfl
        refine pure_ (i := 26) (N := some 50) (v := ?_) (a' := ?_) #[true,true,true,true,true,true,true,true,true,true,true,true,true,true,true,true,true,true,true,true,true,true,true,true,false,true,true,false,false,false,false,false,false,false,false,false,false,false,false,false,false] rfl rfl (by kernel_rfl) (fun _ _ _ h => h) (Or.inl ⟨by rfl, ?_⟩) ?_ ?_
        rotate_left
        · intro w'
          go_simp
          with_reducible rfl
        rotate_left
        · simp only [Act.put, List.setIfInBounds_toArray, List.set_cons_zero, List.set_cons_succ, i64_w, i32_w]
          rfl
        refine pure_ (i := 27) (N := some 51) (v := ?_) (a' := ?_) #[true,true,true,true,true,true,true,true,true,true,true,true,true,true,true,true,true,true,true,true,true,true,true,true,false,true,true,true,false,false,false,false,false,false,false,false,false,false,false,false,false] rfl rfl (by kernel_rfl) (fun _ _ _ h => h) (Or.inl ⟨by rfl, ?_⟩) ?_ ?_
        rotate_left
        · intro w'
          go_simp
          with_reducible rfl
        rotate_left
        · simp only [Act.put, List.setIfInBounds_toArray, List.set_cons_zero, List.set_cons_succ, i64_w, i32_w]
          rfl
        refine take_ (i := 24) (N := some 48) (v := ?_) (a' := ?_) #[true,true,true,true,true,true,true,true,true,true,true,true,true,true,true,true,true,true,true,true,true,true,true,true,true,true,true,true,false,false,false,false,false,false,false,false,false,false,false,false,false] rfl rfl (by kernel_rfl) (fun _ _ _ h => h) (Or.inl ⟨by rfl, ?_⟩) hHeld ?_ ?_
        rotate_left
        · rintro w' ⟨s0, s1, s2, s3, s4, s5⟩
          go_simp
          with_reducible rfl
        rotate_left
        · simp only [Act.put, List.setIfInBounds_toArray, List.set_cons_zero, List.set_cons_succ, i64_w, i32_w]
          rfl
        refine pure_ (i := 28) (N := some 52) (v := ?_) (a' := ?_) #[true,true,true,true,true,true,true,true,true,true,true,true,true,true,true,true,true,true,true,true,true,true,true,true,true,true,true,true,true,false,false,false,false,false,false,false,false,false,false,false,false] rfl rfl (by kernel_rfl) (fun _ _ _ h => h) (Or.inl ⟨by rfl, ?_⟩) ?_ ?_
        rotate_left
        · intro w'
          go_simp
          with_reducible rfl
        rotate_left
        · simp only [Act.put, List.setIfInBounds_toArray, List.set_cons_zero, List.set_cons_succ, i64_w, i32_w]
          rfl
        refine pure_ (i := 29) (N := some 53) (v := ?_) (a' := ?_) #[true,true,true,true,true,true,true,true,true,true,true,true,true,true,true,true,true,true,true,true,true,true,true,true,true,true,true,true,true,true,false,false,false,false,false,false,false,false,false,false,false] rfl rfl (by kernel_rfl) (fun _ _ _ h => h) (Or.inl ⟨by rfl, ?_⟩) ?_ ?_
        rotate_left
        · intro w'
          go_simp
          with_reducible rfl
        rotate_left
        · simp only [Act.put, List.setIfInBounds_toArray, List.set_cons_zero, List.set_cons_succ, i64_w, i32_w]
          rfl
        refine pure_ (i := 30) (N := some 54) (v := ?_) (a' := ?_) #[true,true,true,true,true,true,true,true,true,true,true,true,true,true,true,true,true,true,true,true,true,true,true,true,true,true,true,true,true,true,true,false,false,false,false,false,false,false,false,false,false] rfl rfl (by kernel_rfl) (fun _ _ _ h => h) (Or.inl ⟨by rfl, ?_⟩) ?_ ?_
        rotate_left
        · intro w'
          go_simp
          with_reducible rfl
        rotate_left
        · simp only [Act.put, List.setIfInBounds_toArray, List.set_cons_zero, List.set_cons_succ, i64_w, i32_w]
          rfl
        refine pure_ (i := 31) (N := some 55) (v := ?_) (a' := ?_) #[true,true,true,true,true,true,true,true,true,true,true,true,true,true,true,true,true,true,true,true,true,true,true,true,true,true,true,true,true,true,true,true,false,false,false,false,false,false,false,false,false] rfl rfl (by kernel_rfl) (fun _ _ _ h => h) (Or.inl ⟨by rfl, ?_⟩) ?_ ?_
        rotate_left
        · intro w'
          go_simp
          with_reducible rfl
        rotate_left
        · simp only [Act.put, List.setIfInBounds_toArray, List.set_cons_zero, List.set_cons_succ, i64_w, i32_w]
          rfl
        refine pure_ (i := 34) (N := some 58) (v := ?_) (a' := ?_) #[true,true,true,true,true,true,true,true,true,true,true,true,true,true,true,true,true,true,true,true,true,true,true,true,true,true,true,true,true,true,true,true,false,false,true,false,false,false,false,false,false] rfl rfl (by kernel_rfl) (fun _ _ _ h => h) (Or.inl ⟨by rfl, ?_⟩) ?_ ?_
        rotate_left
        · intro w'
          go_simp
          with_reducible rfl
        rotate_left
        · simp only [Act.put, List.setIfInBounds_toArray, List.set_cons_zero, List.set_cons_succ, i64_w, i32_w]
          rfl
        refine pure_ (i := 36) (N := some 60) (v := ?_) (a' := ?_) #[true,true,true,true,true,true,true,true,true,true,true,true,true,true,true,true,true,true,true,true,true,true,true,true,true,true,true,true,true,true,true,true,false,false,true,false,true,false,false,false,false] rfl rfl (by kernel_rfl) (fun _ _ _ h => h) (Or.inl ⟨by rfl, ?_⟩) ?_ ?_
        rotate_left
        · intro w'
          go_simp
          with_reducible rfl
        rotate_left
        · simp only [Act.put, List.setIfInBounds_toArray, List.set_cons_zero, List.set_cons_succ, i64_w, i32_w]
          rfl
        refine take_ (i := 32) (N := some 56) (v := ?_) (a' := ?_) #[true,true,true,true,true,true,true,true,true,true,true,true,true,true,true,true,true,true,true,true,true,true,true,true,true,true,true,true,true,true,true,true,true,false,true,false,true,false,false,false,false] rfl rfl (by kernel_rfl) (fun _ _ _ h => h) (Or.inl ⟨by rfl, ?_⟩) hHeld ?_ ?_
        rotate_left
        · rintro w' ⟨s0, s1, s2, s3, s4, s5⟩
          go_simp
          with_reducible rfl
        rotate_left
        · simp only [Act.put, List.setIfInBounds_toArray, List.set_cons_zero, List.set_cons_succ, i64_w, i32_w]
          rfl
        refine take_ (i := 33) (N := some 57) (v := ?_) (a' := ?_) #[true,true,true,true,true,true,true,true,true,true,true,true,true,true,true,true,true,true,true,true,true,true,true,true,true,true,true,true,true,true,true,true,true,true,true,false,true,false,false,false,false] rfl rfl (by kernel_rfl) (fun _ _ _ h => h) (Or.inl ⟨by rfl, ?_⟩) hHeld ?_ ?_
        rotate_left
        · rintro w' ⟨s0, s1, s2, s3, s4, s5⟩
          go_simp
          with_reducible rfl
        rotate_left
        · simp only [Act.put, List.setIfInBounds_toArray, List.set_cons_zero, List.set_cons_succ, i64_w, i32_w]
          rfl
        refine take_ (i := 35) (N := some 59) (v := ?_) (a' := ?_) #[true,true,true,true,true,true,true,true,true,true,true,true,true,true,true,true,true,true,true,true,true,true,true,true,true,true,true,true,true,true,true,true,true,true,true,true,true,false,false,false,false] rfl rfl (by kernel_rfl) (fun _ _ _ h => h) (Or.inl ⟨by rfl, ?_⟩) hHeld ?_ ?_
        rotate_left
        · rintro w' ⟨s0, s1, s2, s3, s4, s5⟩
          go_simp
          with_reducible rfl
        rotate_left
        · simp only [Act.put, List.setIfInBounds_toArray, List.set_cons_zero, List.set_cons_succ, i64_w, i32_w]
          rfl
        refine one_ (i := 37) (N := some 61) #[true,true,true,true,true,true,true,true,true,true,true,true,true,true,true,true,true,true,true,true,true,true,true,true,true,true,true,true,true,true,true,true,true,true,true,true,true,true,false,false,false] rfl rfl (by kernel_rfl) (by decide) (fun K hK => ?_)
        refine goes_ Try.func65 (by kernel_rfl) rfl #[.agg #[.slice Aa h0L.length ca, .slice Ak kT.length ck], u, .agg #[.int .u64 (Ex : Int), .int .u64 (Fx : Int), .int .u64 (Tx : Int), .slice Bx 32 cx], .slice A0 N c0] (by rfl) rfl rfl (by (try simp only [List.map_toArray, List.map_cons, List.map_nil]); first | done | rfl) ?_
        with_reducible refine (CU.out _ (below_drew (Below.refl _ _))).mono ?_
        rintro v w8 ⟨v8, rfl, ho8, hb8⟩
        refine ⟨_, rfl, ?_⟩
        refine hK.out _ _ ⟨(pw_cell_below hb8 hHeld.1), (pw_cell_below hb8 hHeld.2.1), (pw_cell_below hb8 hHeld.2.2.1), (pw_cell_below hb8 hHeld.2.2.2.1), (pw_cell_below hb8 hHeld.2.2.2.2.1), (pw_cell_below hb8 hHeld.2.2.2.2.2)⟩ (fun hHeld => ?_)
        clear hK K
        refine norm_ (a' := ?_) ?_ ?_
        rotate_left
        · show Act.put _ (some 61) _ = _
          simp only [Act.put, List.setIfInBounds_toArray, List.set_cons_zero, List.set_cons_succ, i64_w, i32_w]
          rfl
        refine one_ (i := 38) (N := some 62) #[true,true,true,true,true,true,true,true,true,true,true,true,true,true,true,true,true,true,true,true,true,true,true,true,true,true,true,true,true,true,true,true,true,true,true,true,true,true,true,false,false] rfl rfl (by kernel_rfl) (by decide) (fun K hK => ?_)
        refine goes_ Try.func50 (by kernel_rfl) rfl #[.slice Bx 32 cx, v8] (by rfl) rfl rfl (by (try simp only [List.map_toArray, List.map_cons, List.map_nil]); first | done | rfl) ?_
        with_reducible refine (Same_calls _ _ Sx S0 _ (HRS.out.below (below_step (below_drew (Below.refl _ _)) hb8)) ho8.rd HSB.out HI0.out).mono ?_
        rintro v w9 ⟨rfl, hb9⟩
        refine ⟨_, rfl, ?_⟩
        rw [HBV.out]
        refine hK.out _ _ ⟨(pw_cell_below hb9 hHeld.1), (pw_cell_below hb9 hHeld.2.1), (pw_cell_below hb9 hHeld.2.2.1), (pw_cell_below hb9 hHeld.2.2.2.1), (pw_cell_below hb9 hHeld.2.2.2.2.1), (pw_cell_below hb9 hHeld.2.2.2.2.2)⟩ (fun hHeld => ?_)
        clear hK K
        refine norm_ (a' := ?_) ?_ ?_
        rotate_left
        · show Act.put _ (some 62) _ = _
          simp only [Act.put, List.setIfInBounds_toArray, List.set_cons_zero, List.set_cons_succ, i64_w, i32_w]
          rfl
        refine pure_ (i := 39) (N := some 63) (v := ?_) (a' := ?_) #[true,true,true,true,true,true,true,true,true,true,true,true,true,true,true,true,true,true,true,true,true,true,true,true,true,true,true,true,true,true,true,true,true,true,true,true,true,true,true,true,false] rfl rfl (by kernel_rfl) (fun _ _ _ h => h) (Or.inl ⟨by rfl, ?_⟩) ?_ ?_
        rotate_left
        · intro w'
          go_simp
          with_reducible rfl
        rotate_left
        · simp only [Act.put, List.setIfInBounds_toArray, List.set_cons_zero, List.set_cons_succ, i64_w, i32_w]
          rfl
        refine pure_ (i := 40) (N := some 64) (v := ?_) (a' := ?_) #[true,true,true,true,true,true,true,true,true,true,true,true,true,true,true,true,true,true,true,true,true,true,true,true,true,true,true,true,true,true,true,true,true,true,true,true,true,true,true,true,true] rfl rfl (by kernel_rfl) (fun _ _ _ h => h) (Or.inl ⟨by rfl, ?_⟩) ?_ ?_
        rotate_left
        · intro w'
          go_simp
          with_reducible rfl
        rotate_left
        · simp only [Act.put, List.setIfInBounds_toArray, List.set_cons_zero, List.set_cons_succ, i64_w, i32_w]
          rfl
        refine done_ (by kernel_rfl) ?_
        have HB9 := Aside0.mk (below_step (below_step (below_drew (Below.refl wt.heap.size wt)) hb8) hb9)
        clear hb8 hb9 ho8 y0 y1 y2 y3 z0 z1 g1 g2 g3 g4 g5 k1 k2 k4 k5 hwn
        have HB10 := Aside0.mk (below_step HBW.out HB9.out)
        have HW10 := Aside0.mk (blk_below HWT.out HB9.out)
        have HT10 := Aside0.mk (blk_below HTB.out HB9.out)
        cases bv with
        | false =>
          have HRN := Aside0.mk (show R = none by
            rw [← HGO.out, HDR.out]
            have := of_decide_eq_false HBV.out
            exact ckGo_sum HGD.out (by show suP (keyE s ((Ex : Int)).toNat) (Ex : Int) ((Fx : Int)).toNat ((Tx : Int)).toNat L ≠ Sx; rw [Int.toNat_natCast, Int.toNat_natCast, Int.toNat_natCast, HS0.out]; exact fun h => this h.symm))
          go_wp2_with fail
          go_ret2
          exact ⟨by rw [HRN.out]; rfl, HB10.out⟩
        | true =>
          have HRN := Aside0.mk (show ckGo s L (xs.drop (i + 1)) (Ex : Int) (Tx : Int) = R by
            rw [← HGO.out, HDR.out]
            have := of_decide_eq_true HBV.out
            exact (ckGo_ok HGD.out (by show suP (keyE s ((Ex : Int)).toNat) (Ex : Int) ((Fx : Int)).toNat ((Tx : Int)).toNat L = Sx; rw [Int.toNat_natCast, Int.toNat_natCast, Int.toNat_natCast, HS0.out]; exact this.symm)).symm)
          go_upto_region 8 with fail
          have y0 : w9.cell? ⟨gt, 0, none⟩ = some (.int .u64 (Ex : Int)) := blk_cell HT10.out 0
          have y2 : w9.cell? ⟨gt, 2, none⟩ = some (.int .u64 (Tx : Int)) := blk_cell HT10.out 2
          go_quiet (fail)
          have HBQ := Aside0.mk (pw_below_drewN HB10.out nq)
          have HWQ := Aside0.mk (blk_drewN HW10.out nq)
          obtain ⟨wq, hwq⟩ : ∃ wq, w9.drewN nq = wq := ⟨_, rfl⟩
          rw [hwq] at HBQ HWQ ⊢
          clear hwq y0 y2
          go_wp2_with fail
          go_roundw
          case rel => exact ⟨i + 1, Ex, Tx, by omega, by omega, by omega, by go_num, rfl, rfl, HRN, HWQ, HBQ⟩
          case measure => simp [intOf] <;> omega
      · obtain rfl : i = n := by omega
        have hR : R = some (tw : Int) := by rw [← HGO.out, List.drop_eq_nil_of_le (by rw [HNX.out]; exact Nat.le_refl _)]; rfl
        go_wp2_with fail
        go_meet
        exact ⟨tw, htw, rfl, hR, HB⟩
  case rest =>
  obtain ⟨tw, htw, rfl, hR, HBF⟩ := hcut
  have HRR := Aside0.mk hR
  have hwt : IntKind.i64.wrap (tw : Int) = (tw : Int) := by rw [IntKind.wrap_i64]; omega
  clear hR
  go_wp2_with fail
  go_ret2
  exact ⟨by rw [HRR.out]; rfl, HBF.out⟩
end Go.Proofs.Ytplmdgimodgekaa
end
section
/- Seals: rows of the document's tags that are made; tags cut; a byte that is turned. -/
namespace Go.Proofs.Ytplmdgimodgekaa
open Go.RowKit Go.Proofs.YtplmdgimodgekaaW.PrintWords Go.Proofs.YtplmdgimodgekaaW.PrintLast Go.Proofs.YtplmdgimodgekaaW.PrintMore
attribute [local go_sem] max2_int min2_int max_two min_two max_three min_three max_four min_four
set_option maxHeartbeats 8000000 in
set_option maxRecDepth 100000 in
theorem of_calls2 (x : Tg) (w : World) (hx : x.ok) : Calls Try.prog 47 #[.agg x.cells.toArray] w fun v w' => v = .returned (.agg #[.int .u64 x.e, .int .u64 x.f, .int .u64 x.t, .slice (some ⟨w.heap.size, 3, none⟩) 32 32]) ∧ w'.heap[w.heap.size]? = some (.cells x.cells.toArray 74 (0, 0)) ∧ Below w.heap.size w w' := by
  have HX := Aside0.mk hx
  have HA := Aside0.mk (blk_alloc (blk_new w (.cells x.cells.toArray 74)) (.cells #[.int .u64 0, .int .u64 0, .int .u64 0, .slice none 0 0] 70))
  have HZ0 := Aside0.mk (show ((w.alloc (.cells x.cells.toArray 74)).alloc (.cells #[.int .u64 0, .int .u64 0, .int .u64 0, .slice none 0 0] 70)).heap[w.heap.size + 1]? = some (.cells #[.int .u64 0, .int .u64 0, .int .u64 0, .slice none 0 0] 70 (0, 0)) by rw [show w.heap.size + 1 = (w.alloc (.cells x.cells.toArray 74)).heap.size from (Array.size_push _).symm]; exact blk_new _ _)
  have HB0 := Aside0.mk (below_alloc (below_alloc (Below.refl w.heap.size w) (.cells x.cells.toArray 74)) (.cells #[.int .u64 0, .int .u64 0, .int .u64 0, .slice none 0 0] 70))
  clear hx
  go_enter Try.func47, Try.ntmps47
  go_upto_region 1 with (first | (refine wpList_store_fresh rfl 74 (.tmp 1) (.tmp 0) rfl _ x.cells.toArray rfl rfl (Tg.infoS HX.out) (Tg.sz HX.out) (Tg.ones x) ?_) | fail)
  obtain ⟨wx, hwx⟩ : ∃ wx, (w.alloc (.cells x.cells.toArray 74)).alloc (.cells #[.int .u64 0, .int .u64 0, .int .u64 0, .slice none 0 0] 70) = wx := ⟨_, rfl⟩
  rw [hwx] at HZ0 HB0 HA ⊢
  clear hwx
  obtain ⟨y0, y1, y2⟩ := tgC_c (e := x.e) (f := x.f) (t := x.t) (s := x.s) HA.out
  have HTH := Aside0.mk (show wx.drew.there (w.heap.size + 1) 0 4 from there_blk HZ0.out)
  refine start_ (n := 10) (S := fun w' => w'.cell? ⟨w.heap.size, 0, none⟩ = some (.int .u64 x.e) ∧ w'.cell? ⟨w.heap.size, 1, none⟩ = some (.int .u64 x.f) ∧ w'.cell? ⟨w.heap.size, 2, none⟩ = some (.int .u64 x.t)) (ds := [9]) #[false,false,false,false,false,false,false,false,false,false] (by kernel_rfl) rfl rfl ⟨y0, y1, y2⟩ (fun hHeld => ?_)
  refine pure_ (i := 0) (N := some 3) (v := ?_) (a' := ?_) #[true,false,false,false,false,false,false,false,false,false] rfl rfl (by kernel_rfl) (fun _ _ _ h => h) (Or.inl ⟨by rfl, ?_⟩) ?_ ?_
  rotate_left
  · intro w'
    go_simp
    with_reducible rfl
  rotate_left
  · simp only [Act.put, List.setIfInBounds_toArray, List.set_cons_zero, List.set_cons_succ, i64_w, i32_w]
    rfl
  refine pure_ (i := 2) (N := some 5) (v := ?_) (a' := ?_) #[true,false,true,false,false,false,false,false,false,false] rfl rfl (by kernel_rfl) (fun _ _ _ h => h) (Or.inl ⟨by rfl, ?_⟩) ?_ ?_
  rotate_left
  · intro w'
    go_simp
    with_reducible rfl
  rotate_left
  · simp only [Act.put, List.setIfInBounds_toArray, List.set_cons_zero, List.set_cons_succ, i64_w, i32_w]
    rfl
  refine pure_ (i := 4) (N := some 7) (v := ?_) (a' := ?_) #[true,false,true,false,true,false,false,false,false,false] rfl rfl (by kernel_rfl) (fun _ _ _ h => h) (Or.inl ⟨by rfl, ?_⟩) ?_ ?_
  rotate_left
  · intro w'
    go_simp
    with_reducible rfl
  rotate_left
  · simp only [Act.put, List.setIfInBounds_toArray, List.set_cons_zero, List.set_cons_succ, i64_w, i32_w]
    rfl
  refine pure_ (i := 6) (N := some 9) (v := ?_) (a' := ?_) #[true,false,true,false,true,false,true,false,false,false] rfl rfl (by kernel_rfl) (fun _ _ _ h => h) (Or.inl ⟨by rfl, ?_⟩) ?_ ?_
  rotate_left
  · intro w'
    go_simp
    with_reducible rfl
  rotate_left
  · simp only [Act.put, List.setIfInBounds_toArray, List.set_cons_zero, List.set_cons_succ, i64_w, i32_w]
    rfl
  refine pure_ (i := 7) (N := some 10) (v := ?_) (a' := ?_) #[true,false,true,false,true,false,true,true,false,false] rfl rfl (by kernel_rfl) (fun _ _ _ h => h) (Or.inl ⟨by rfl, ?_⟩) ?_ ?_
  rotate_left
  · intro w'
    go_simp
    with_reducible rfl
  rotate_left
  · simp only [Act.put, List.setIfInBounds_toArray, List.set_cons_zero, List.set_cons_succ, i64_w, i32_w]
    rfl
  refine take_ (i := 1) (N := some 4) (v := ?_) (a' := ?_) #[true,true,true,false,true,false,true,true,false,false] rfl rfl (by kernel_rfl) (fun _ _ _ h => h) (Or.inl ⟨by rfl, ?_⟩) hHeld ?_ ?_
  rotate_left
  · rintro w' ⟨s0, s1, s2⟩
    go_simp
    with_reducible rfl
  rotate_left
  · simp only [Act.put, List.setIfInBounds_toArray, List.set_cons_zero, List.set_cons_succ, i64_w, i32_w]
    rfl
  refine take_ (i := 3) (N := some 6) (v := ?_) (a' := ?_) #[true,true,true,true,true,false,true,true,false,false] rfl rfl (by kernel_rfl) (fun _ _ _ h => h) (Or.inl ⟨by rfl, ?_⟩) hHeld ?_ ?_
  rotate_left
  · rintro w' ⟨s0, s1, s2⟩
    go_simp
    with_reducible rfl
  rotate_left
  · simp only [Act.put, List.setIfInBounds_toArray, List.set_cons_zero, List.set_cons_succ, i64_w, i32_w]
    rfl
  refine take_ (i := 5) (N := some 8) (v := ?_) (a' := ?_) #[true,true,true,true,true,true,true,true,false,false] rfl rfl (by kernel_rfl) (fun _ _ _ h => h) (Or.inl ⟨by rfl, ?_⟩) hHeld ?_ ?_
  rotate_left
  · rintro w' ⟨s0, s1, s2⟩
    go_simp
    with_reducible rfl
  rotate_left
  · simp only [Act.put, List.setIfInBounds_toArray, List.set_cons_zero, List.set_cons_succ, i64_w, i32_w]
    rfl
  refine pure_ (i := 8) (N := some 11) (v := ?_) (a' := ?_) #[true,true,true,true,true,true,true,true,true,false] rfl rfl (by kernel_rfl) (fun _ _ _ h => h) (Or.inl ⟨by rfl, ?_⟩) ?_ ?_
  rotate_left
  · intro w'
    go_simp
    with_reducible rfl
  rotate_left
  · simp only [Act.put, List.setIfInBounds_toArray, List.set_cons_zero, List.set_cons_succ, i64_w, i32_w]
    rfl
  refine last_ (i := 9) (N := none) #[true,true,true,true,true,true,true,true,true,true] rfl rfl (by kernel_rfl) (by decide) (fun K hK => ?_)
  refine store_mid_if (by rfl) 70 (.tmp 2) (.tmp 11) rfl (w.heap.size + 1) 0 #[.int .u64 x.e, .int .u64 x.f, .int .u64 x.t, .slice (some ⟨w.heap.size, 3, none⟩) 32 32] rfl rfl HTH.out info4 (by simp [Value.oneCell']) rfl ?_
  refine hK.out _ _ ?_
  clear hK K
  refine done_ (by kernel_rfl) ?_
  have HK := Aside0.mk (kp_cells (b := w.heap.size + 1) [.int .u64 x.e, .int .u64 x.f, .int .u64 x.t, .slice (some ⟨w.heap.size, 3, none⟩) 32 32] 0 wx.drew)
  have HRG := Aside0.mk (range_blk (cs := x.cells) (HK.out.blk (blk_drew HA.out) (by omega)))
  clear y0 y1 y2
  go_wp2_with fail
  refine bodyPost_ret (results_cell (i := 2) rfl rfl (run_loadVar_mid _ (w.heap.size + 1) 0 70 [.int .u64 x.e, .int .u64 x.f, .int .u64 x.t, .slice (some ⟨w.heap.size, 3, none⟩) 32 32] _ (World.rangeAt_setCells_same _ _ _ _ HTH.out) Try.underlying70 rfl info4)) rfl ⟨rfl, ?_, below_cells (Nat.le_succ _) _ _ _ (below_drew HB0.out)⟩
  exact HK.out.blk (blk_drew HA.out) (by omega)
/-- A tag and where its sum lies. -/
def qC (q : Tg × Nat) : List Value := [.int .u64 q.1.e, .int .u64 q.1.f, .int .u64 q.1.t, .slice (some ⟨q.2, 3, none⟩) 32 32]
def qcs (qs : List (Tg × Nat)) : List Value := qs.flatMap qC
theorem qcs_app (xs ys : List (Tg × Nat)) : qcs (xs ++ ys) = qcs xs ++ qcs ys := List.flatMap_append
theorem qcs_len : ∀ (xs : List (Tg × Nat)), (qcs xs).length = xs.length * 4
  | [] => rfl
  | x :: xs => by
    rw [qcs, List.flatMap_cons, List.length_append, ← qcs, qcs_len xs, List.length_cons]
    simp only [qC, List.length_cons, List.length_nil]
    omega
theorem qcs_at : ∀ (xs : List (Tg × Nat)) (i : Nat) (hi : i < xs.length) (j : Nat), j < 4 → (qcs xs)[i * 4 + j]? = (qC xs[i])[j]?
  | [], i, hi, _, _ => by simp at hi
  | x :: xs, 0, _, j, hj => by
    rw [qcs, List.flatMap_cons, Nat.zero_mul, Nat.zero_add, List.getElem?_append_left (by simp [qC]; exact hj)]
    rfl
  | x :: xs, i + 1, hi, j, hj => by
    rw [qcs, List.flatMap_cons, List.getElem?_append_right (by simp [qC]; omega), show (qC x).length = 4 from rfl, show (i + 1) * 4 + j - 4 = i * 4 + j by omega]
    exact qcs_at xs i (by simpa using hi) j hj
structure QRow (W : World) (base : Nat) (v : Value) (qs : List (Tg × Nat)) : Prop where
  row : W.ownsRow base 70 4 v qs.length (qcs qs)
  box : ∀ q ∈ qs, W.heap[q.2]? = some (.cells q.1.cells.toArray 74 (0, 0))
theorem QRow.nil (W : World) (base : Nat) : QRow W base (.slice none 0 0) [] := ⟨⟨rfl, .inl ⟨rfl, rfl⟩⟩, fun q hq => by simp at hq⟩
theorem QRow.lt {W : World} {base : Nat} {v : Value} {qs : List (Tg × Nat)} (h : QRow W base v qs) {k : Nat} (hk : v.ownBlock = some k) : base ≤ k ∧ k < W.heap.size := by
  rcases h.row.2 with ⟨rfl, _⟩ | ⟨g, cap, cur, rfl, hb, hg, r⟩
  · cases hk
  · injection hk with hk
    subst hk
    exact ⟨hb, blk_lt hg⟩
theorem QRow.below {W W' : World} {base : Nat} {v : Value} {qs : List (Tg × Nat)} (h : QRow W base v qs) (hb : Below W.heap.size W W') : QRow W' base v qs := by
  refine ⟨?_, fun q hq => blk_below (h.box q hq) hb⟩
  obtain ⟨hl, h2⟩ := h.row
  refine ⟨hl, h2.imp id ?_⟩
  rintro ⟨g, cap, cur, rfl, hb', hg, r⟩
  exact ⟨g, cap, cur, rfl, hb', blk_below hg hb, r⟩
theorem QRow.slice {W : World} {base : Nat} {v : Value} {qs : List (Tg × Nat)} (h : QRow W base v qs) {k : Nat} (hk : qs.length = k) : ∃ A c, v = .slice A k c := by
  subst hk
  rcases h.row.2 with ⟨rfl, h0⟩ | ⟨g, cap, cur, rfl, _⟩
  · exact ⟨none, 0, by rw [h0]⟩
  · exact ⟨_, _, rfl⟩
theorem QRow.ne {W : World} {base : Nat} {v : Value} {qs : List (Tg × Nat)} (h : QRow W base v qs) {g t : Nat} {cs : Array Value} (hg : W.heap[g]? = some (.cells cs t (0, 0))) (hne : 70 ≠ t) : v.ownBlock ≠ some g := fun hk => by
  rcases h.row.2 with ⟨rfl, _⟩ | ⟨g', cap, cur, rfl, hb, hg', r⟩
  · cases hk
  · injection hk with hk
    rw [show g' = g from hk] at hg'
    rw [hg] at hg'
    injection hg' with e
    injection e with _ e
    exact hne e.symm
theorem QRow.rd {W : World} {base : Nat} {v : Value} {qs : List (Tg × Nat)} (h : QRow W base v qs) (hok : ∀ q ∈ qs, q.1.ok) : WRd W v (qs.map (·.1)) := by
  obtain ⟨⟨hl, hr⟩, hbox⟩ := h
  rcases hr with ⟨rfl, h0⟩ | ⟨g, cap, cur, rfl, hb, hg, hn, hm, hs, ht⟩
  · exact ⟨none, 0, by rw [List.length_map, h0], by rw [List.length_map]; omega, fun h => by rw [List.length_map] at h; omega⟩
  · refine ⟨_, _, by rw [List.length_map], by rw [List.length_map]; omega, fun _ => ⟨g, 0, rfl, blk_lt hg, fun i hi => ?_⟩⟩
    have hi' : i < qs.length := by simpa using hi
    rw [List.getElem_map]
    have hbx := hbox _ (List.getElem_mem hi')
    have ho := hok _ (List.getElem_mem hi')
    refine ⟨some ⟨qs[i].2, 3, none⟩, 32, fun j u hu => ?_, rd_range (tgC_sum hbx) ho.2.1 (Nat.le_refl _) (by decide)⟩
    have hj : j < 4 := (List.getElem?_eq_some_iff.1 hu).1
    have hq := qcs_at qs i hi' j hj
    rw [show (qC qs[i])[j]? = some u from hu] at hq
    rw [blk_cell hg, Nat.zero_add, ← hq, ← ht, List.getElem?_take_of_lt (by omega), Array.getElem?_toList]
theorem infoTR : (Try.prog.info? 70).map (fun i => (i.zero, i.size, i.bytes)) = some (some (.agg #[.int .u64 0, .int .u64 0, .int .u64 0, .slice none 0 0]), 4, 48) := by kernel_rfl
theorem app_want {W : World} {base : Nat} {v : Value} {qs : List (Tg × Nat)} (x : Tg) (g : Nat) (hx : W.heap[g]? = some (.cells x.cells.toArray 74 (0, 0))) {k : Nat} (HO : QRow W base v qs) (hk : qs.length = k) (hbase : base ≤ W.heap.size) (hl : k ≤ 1000000) :
    ∃ A1 c1 w1, (Builtin.append_ #[68, 68] 68 #[v, .slice (some ⟨W.heap.size, 0, none⟩) 1 1]).run Try.prog (W.alloc (.cells #[.int .u64 x.e, .int .u64 x.f, .int .u64 x.t, .slice (some ⟨g, 3, none⟩) 32 32] 70)) = .ok (.slice A1 (k + 1) c1) w1 ∧ QRow w1 base (.slice A1 (k + 1) c1) (qs ++ [(x, g)]) ∧ Kp (fun b => v.ownBlock = some b) W w1 := by
  subst hk
  obtain ⟨i, hi, hzz⟩ := Option.map_eq_some_iff.1 infoTR
  simp only [Prod.mk.injEq] at hzz
  obtain ⟨hz0, hz1, hz2⟩ := hzz
  have HW := HO.below (below_alloc (Below.refl _ _) (.cells #[.int .u64 x.e, .int .u64 x.f, .int .u64 x.t, .slice (some ⟨g, 3, none⟩) 32 32] 70))
  obtain ⟨v', w', hr, ho, hg, _⟩ := run_append_own (P := Try.prog) (W.alloc (.cells #[.int .u64 x.e, .int .u64 x.f, .int .u64 x.t, .slice (some ⟨g, 3, none⟩) 32 32] 70)) base 68 68 70 i (.agg #[.int .u64 0, .int .u64 0, .int .u64 0, .slice none 0 0]) 4 48 Try.underlying68 hi hz0 hz1 hz2 rfl (by omega) v qs.length (qcs qs) HW.row ⟨W.heap.size, 0, none⟩ 1 1 (qC (x, g)) rfl (fun j u hu => by
      rw [Addr.add_mid, Nat.zero_add, blk_cell (blk_new W _) j]
      simpa [qC] using hu) (fun u hu => by simp [qC] at hu; rcases hu with rfl | rfl | rfl | rfl <;> rfl) (by unfold maxLen; omega) (by omega) (by simp; omega)
  have hkp : Kp (fun b => v.ownBlock = some b) W w' := (Kp.of_below (below_alloc (Below.refl _ _) _) _).trans (Kp.of_grown hg) (fun k hk => .inl hk)
  have ho2 : QRow w' base v' (qs ++ [(x, g)]) := by
    refine ⟨?_, fun q hq => ?_⟩
    · rw [qcs_app, List.length_append, show qcs [(x, g)] = qC (x, g) by simp [qcs]]
      exact ho
    · rw [List.mem_append, List.mem_singleton] at hq
      rcases hq with hq | rfl
      · exact hkp.blk (HO.box q hq) (fun h => HO.ne (HO.box q hq) (by decide) h)
      · exact hkp.blk hx (fun h => HO.ne hx (by decide) h)
  obtain ⟨A1, c1, rfl⟩ := ho2.slice (by rw [List.length_append])
  exact ⟨A1, c1, w', hr, ho2, hkp⟩
/-- tags[k:]. -/
theorem TRd.cut {W0 : World} {A : Option Addr} {n c : Nat} {xs : List Tg} (h : TRd W0 (.slice A n c) xs) (hn : xs.length = n) (k : Nat) (hk : k ≤ n) :
    ∃ A', (∀ W : World, (Instr.slice 40 (.slice A n c) (some (.int .i64 (k : Int))) none none).run Try.prog W = .ok (.slice A' (n - k) (c - k)) W) ∧ (∀ W : World, TRd W (.slice A n c) xs → TRd W (.slice A' (n - k) (c - k)) (xs.drop k)) := by
  obtain ⟨A2, c2, ev, hc, _⟩ := h
  simp only [Value.slice.injEq] at ev
  obtain ⟨rfl, _, rfl⟩ := ev
  have hI : (Try.prog.info? 74).map (·.size) = some 35 := info35
  obtain ⟨i, hi, hz⟩ := Option.map_eq_some_iff.1 hI
  have hel : Try.prog.elem 40 = 74 := by simp [Program.elem, Try.underlying40]
  have hu : Try.prog.underlying 40 = some (.slice (Try.prog.elem 40)) := by rw [hel]; exact Try.underlying40
  refine ⟨if c = k then A else A.map (·.add (k * 35)), fun W => ?_, fun W hw => ?_⟩
  · have hsz : (sizeOf 74).run Try.prog W = .ok 35 W := by simp [sizeOf, typeInfo, hi, hz]
    rw [run_slice_l W 40 A n c hu .i64 (k : Int) (Int.natCast_nonneg _) (by omega), hel, hsz]
    simp only [Result.andThen, sliced, Int.toNat_natCast]
  · refine ⟨_, _, by rw [List.length_drop, hn], by rw [List.length_drop]; omega, fun h0 => ?_⟩
    rw [List.length_drop] at h0
    obtain ⟨b, o, rfl, hl, hr⟩ := hw.get (by omega)
    refine ⟨b, o + k * 35, by rw [if_neg (by omega)]; simp only [Option.map_some]; rw [Addr.add_mid], hl, fun i hi => ?_⟩
    rw [List.length_drop] at hi
    rw [List.getElem_drop]
    have := hr (k + i) (by omega)
    rwa [show o + (k + i) * 35 = o + k * 35 + i * 35 by omega] at this
/-- x[k] = b, in a row of one's own. -/
theorem Own.set {W : World} {base g n c k : Nat} {xs : List Int} {x : Int} (h : Own (Value.int .u8) W base 5 (.slice (some ⟨g, 0, none⟩) n c) xs) (hn : xs.length = n) (hk : k < n) : Own (Value.int .u8) (W.setCell ⟨g, k, none⟩ (.int .u8 x)) base 5 (.slice (some ⟨g, 0, none⟩) n c) (xs.set k x) := by
  obtain ⟨hl, h2⟩ := h
  rcases h2 with ⟨e, _⟩ | ⟨g', cap, cur, hv, hb, hg, hm, hmm, hs, ht⟩
  · cases e
  · simp only [Value.slice.injEq, Option.some.injEq, Addr.mk.injEq] at hv
    obtain ⟨⟨rfl, _, _⟩, hv1, rfl⟩ := hv
    refine ⟨by simp [encs], .inr ⟨g, c, cur.setIfInBounds k (.int .u8 x), by rw [List.length_set, hn], hb, blk_set hg k _, by rw [List.length_set]; exact hm, hmm, by simpa using hs, ?_⟩⟩
    rw [List.length_set] at *
    rw [Array.toList_setIfInBounds, List.take_set, ht]
    simp [encs, List.map_set]
end Go.Proofs.Ytplmdgimodgekaa
end
section
/- Seals: the law SealChecks. -/
namespace Go.Proofs.Ytplmdgimodgekaa
open Go.RowKit Go.Proofs.YtplmdgimodgekaaW.PrintWords Go.Proofs.YtplmdgimodgekaaW.PrintLast Go.Proofs.YtplmdgimodgekaaW.PrintMore
attribute [local go_sem] max2_int min2_int max_two min_two max_three min_three max_four min_four
theorem encT_isB : ∀ (xs : List Tg), (∀ x ∈ xs, x.ok) → isB (encT xs)
  | [], _ => fun x hx => by simp [encT] at hx
  | x :: xs, h => by
    rw [encT, List.flatMap_cons, ← encT]
    exact ((words8_isB _).app (h x (by simp)).2.2).app (encT_isB xs (fun y hy => h y (by simp [hy])))
set_option maxHeartbeats 8000000 in
set_option maxRecDepth 100000 in
theorem SealChecks_main (u : Value) (s : List Int) (A : Option Addr) (n c : Nat) (l : List St) (at_ by_ cut : Int) (w : World) (hr : Rd w .u8 u s) (hib : isB s) (hrow : StRow w A n c l) (a0 : 0 ≤ at_) (a1 : at_ ≤ 65535) (b0 : 0 ≤ by_) (b1 : by_ ≤ 255) (k0 : 0 ≤ cut) (k1 : cut ≤ 255) :
    Calls Try.prog 13 #[u, .slice A n c, .int .u16 at_, .int .u8 by_, .int .u8 cut] w fun e w' => e = .returned (.bool true) ∧ Below w.heap.size w w' := by
  obtain ⟨m0, hm0⟩ : ∃ m, s.length = m := ⟨_, rfl⟩
  have HM := Aside0.mk hm0
  have HR := Aside0.mk hr
  have HIB := Aside0.mk hib
  have HRW := Aside0.mk hrow
  have HLN := Aside0.mk hrow.1
  have HIA := Aside0.mk (show isB (allN l) from by
    have h := allN_isB l (fun j y hy => by
      have h0 : 0 < n := by rw [← hrow.1]; exact Nat.lt_of_le_of_lt (Nat.zero_le _) (List.getElem?_eq_some_iff.1 hy).1
      obtain ⟨ad, _, hat⟩ := hrow.2.2.2 h0
      exact (hat j y hy).ib) l.length
    rwa [List.take_length] at h)
  clear hr hib hrow hm0
  go_enter Try.func13, Try.ntmps13
  go_wp2_with fail
  with_reducible refine (sea_awake_calls _).mono ?_
  rintro e w1 ⟨rfl, hb⟩
  have HB1 := Aside0.mk hb
  clear hb
  go_wp2_with fail
  with_reducible refine (light_calls u s A n c l _ (HR.out.below HB1.out) (HRW.out.below HB1.out)).mono ?_
  rintro e w2 ⟨bv, rfl, hbv, hb⟩
  have HB2 := Aside0.mk (below_step HB1.out hb)
  have HBV := Aside0.mk hbv
  clear hb hbv
  cases bv with
  | false =>
    go_wp2_with fail
    with_reducible refine (sea_awake_calls _).mono ?_
    rintro e w3 ⟨rfl, hb⟩
    have HB3 := Aside0.mk (below_step HB2.out hb)
    clear hb
    go_wp2_with fail
    go_ret
    exact ⟨rfl, HB3.out⟩
  | true =>
  obtain ⟨hs1, hn8, hal⟩ := HBV.out rfl
  obtain ⟨ka, hka⟩ : ∃ k, (allN l).length = k := ⟨_, rfl⟩
  have HKK := Aside0.mk hka
  rw [hka] at hal
  clear hka
  go_wp2_with fail
  with_reducible refine (sealed_calls u s A n c l _ (HR.out.below HB2.out) HIB.out (by have := HM.out; omega) (HRW.out.below HB2.out) hn8 (by have := HKK.out; omega)).mono ?_
  rintro e w5 ⟨v, t, rfl, hv, ht, hb⟩
  have HB5 := Aside0.mk (below_step HB2.out hb)
  have HTOK := Aside0.mk (tgsN_ok s l (by rw [HLN.out]; omega) (by have := HKK.out; omega) n)
  have htl := Nat.le_trans (tgsN_len s l n) hn8
  obtain ⟨ts, hts⟩ : ∃ ts, tgsN s l n = ts := ⟨_, rfl⟩
  rw [hts] at ht HTOK htl
  obtain ⟨m, hm⟩ : ∃ m, ts.length = m := ⟨_, rfl⟩
  rw [hm] at htl
  obtain ⟨At, ct, rfl⟩ := ht.slice hm
  have HML := Aside0.mk hm
  have HV := Aside0.mk hv.rd
  have HTR := Aside0.mk (ht.rd HTOK.out)
  obtain ⟨Av, cv, ev⟩ := hv.slice
  rw [HKK.out] at ev
  subst ev
  clear hv ht hb hts hm
  go_wp2_with fail
  with_reducible refine (sealEncode_calls (.slice At m ct) ts _ HTR.out HTOK.out (by rw [HML.out]; omega)).mono ?_
  rintro e w6 ⟨ux, rfl, hox, hb⟩
  have hel := encT_len ts HTOK.out
  rw [HML.out] at hel
  obtain ⟨M, hM⟩ : ∃ M, 56 * m = M := ⟨_, rfl⟩
  have hM1 : M ≤ 448 := by omega
  have HMM := Aside0.mk hM
  rw [hM] at hel
  obtain ⟨Ax, cx, rfl⟩ := own_slice hox
  have HEL := Aside0.mk hel
  rw [hel] at hox ⊢
  have HOX := Aside0.mk hox
  have HEB := Aside0.mk (encT_isB ts HTOK.out)
  have HB6 := Aside0.mk hb
  clear hb hox hel hM
  go_upto_region 9 with fail
  go_cut [45] (fun v wx => v = .bool (decide (0 < M ∧ 0 < by_)) ∧ w6 = wx)
  case first =>
    by_cases c1 : 0 < M
    · by_cases c2 : 0 < by_
      · go_wp2_with fail
        go_meet
        exact ⟨by rw [decide_eq_true (show 0 < M ∧ 0 < by_ from ⟨c1, c2⟩)], rfl⟩
      · go_wp2_with fail
        go_meet
        exact ⟨by rw [decide_eq_false (show ¬ (0 < M ∧ 0 < by_) from fun h => by have := h.2; omega)], rfl⟩
    · go_wp2_with fail
      go_meet
      exact ⟨by rw [decide_eq_false (show ¬ (0 < M ∧ 0 < by_) from fun h => by have := h.1; omega)], rfl⟩
  case rest =>
  obtain ⟨rfl, rfl⟩ := hcut
  go_upto_if 45 with fail
  go_cut [] (fun wx => ∃ y : List Int, y.length = M ∧ Aside0 (isB y) ∧ Aside0 (Own (Value.int .u8) wx w5.heap.size 5 (.slice Ax M cx) y) ∧ Aside0 (Below w5.heap.size w5 wx))
  case first =>
    by_cases c0 : 0 < M ∧ 0 < by_
    · have hd : decide (0 < M ∧ 0 < by_) = true := decide_eq_true c0
      rw [hd]
      obtain ⟨c1, c2⟩ := c0
      obtain ⟨gx, cx', cur, ev, hgx, hbx, hcx⟩ := HOX.out.block (n := 0) (c := 0) (by rw [HEL.out]; exact c1)
      rw [HEL.out] at ev hcx
      simp only [Value.slice.injEq, true_and] at ev
      obtain ⟨rfl, rfl⟩ := ev
      obtain ⟨k, hk⟩ : ∃ k : Nat, at_ % (M : Int) = (k : Int) := Int.eq_ofNat_of_zero_le (Int.emod_nonneg _ (by omega))
      have hkM : k < M := by have := Int.emod_lt_of_pos at_ (show (0 : Int) < (M : Int) by omega); omega
      have ht : at_.tmod (M : Int) = (k : Int) := by rw [Int.tmod_eq_emod_of_nonneg a0]; exact hk
      have hwa : IntKind.i64.wrap at_ = at_ := by rw [IntKind.wrap_i64]; omega
      obtain ⟨z, hz⟩ : ∃ z, (encT ts).getD k 0 = z := ⟨_, rfl⟩
      have hcell : w6.cell? ⟨gx, k, none⟩ = some (.int .u8 z) := by
        have := HOX.out.range k (.int .u8 z) (by rw [← hz]; simp [nums, List.getD_eq_getElem?_getD, List.getElem?_eq_getElem (show k < (encT ts).length by rw [HEL.out]; exact hkM)])
        rwa [Nat.zero_add] at this
      have hfr := blk_frozen hgx k
      have hxb := bits8_bd .xor z by_
      obtain ⟨x, hx⟩ : ∃ x, bits .xor .u8 z by_ = x := ⟨_, rfl⟩
      rw [hx] at hxb
      have HSET := Aside0.mk (Own.set (x := x) HOX.out HEL.out hkM)
      have HSB := Aside0.mk (show Below w5.heap.size w5 (w6.setCell ⟨gx, k, none⟩ (.int .u8 x)) from HB6.out.setCell (p := ⟨gx, k, none⟩) hbx _)
      have HSI := Aside0.mk (show isB ((encT ts).set k x) from fun y hy => by
        rcases List.mem_or_eq_of_mem_set hy with h | rfl
        · exact HEB.out y h
        · exact hxb)
      clear hk hz hgx hcx hxb
      go_wp2_with fail
      go_meet
      exact ⟨_, by rw [List.length_set, HEL.out], HSI, HSET, HSB⟩
    · have hd : decide (0 < M ∧ 0 < by_) = false := decide_eq_false c0
      rw [hd]
      go_wp2_with fail
      go_meet
      exact ⟨_, HEL.out, HEB, HOX, HB6⟩
  case rest =>
  obtain ⟨y, hy, HYB, HY, HB7⟩ := hcut
  have HYL := Aside0.mk hy
  clear hy HOX HEB HEL HB6 b0 b1 a0 a1
  have hM2 := HMM.out
  have CD := Aside0.mk (sealDecode_yes (.slice Ax M cx) y wc HY.out.rd HYB.out (by rw [HYL.out]; omega) m (by rw [HYL.out]; exact hM2.symm))
  clear hM2
  go_wp2_with fail
  with_reducible refine (CD.out).mono ?_
  rintro e w8 ⟨t2, rfl, ht2, hb⟩
  have HB8 := Aside0.mk (below_step HB7.out hb)
  have HDO := Aside0.mk (decT_ok HYB.out m (by rw [HYL.out]; exact Nat.le_of_eq HMM.out))
  obtain ⟨A2, c2, rfl⟩ := ht2.slice (decT_len y m)
  have HT2 := Aside0.mk (ht2.rd HDO.out)
  obtain ⟨q, hq⟩ : ∃ q : Nat, cut % 4 = (q : Int) := Int.eq_ofNat_of_zero_le (Int.emod_nonneg _ (by decide))
  have hq3 : q ≤ 3 := by omega
  have hqt : cut.tmod 4 = (q : Int) := by rw [Int.tmod_eq_emod_of_nonneg k0]; exact hq
  have hqw : IntKind.i64.wrap (q : Int) = (q : Int) := by rw [IntKind.wrap_i64]; omega
  obtain ⟨km, hkm, hkm2, hkm3⟩ : ∃ km : Nat, (if (m : Int) < (q : Int) then (m : Int) else (q : Int)) = (km : Int) ∧ km ≤ m ∧ km ≤ 3 := by
    by_cases ck : m < q
    · exact ⟨m, by rw [if_pos (by omega)], Nat.le_refl _, by omega⟩
    · exact ⟨q, by rw [if_neg (by omega)], by omega, by omega⟩
  have hmin : min (q : Int) (m : Int) = (km : Int) := by
    by_cases ck : m < q
    · rw [if_pos (by omega)] at hkm; omega
    · rw [if_neg (by omega)] at hkm; omega
  have hkm' : (if m < q then (m : Int) else (q : Int)) = (km : Int) := by
    by_cases ck : m < q
    · rw [if_pos ck]; omega
    · rw [if_neg ck]; omega
  obtain ⟨A3, hsl, hcut⟩ := TRd.cut HT2.out (decT_len y m) km hkm2
  obtain ⟨xs, hxs⟩ : ∃ xs, (decT y m).drop km = xs := ⟨_, rfl⟩
  obtain ⟨n3, hn3⟩ : ∃ n3, m - km = n3 := ⟨_, rfl⟩
  rw [hn3] at hsl
  have HT3 := Aside0.mk (hcut w8 HT2.out)
  rw [hxs, hn3] at HT3
  have HXO := Aside0.mk (show ∀ x ∈ xs, x.ok from fun x hx => HDO.out x (List.mem_of_mem_drop (by rw [hxs]; exact hx)))
  have HXL := Aside0.mk (show xs.length = n3 by rw [← hxs, List.length_drop, decT_len]; exact hn3)
  have hn38 : n3 ≤ 8 := by omega
  clear hb ht2 hcut hxs hn3 hq
  go_upto_block 0 with (fail)
  clear hkm hkm' hmin hqt hqw hsl hkm2 hkm3 hq3
  go_cut [15] (fun v wx => ∃ gs : List Nat, gs.length = n3 ∧ Aside0 (QRow wx w8.heap.size v (xs.zip gs)) ∧ Aside0 (Below w8.heap.size w8 wx))
  case first =>
    go_wp2_with fail
    go_loopw [15, 16] (fun v15 v16 w' => ∃ (i : Nat) (gs : List Nat), i ≤ n3 ∧ gs.length = i ∧ v16 = .int .i64 (i : Int) ∧ Aside0 (QRow w' w8.heap.size v15 ((xs.take i).zip gs)) ∧ Aside0 (Below w8.heap.size w8 w')) (fun _ v16 _ => n3 - (intOf v16).toNat)
    case atStart => exact ⟨0, [], by omega, rfl, rfl, Aside0.mk (QRow.nil _ _), Aside0.mk (Below.refl _ _)⟩
    case round =>
      obtain ⟨i, gs, hi, hgl, rfl, HQ, HBQ⟩ := hrel
      by_cases c3 : i < n3
      · have hil : i < xs.length := by rw [HXL.out]; exact c3
        obtain ⟨bx, ox, rfl, hbl, hrr⟩ := HT3.out.get (by omega)
        have hr1 := range_below (hrr i hil) HBQ.out
        obtain ⟨x, hx⟩ : ∃ x, xs[i] = x := ⟨_, rfl⟩
        have hxo := HXO.out _ (List.getElem_mem hil)
        rw [hx] at hr1 hxo
        have HRX := Aside0.mk hr1
        have HXX := Aside0.mk hxo
        have hzl : ((xs.take i).zip gs).length = i := by rw [List.length_zip, List.length_take, hgl, HXL.out]; omega
        have HZL := Aside0.mk hzl
        have HZS := Aside0.mk (fun (g : Nat) => (by
          rw [List.take_add_one, List.getElem?_eq_getElem hil, hx]
          show _ = (xs.take i ++ [x]).zip (gs ++ [g])
          rw [List.zip_append (show (xs.take i).length = gs.length by rw [List.length_take, hgl, HXL.out]; omega)]
          rfl : (xs.take i).zip gs ++ [(x, g)] = (xs.take (i + 1)).zip (gs ++ [g])))
        obtain ⟨A15, c15, ev⟩ := HQ.out.slice hzl
        subst ev
        have HGL := Aside0.mk hgl
        clear hrr hr1 hxo hx hzl hgl
        go_wp2_with (first | (refine wpList_load_mid rfl 74 (.tmp 81) rfl bx (ox + i * 35) rfl x.cells _ HRX.out Try.underlying74 rfl (Tg.infoL HXX.out) ?_) | fail)
        with_reducible refine (of_calls2 x _ HXX.out).mono ?_
        rintro e wo ⟨rfl, hbox, hb⟩
        obtain ⟨go, hgo⟩ : ∃ g, wr.heap.size = g := ⟨_, rfl⟩
        rw [hgo] at hbox ⊢
        have hbq := below_step HBQ.out hb
        obtain ⟨A16, c16, w16, hr16, hq16, hk16⟩ := app_want x go hbox (HQ.out.below hb) HZL.out hbq.size (by omega)
        have HR16 := Aside0.mk hr16
        have HQ16 := Aside0.mk (show QRow w16 w8.heap.size (.slice A16 (i + 1) c16) ((xs.take (i + 1)).zip (gs ++ [go])) by rw [← HZS.out go]; exact hq16)
        have HB16 := Aside0.mk (show Below w8.heap.size w8 w16 from Kp.from hbq hk16 (fun k hk => (HQ.out.lt hk).1))
        clear hbox hb hgo hbq hr16 hq16 hk16
        go_wp2_with (first | ((with_reducible refine gate_builtin (b := .append) (xs := #[.tmp 78, .tmp 84]) rfl ?_); at_builtin; refine app_list rfl (.tmp 78) (.tmp 84) rfl rfl rfl HR16.out ?_))
        go_roundw
        case rel => exact ⟨i + 1, gs ++ [go], by omega, by rw [List.length_append, HGL.out]; rfl, by go_num, HQ16, HB16⟩
        case measure => simp [intOf] <;> omega
      · obtain rfl : i = n3 := by omega
        go_wp2_with fail
        go_meet
        rw [List.take_of_length_le (by rw [HXL.out]; exact Nat.le_refl _)] at HQ
        exact ⟨gs, hgl, HQ, HBQ⟩
  case rest =>
  obtain ⟨gs, hgl, HQ, HBQ⟩ := hcut
  have hgl2 : xs.length = gs.length := by rw [HXL.out, hgl]
  have hz : (xs.zip gs).length = n3 := by rw [List.length_zip, HXL.out, hgl]; omega
  have hmz : (xs.zip gs).map (·.1) = xs := List.map_fst_zip (by rw [hgl2]; exact Nat.le_refl _)
  obtain ⟨Aq, cq, evq⟩ := HQ.out.slice hz
  subst evq
  have HWR := Aside0.mk (HQ.out.rd (fun q hq => HXO.out q.1 (List.of_mem_zip (show (q.1, q.2) ∈ xs.zip gs from hq)).1))
  rw [hmz] at HWR
  have HB9 := Aside0.mk (below_step HB5.out (below_step HB8.out HBQ.out))
  have HV9 := Aside0.mk (HV.out.below (below_step HB8.out HBQ.out))
  have HT9 := Aside0.mk (HT3.out.below HBQ.out)
  obtain ⟨R, hR⟩ : ∃ R, ckGo s (allN l) xs 0 0 = R := ⟨_, rfl⟩
  have HCR := Aside0.mk hR
  clear hgl2 hz hmz hgl hR
  go_wp2_with fail
  with_reducible refine (Check_calls u (.slice Av ka cv) (.slice A3 n3 (c2 - km)) s (allN l) xs _ (HR.out.below HB9.out) HIB.out (by have := HM.out; omega) HV9.out HIA.out (by have := HKK.out; omega) HT9.out HXO.out (by rw [HXL.out]; omega)).mono ?_
  rintro e wd ⟨rfl, hb⟩
  rw [HCR.out]
  have HB10 := Aside0.mk (below_step HB9.out hb)
  have HV10 := Aside0.mk (HV9.out.below hb)
  have HW10 := Aside0.mk (HWR.out.below hb)
  clear hb
  cases R with
  | none =>
    rw [show ckV none = .tuple #[.int .i64 0, .int .i64 27] from rfl]
    go_wp2_with fail
    with_reducible refine (Words45_calls _).mono ?_
    rintro e we ⟨va, vk, rfl, ha, hk, hb⟩
    have HA := Aside0.mk ha.rd
    have HK := Aside0.mk hk.rd
    have HB11 := Aside0.mk (below_step HB10.out hb)
    have HV11 := Aside0.mk (HV10.out.below hb)
    have HW11 := Aside0.mk (HW10.out.below hb)
    clear ha hk hb
    go_wp2_with fail
    with_reducible refine (refCheck_calls va vk u (.slice Av ka cv) (.slice Aq n3 cq) s (allN l) xs _ HA.out HK.out (HR.out.below HB11.out) HIB.out (by have := HM.out; omega) HV11.out HIA.out (by have := HKK.out; omega) HW11.out HXO.out (by rw [HXL.out]; omega)).mono ?_
    rintro e wf ⟨rfl, hb⟩
    rw [HCR.out]
    rw [show ckW none = .tuple #[.int .i64 0, .bool false] from rfl]
    have HB12 := Aside0.mk (below_step HB11.out hb)
    clear hb
    go_wp2_with fail
    with_reducible refine (sea_awake_calls _).mono ?_
    rintro e wg ⟨rfl, hb⟩
    have HB13 := Aside0.mk (below_step HB12.out hb)
    clear hb
    go_wp2_with fail
    go_ret
    exact ⟨rfl, HB13.out⟩
  | some tw =>
    rw [show ckV (some tw) = .tuple #[.int .i64 tw, .int .i64 0] from rfl]
    have e1 : (tw == tw) = true := by simp
    go_wp2_with fail
    with_reducible refine (Words45_calls _).mono ?_
    rintro e we ⟨va, vk, rfl, ha, hk, hb⟩
    have HA := Aside0.mk ha.rd
    have HK := Aside0.mk hk.rd
    have HB11 := Aside0.mk (below_step HB10.out hb)
    have HV11 := Aside0.mk (HV10.out.below hb)
    have HW11 := Aside0.mk (HW10.out.below hb)
    clear ha hk hb
    go_wp2_with fail
    with_reducible refine (refCheck_calls va vk u (.slice Av ka cv) (.slice Aq n3 cq) s (allN l) xs _ HA.out HK.out (HR.out.below HB11.out) HIB.out (by have := HM.out; omega) HV11.out HIA.out (by have := HKK.out; omega) HW11.out HXO.out (by rw [HXL.out]; omega)).mono ?_
    rintro e wf ⟨rfl, hb⟩
    rw [HCR.out]
    rw [show ckW (some tw) = .tuple #[.int .i64 tw, .bool true] from rfl]
    have HB12 := Aside0.mk (below_step HB11.out hb)
    clear hb
    go_wp2_with fail
    with_reducible refine (sea_awake_calls _).mono ?_
    rintro e wg ⟨rfl, hb⟩
    have HB13 := Aside0.mk (below_step HB12.out hb)
    clear hb
    go_wp2_with fail
    go_ret
    exact ⟨rfl, HB13.out⟩
theorem SealChecks_walk (a0 : Option Addr) (len0 cap0 : Nat) (z0 : List Int) (A1 : Option Addr) (n1 c1 : Nat) (l1 : List St) (at_ by_ cut : Int) (w : World) (w0 : (a0 = none ∧ len0 = 0 ∧ cap0 = 0 ∧ z0 = []) ∨ ∃ x, a0 = some x ∧ len0 ≤ cap0 ∧ cap0 ≤ maxLen ∧ z0.length = cap0 ∧ (∀ i, i < z0.length → w.cell? (x.add i) = some (.int .u8 (z0.getD i 0))) ∧ ∀ n ∈ z0, (Lit.int .u8 n).wf = true) (y0 : len0 * 1 ≤ 140737488351232) (h1 : StRow w A1 n1 c1 l1) (wa : (Lit.int .u16 at_).wf = true) (wb : (Lit.int .u8 by_).wf = true) (wc : (Lit.int .u8 cut).wf = true) : Calls Try.prog 13 #[.slice a0 len0 cap0, .slice A1 n1 c1, .int .u16 at_, .int .u8 by_, .int .u8 cut] w fun e w' => e = .returned (.bool true) ∧ Below w.heap.size w w' := by
  obtain ⟨l0, rfl, hr0, hm0, hw0, hc0⟩ := ReadsInt.ofRowC w0
  exact SealChecks_main _ l0 A1 n1 c1 l1 at_ by_ cut w ⟨_, _, rfl, hc0, hr0⟩ (wf_isB hw0) h1 (bounds_u16 wa).1 (bounds_u16 wa).2 (bounds_u8 wb).1 (bounds_u8 wb).2 (bounds_u8 wc).1 (bounds_u8 wc).2
end Go.Proofs.Ytplmdgimodgekaa
end
