/- MixParts: slices of slices of bytes that are read; the walk. -/
import Derived.Test.YtekbidjfddanhaaMix3
import Derived.Test.YtekbidjfddanhaaMixA
import Derived.Test.YtekbidjfddanhaaRows8
namespace Go.Proofs.Ytekbidjfddanhaa
open Go.RowKit Go.Proofs.YtekbidjfddanhaaW.PrintWords Go.Proofs.YtekbidjfddanhaaW.PrintLast Go.Proofs.YtekbidjfddanhaaW.PrintMore
attribute [local go_sem] max2_int min2_int max_two min_two max_three min_three max_four min_four   -- for this text's walks alone
set_option linter.unusedVariables false
set_option linter.unusedSimpArgs false

theorem MixS.value {W : World} {g base : Nat} {key : Int} {v : Value} {L : List Int} (h : MixS W g base key v L) (hb : isB L) :
    Calls Try.prog 41 #[.pointer (some ⟨g, 0, none⟩)] W fun e w' => e = .returned (.int .u64 (sumP key L)) ∧ Below W.heap.size W w' :=
  Value_calls W g _ _ v _ h.1 h.2.rd (hb.drop _) (by rw [List.length_drop]; omega)
set_option maxHeartbeats 8000000 in
set_option maxRecDepth 100000 in
theorem MixParts_calls (key : Int) (A : Option Addr) (c : Nat) (rows : List (List Int)) (w : World) (hr : RdR w (.slice A rows.length c) rows) (hb : ∀ r ∈ rows, isB r) :
    Calls Try.prog 10 #[.int .u64 key, .slice A rows.length c] w fun e w' => e = .returned (.bool true) ∧ Below w.heap.size w w' := by
  have HR := Aside0.mk hr
  have HIB := Aside0.mk hb
  obtain ⟨n, hn⟩ : ∃ n, rows.length = n := ⟨_, rfl⟩
  rw [hn] at HR ⊢
  have hn1 := RdR.le HR.out
  rw [hn] at hn1
  have HN := Aside0.mk hn
  clear hr hb hn
  go_enter Try.func10, Try.ntmps10
  go_wp2_with fail
  refine (New_calls key _).mono ?_
  rintro e w1 ⟨rfl, hs, hb⟩
  have HS1 := Aside0.mk (show MixS w1 w.heap.size w.heap.size key (.slice none 0 0) [] from ⟨hs, OwnO.nil _ _ _ _⟩)
  have HB1 := Aside0.mk hb
  clear hs hb
  obtain ⟨g, hg⟩ : ∃ g, w.heap.size = g := ⟨_, rfl⟩
  rw [hg] at HS1 HB1 ⊢
  have HG := Aside0.mk hg
  clear hg
  go_wp2_with fail
  go_loopg [6, 7] n (fun kq v6 v7 w' => ∃ (i N : Nat) (v : Value) (A6 : Option Addr) (c6 : Nat), i + kq = n ∧ i ≤ 30 ∧ N ≤ 200 * i ∧ v7 = .int .i64 i ∧ v6 = .slice A6 N c6 ∧ Aside0 ((rows.take i).flatten.length = N) ∧ Aside0 (isB (rows.take i).flatten) ∧ Aside0 (MixS w' g g key v (rows.take i).flatten) ∧ Aside0 (Own (Value.int .u8) w' g 5 (.slice A6 N c6) (rows.take i).flatten) ∧ Aside0 (∀ b, v.ownBlock = some b → (.slice A6 N c6 : Value).ownBlock ≠ some b) ∧ Aside0 (Below g w w'))
  case atStart => exact ⟨0, 0, .slice none 0 0, none, 0, by omega, by omega, by omega, rfl, rfl, ⟨rfl⟩, ⟨fun x hx => by simp at hx⟩, HS1, ⟨Own.nil _ _ _ _⟩, ⟨fun b h => by cases h⟩, HB1⟩
  case round =>
    clear HS1 HB1
    obtain ⟨i, N, v, A6, c6, hin, hi30, hN, rfl, rfl, HL, HIBA, HS, HO, HAP, HB⟩ := hrel
    by_cases c1 : i < n
    · by_cases c2 : i < 30
      · obtain ⟨ad, rfl, u, hcell, hru⟩ := RdR.at HR.out i (by rw [HN.out]; exact c1)
        obtain ⟨m, hm⟩ : ∃ m, rows.getD i [] = m := ⟨_, rfl⟩
        rw [hm] at hru
        have hbm : isB m := by rw [← hm]; exact RdR.mem HIB.out i
        have HFL := Aside0.mk (show (rows.take (i + 1)).flatten = (rows.take i).flatten ++ m by rw [← hm]; exact rows_snoc rows i (by rw [HN.out]; exact c1))
        obtain ⟨all, hall⟩ : ∃ l, (rows.take i).flatten = l := ⟨_, rfl⟩
        rw [hall] at HL HIBA HS HO HFL
        have HBM := Aside0.mk hbm
        have HRU := Aside0.mk hru
        obtain ⟨Au, cu, eu, _, hmu, _⟩ := hru.mid
        subst eu
        have hcell' := pw_cell_below (show Below w.heap.size w wr by rw [HG.out]; exact HB.out) hcell
        obtain ⟨M, hM⟩ : ∃ M, m.length = M := ⟨_, rfl⟩
        rw [hM] at HRU hcell' hmu hcell
        have HC := Aside0.mk hcell
        have HM := Aside0.mk hM
        have HBW := Aside0.mk (show Below w.heap.size w wr by rw [HG.out]; exact HB.out)
        clear hru hm hbm hall hcell hM
        by_cases c3 : 200 < M
        · have t3 : decide ((200 : Int) < (M : Int)) = true := by simp; omega
          go_wp2_with fail
          refine (mix_awake_calls _).mono ?_
          rintro e w2 ⟨rfl, hb⟩
          have HB2 := Aside0.mk (Kp.from HBW.out (Kp.of_below hb (fun _ => False)) (fun k hk => hk.elim))
          clear hb
          go_wp2_with fail
          go_ret
          exact ⟨rfl, HB2.out⟩
        · have t3 : decide ((200 : Int) < (M : Int)) = false := by simp; omega
          have HAB := Aside0.mk (show isB (all ++ m) from HIBA.out.app HBM.out)
          have hgs : g ≤ wr.heap.size := by have := HBW.out.size; have := HG.out; omega
          go_wp2_with fail
          refine (MixAdd_calls _ m wr g g key v all HS.out (HRU.out.below HBW.out) HAB.out hgs (Nat.le_refl _) (by rw [HL.out]; omega) (by rw [HM.out]; omega)).mono ?_
          rintro e w2 ⟨rfl, v', hs2, hk2, ha2⟩
          have HB2 := Aside0.mk (show Below w.heap.size w w2 from Kp.from HBW.out hk2 (fun k hk => by
            have := HG.out
            rcases hk with rfl | hk
            · omega
            · have := HS.out.2.ge hk; omega))
          have HO2 := Aside0.mk (show Own (Value.int .u8) w2 g 5 (.slice A6 N c6) all from hk2.own HO.out (fun b hb hk => by
            rcases hk with rfl | hk
            · exact HO.out.ne HS.out.1 (by decide) hb
            · exact HAP.out b hk hb))
          have HAP2 := Aside0.mk (show ∀ b, v'.ownBlock = some b → (.slice A6 N c6 : Value).ownBlock ≠ some b from fun b hb e => by
            rcases ha2 with h | ⟨b', h, hle⟩
            · rw [h] at hb; exact HAP.out b hb e
            · rw [h] at hb; injection hb with hb; have := HO.out.lt e; omega)
          have HS2 := Aside0.mk hs2
          have hgs2 : g ≤ w2.heap.size := by have := HB2.out.size; have := HG.out; omega
          clear hs2 hk2 ha2
          obtain ⟨A4, c4, w4, hrun4, hO4, hg4, hat4⟩ := app8 HO2.out (HRU.out.below HB2.out) hgs2 (by rw [HL.out, HM.out]; omega)
          obtain ⟨N2, hN2⟩ : ∃ N2, (all ++ m).length = N2 := ⟨_, rfl⟩
          have hN3 : N2 = N + M := by rw [← hN2, List.length_append, HL.out, HM.out]
          rw [hN2] at hrun4 hO4 hat4
          have HS4 := Aside0.mk (show MixS w4 g g key v' (all ++ m) from ⟨blk_grown HS2.out.1 hg4 (fun e => HO2.out.ne HS2.out.1 (by decide) e.symm), HS2.out.2.move (fun b hb => hg4.block b (HS2.out.2.lt hb) (fun e => HAP2.out b hb e.symm))⟩)
          have HAP4 := Aside0.mk (show ∀ b, v'.ownBlock = some b → (.slice A4 N2 c4 : Value).ownBlock ≠ some b from fun b hb e => by
            rcases hat4 with h | ⟨b', h, hle⟩
            · rw [h] at e; exact HAP2.out b hb e
            · rw [h] at e; injection e with e; have := HS2.out.2.lt hb; omega)
          have HB4 := Aside0.mk (show Below w.heap.size w w4 from Kp.from HB2.out (Kp.of_grown hg4) (fun k hk => by have := HO2.out.ge hk; have := HG.out; omega))
          have HO4 := Aside0.mk hO4
          have HR4 := Aside0.mk hrun4
          have HL2 := Aside0.mk hN2
          have hN4 : N2 ≤ 200 * (i + 1) := by omega
          have hcell2 := pw_cell_below HB2.out HC.out
          clear hrun4 hO4 hg4 hat4 hN2 hN3
          go_wp2_with (first | ((with_reducible refine gate_builtin (b := .append) (xs := #[.tmp 35, .tmp 39]) rfl ?_); at_builtin; refine app_list rfl (.tmp 35) (.tmp 39) rfl rfl rfl HR4.out ?_))
          refine (HS4.out.value HAB.out).mono ?_
          rintro e w5 ⟨rfl, hb5⟩
          have HB5 := Aside0.mk (below_step HB4.out hb5)
          have HS5 := Aside0.mk (HS4.out.below hb5)
          have HO5 := Aside0.mk (HO4.out.below hb5)
          clear hb5
          go_wp2_with fail
          refine (ref_Hash_calls key _ (all ++ m) _ (Own.rd HO5.out) HAB.out (by rw [HL2.out]; omega)).mono ?_
          rintro e w6 ⟨rfl, hb6⟩
          have HB6 := Aside0.mk (show Below g w w6 by rw [← HG.out]; exact below_step HB5.out hb6)
          have HS6 := Aside0.mk (HS5.out.below hb6)
          have HO6 := Aside0.mk (HO5.out.below hb6)
          clear hb6
          obtain ⟨r, hr⟩ : ∃ r, sumP key (all ++ m) = r := ⟨_, rfl⟩
          rw [hr]
          have hrr : (r != r) = false := by simp
          clear hr
          rw [← HFL.out] at HS6 HO6 HL2 HAB
          go_wp2_with fail
          go_roundg (n - (i + 1))
          case measure => omega
          case rel => exact ⟨i + 1, N2, v', A4, c4, by omega, by omega, hN4, by go_num, rfl, HL2, HAB, HS6, HO6, HAP4, HB6⟩
      · have t1 : decide ((i : Int) < (n : Int)) = true := by simp; omega
        have t2 : decide ((i : Int) < 30) = false := by simp; omega
        have hc := trivial
        clear hc
        obtain ⟨all, hall⟩ : ∃ l, (rows.take i).flatten = l := ⟨_, rfl⟩
        rw [hall] at HL HIBA HS HO
        have HBW := Aside0.mk (show Below w.heap.size w wr by rw [HG.out]; exact HB.out)
        clear hall
        go_wp2_with fail
        refine (HS.out.value HIBA.out).mono ?_
        rintro e w5 ⟨rfl, hb5⟩
        have HB5 := Aside0.mk (below_step HBW.out hb5)
        have HO5 := Aside0.mk (HO.out.below hb5)
        clear hb5
        go_wp2_with fail
        refine (ref_Hash_calls key _ all _ (Own.rd HO5.out) HIBA.out (by rw [HL.out]; omega)).mono ?_
        rintro e w6 ⟨rfl, hb6⟩
        have HB6 := Aside0.mk (below_step HB5.out hb6)
        clear hb6
        obtain ⟨r, hr⟩ : ∃ r, sumP key all = r := ⟨_, rfl⟩
        rw [hr]
        have hrr : (r == r) = true := by simp
        clear hr
        go_wp2_with fail
        refine (mix_awake_calls _).mono ?_
        rintro e w7 ⟨rfl, hb7⟩
        have HB7 := Aside0.mk (below_step HB6.out hb7)
        clear hb7
        go_wp2_with fail
        go_ret
        exact ⟨rfl, HB7.out⟩
    · have t1 : decide ((i : Int) < (n : Int)) = false := by simp; omega
      have hc := trivial
      clear hc
      obtain ⟨all, hall⟩ : ∃ l, (rows.take i).flatten = l := ⟨_, rfl⟩
      rw [hall] at HL HIBA HS HO
      have HBW := Aside0.mk (show Below w.heap.size w wr by rw [HG.out]; exact HB.out)
      clear hall
      go_wp2_with fail
      refine (HS.out.value HIBA.out).mono ?_
      rintro e w5 ⟨rfl, hb5⟩
      have HB5 := Aside0.mk (below_step HBW.out hb5)
      have HO5 := Aside0.mk (HO.out.below hb5)
      clear hb5
      go_wp2_with fail
      refine (ref_Hash_calls key _ all _ (Own.rd HO5.out) HIBA.out (by rw [HL.out]; omega)).mono ?_
      rintro e w6 ⟨rfl, hb6⟩
      have HB6 := Aside0.mk (below_step HB5.out hb6)
      clear hb6
      obtain ⟨r, hr⟩ : ∃ r, sumP key all = r := ⟨_, rfl⟩
      rw [hr]
      have hrr : (r == r) = true := by simp
      clear hr
      go_wp2_with fail
      refine (mix_awake_calls _).mono ?_
      rintro e w7 ⟨rfl, hb7⟩
      have HB7 := Aside0.mk (below_step HB6.out hb7)
      clear hb7
      go_wp2_with fail
      go_ret
      exact ⟨rfl, HB7.out⟩
theorem MixParts_walk (key : Int) (A : Option Addr) (c : Nat) (rows : List (List Int)) (w : World) (w0 : (Lit.int .u64 key).wf = true) (hr : RdR w (.slice A rows.length c) rows) (hb : ∀ r ∈ rows, isB r) :
    Calls Try.prog 10 #[.int .u64 key, .slice A rows.length c] w fun e w' => e = .returned (.bool true) ∧ Below w.heap.size w w' := MixParts_calls key A c rows w hr hb
end Go.Proofs.Ytekbidjfddanhaa
