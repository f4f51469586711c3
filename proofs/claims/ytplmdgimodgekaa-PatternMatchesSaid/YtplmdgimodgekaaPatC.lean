/- Patterns: the program's parts. -/
import Derived.Test.YtplmdgimodgekaaPatB
namespace Go.Proofs.Ytplmdgimodgekaa
open Go.RowKit Go.Proofs.YtplmdgimodgekaaW.PrintWords Go.Proofs.YtplmdgimodgekaaW.PrintLast Go.Proofs.YtplmdgimodgekaaW.PrintMore
attribute [local go_sem] max2_int min2_int max_two min_two max_three min_three max_four min_four   -- for this text's walks alone
set_option linter.unusedVariables false
set_option linter.unusedSimpArgs false

theorem wdN_no : ∀ n, wdN (fun _ => false) n = 0
  | 0 => rfl
  | n + 1 => by rw [wdN, wdN_no n]; rfl
theorem wdI_empty (k : Nat) : wdI [] k = 0 := by
  show ((wdN (fun _ => false) 64 : Nat) : Int) = 0
  rw [wdN_no]; rfl
theorem ptA_lit (k : Nat) (c : Int) : ptA ⟨k, c, [], false⟩ = #[.int .i64 (k : Int), .int .u8 c, .int .u64 0, .int .u64 0, .int .u64 0, .int .u64 0, .bool false] := by
  unfold ptA
  dsimp only
  rw [wdI_empty, wdI_empty, wdI_empty, wdI_empty]
def PartD (w w' : World) (g : Nat) (L : List Int) (c : Int) (a : Nat) (n : Int) (e : Ending) : Prop := ∃ (p : Pt) (ok : Bool) (b : Nat), e = .returned (.tuple #[.agg (ptA p), .bool ok]) ∧ a ≤ b ∧ b ≤ L.length ∧ partP (c :: L.drop a) = (if ok = true then some (p, L.drop b) else none) ∧ RpV w' g L (b : Nat) (n + 1) ∧ Kp (fun k => k = g) w w'
theorem PartD.of {w w' : World} {g : Nat} {L : List Int} {c : Int} {a : Nat} {n : Int} {e : Ending} (p : Pt) (ok : Bool) (b : Nat) (he : e = .returned (.tuple #[.agg (ptA p), .bool ok])) (h1 : a ≤ b) (h2 : b ≤ L.length) (h3 : partP (c :: L.drop a) = (if ok = true then some (p, L.drop b) else none)) (h4 : RpV w' g L (b : Nat) (n + 1)) (h5 : Kp (fun k => k = g) w w') : PartD w w' g L c a n e := ⟨p, ok, b, he, h1, h2, h3, h4, h5⟩
theorem part_q (l : List Int) : partP (63 :: l) = some (⟨1, 0, [], false⟩, l) := rfl
theorem part_s (l : List Int) : partP (42 :: l) = some (⟨2, 0, [], false⟩, l) := rfl
theorem part_b (l : List Int) : partP (91 :: l) = setQ l := rfl
theorem part_c {c : Int} (l : List Int) (h1 : c ≠ 63) (h2 : c ≠ 42) (h3 : c ≠ 91) {d : Int} {r : List Int} {ok : Bool} (h : litP (c :: l) = if ok = true then some (d, r) else none) : partP (c :: l) = if ok = true then some (⟨0, d, [], false⟩, r) else none := by
  rw [partP, if_neg (by simpa using h1), if_neg (by simpa using h2), if_neg (by simpa using h3), h]
  cases ok <;> rfl
theorem z7k_ones (k c : Int) : (#[.int .i64 k, .int .u8 c, .int .u64 0, .int .u64 0, .int .u64 0, .int .u64 0, .bool false] : Array Value).all (·.oneCell') = true := by simp [Value.oneCell']
set_option maxHeartbeats 8000000 in
set_option maxRecDepth 100000 in
theorem pPart_calls (w : World) (g : Nat) (L : List Int) (c : Int) (a : Nat) (n : Int) (H : RpV w g L a n) (hib : isB L) (hL : L.length ≤ 100000) (ha : a ≤ L.length) (c0 : 0 ≤ c ∧ c ≤ 255) (n0 : 0 ≤ n ∧ n ≤ 100000) :
    Calls Try.prog 56 #[.pointer (some ⟨g, 0, none⟩), .int .u8 c] w fun e w' => PartD w w' g L c a n e := by
  have HIB := Aside0.mk hib
  have HL := Aside0.mk hL
  have HA := Aside0.mk ha
  have HC := Aside0.mk c0
  have HGL := Aside0.mk (show g < w.heap.size from blk_lt H)
  have HR := Aside0.mk (show RpV (w.alloc (.cells #[.int .i64 0, .int .u8 0, .int .u64 0, .int .u64 0, .int .u64 0, .int .u64 0, .bool false] 100)) g L a n from blk_alloc H (.cells #[.int .i64 0, .int .u8 0, .int .u64 0, .int .u64 0, .int .u64 0, .int .u64 0, .bool false] 100))
  have HZ := Aside0.mk (blk_new w (.cells #[.int .i64 0, .int .u8 0, .int .u64 0, .int .u64 0, .int .u64 0, .int .u64 0, .bool false] 100))
  have HK := Aside0.mk ((Kp.refl (fun k => k = g) w).alloc (.cells #[.int .i64 0, .int .u8 0, .int .u64 0, .int .u64 0, .int .u64 0, .int .u64 0, .bool false] 100))
  have w1' : IntKind.i64.wrap (n + 1) = n + 1 := by rw [IntKind.wrap_i64]; omega
  clear H hib hL ha c0
  go_enter Try.func56, Try.ntmps56
  go_upto_region 1 with fail
  obtain ⟨gr, hgr⟩ : ∃ x, w.heap.size = x := ⟨_, rfl⟩
  have HGR := Aside0.mk hgr
  rw [hgr] at HZ HGL ⊢
  obtain ⟨wx, hwx⟩ : ∃ wx, w.alloc (.cells #[.int .i64 0, .int .u8 0, .int .u64 0, .int .u64 0, .int .u64 0, .int .u64 0, .bool false] 100) = wx := ⟨_, rfl⟩
  rw [hwx] at HR HZ HK ⊢
  clear hgr hwx
  have x2 : wx.cell? ⟨g, 2, none⟩ = some (.int .i64 n) := blk_cell HR.out 2
  have f2 : wx.frozen? ⟨g, 2, none⟩ = false := blk_frozen HR.out 2
  go_upto_region 2 with fail
  have hks := Kp.set wx ⟨g, 2, none⟩ (.int .i64 (n + 1))
  have HR1 := Aside0.mk (HR.out.s2 (n + 1))
  have HZ1 := Aside0.mk (hks.blk HZ.out (fun h => by have := HGL.out; have : gr = g := h; omega))
  have HK1 := Aside0.mk (HK.out.trans hks (fun k hk => .inl hk))
  obtain ⟨wy, hwy⟩ : ∃ wy, wx.setCell ⟨g, 2, none⟩ (.int .i64 (n + 1)) = wy := ⟨_, rfl⟩
  rw [hwy] at HR1 HZ1 HK1 ⊢
  clear hwy hks x2 f2 HR HZ HK w1'

  by_cases e1 : c = 63
  · subst e1
    have HT := Aside0.mk (show wy.there gr 0 (#[.int .i64 0, .int .u8 0, .int .u64 0, .int .u64 0, .int .u64 0, .int .u64 0, .bool false] : Array Value).size from there_blk HZ1.out)
    have hbc := kp_cells (b := gr) (#[.int .i64 1, .int .u8 0, .int .u64 0, .int .u64 0, .int .u64 0, .int .u64 0, .bool false] : Array Value).toList 0 wy
    have HRF := Aside0.mk (show RpV (wy.setCells gr 0 (#[.int .i64 1, .int .u8 0, .int .u64 0, .int .u64 0, .int .u64 0, .int .u64 0, .bool false] : Array Value).toList) g L (a : Nat) (n + 1) from hbc.blk HR1.out (fun h => by have := HGL.out; have : g = gr := h; omega))
    have HKF := Aside0.mk (HK1.out.trans hbc (fun k hk => .inr (by rw [HGR.out, show k = gr from hk]; exact Nat.le_refl _)))
    clear hbc
    go_wp2_with (first | (refine wpList_store_mid rfl 100 (.tmp 4) (.tmp 17) rfl gr 0 #[.int .i64 1, .int .u8 0, .int .u64 0, .int .u64 0, .int .u64 0, .int .u64 0, .bool false] rfl rfl HT.out info7 (z7k_ones _ _) ?_) | fail)
    exact bodyPost_ret (results_cell2 (i := 4) (j := 5) rfl rfl rfl (run_loadVar_mid _ gr 0 100 (#[.int .i64 1, .int .u8 0, .int .u64 0, .int .u64 0, .int .u64 0, .int .u64 0, .bool false] : Array Value).toList _ (World.rangeAt_setCells_same _ _ _ _ HT.out) Try.underlying100 rfl info7)) rfl (PartD.of ⟨1, 0, [], false⟩ true a (by rw [ptA_lit]; rfl) (Nat.le_refl _) HA.out (part_q _) HRF.out HKF.out)
  · have g1 : (c == 63) = false := by simpa using e1
    have E1 := Aside0.mk e1
    clear e1
    by_cases e2 : c = 42
    · subst e2
      have HT := Aside0.mk (show wy.there gr 0 (#[.int .i64 0, .int .u8 0, .int .u64 0, .int .u64 0, .int .u64 0, .int .u64 0, .bool false] : Array Value).size from there_blk HZ1.out)
      have hbc := kp_cells (b := gr) (#[.int .i64 2, .int .u8 0, .int .u64 0, .int .u64 0, .int .u64 0, .int .u64 0, .bool false] : Array Value).toList 0 wy
      have HRF := Aside0.mk (show RpV (wy.setCells gr 0 (#[.int .i64 2, .int .u8 0, .int .u64 0, .int .u64 0, .int .u64 0, .int .u64 0, .bool false] : Array Value).toList) g L (a : Nat) (n + 1) from hbc.blk HR1.out (fun h => by have := HGL.out; have : g = gr := h; omega))
      have HKF := Aside0.mk (HK1.out.trans hbc (fun k hk => .inr (by rw [HGR.out, show k = gr from hk]; exact Nat.le_refl _)))
      clear hbc
      go_wp2_with (first | (refine wpList_store_mid rfl 100 (.tmp 4) (.tmp 20) rfl gr 0 #[.int .i64 2, .int .u8 0, .int .u64 0, .int .u64 0, .int .u64 0, .int .u64 0, .bool false] rfl rfl HT.out info7 (z7k_ones _ _) ?_) | fail)
      exact bodyPost_ret (results_cell2 (i := 4) (j := 5) rfl rfl rfl (run_loadVar_mid _ gr 0 100 (#[.int .i64 2, .int .u8 0, .int .u64 0, .int .u64 0, .int .u64 0, .int .u64 0, .bool false] : Array Value).toList _ (World.rangeAt_setCells_same _ _ _ _ HT.out) Try.underlying100 rfl info7)) rfl (PartD.of ⟨2, 0, [], false⟩ true a (by rw [ptA_lit]; rfl) (Nat.le_refl _) HA.out (part_s _) HRF.out HKF.out)
    · have g2 : (c == 42) = false := by simpa using e2
      have E2 := Aside0.mk e2
      clear e2
      by_cases e3 : c = 91
      · subst e3
        go_wp2_with fail
        with_reducible refine (pSet_calls _ g L a (n + 1) HR1.out HIB.out HL.out HA.out).mono ?_
        rintro e w2 ⟨p, ok, b, rfl, h1, h2, h3, h4, h5⟩
        have HR2 := Aside0.mk h4
        have HZ2 := Aside0.mk (h5.blk HZ1.out (fun h => by have := HGL.out; omega))
        have HK2 := Aside0.mk (HK1.out.trans h5 (fun k hk => .inl hk))
        have H3 := Aside0.mk h3
        have HSZ := Aside0.mk (show (Try.prog.info? 100).map (·.size) = some (ptA p).size by rw [ptA_size]; exact info7)
        have HSL := Aside0.mk (show (Try.prog.info? 100).map (·.size) = some (ptA p).toList.length by rw [Array.length_toList, ptA_size]; exact info7)
        have HON := Aside0.mk (ptA_ones p)
        have HT := Aside0.mk (show w2.there gr 0 (ptA p).size by have := there_blk HZ2.out; rw [ptA_size]; exact this)
        obtain ⟨X, hX⟩ : ∃ X, ptA p = X := ⟨_, rfl⟩
        rw [hX] at HT HSZ HSL HON ⊢
        have HX := Aside0.mk hX
        clear h3 h4 h5 hX
        have hbc := kp_cells (b := gr) (X : Array Value).toList 0 w2
        have HRF := Aside0.mk (show RpV (w2.setCells gr 0 (X : Array Value).toList) g L (b : Nat) (n + 1) from hbc.blk HR2.out (fun h => by have := HGL.out; have : g = gr := h; omega))
        have HKF := Aside0.mk (HK2.out.trans hbc (fun k hk => .inr (by rw [HGR.out, show k = gr from hk]; exact Nat.le_refl _)))
        clear hbc
        go_wp2_with (first | (refine wpList_store_mid rfl 100 (.tmp 4) (.tmp 25) rfl gr 0 X rfl rfl HT.out HSZ.out HON.out ?_) | fail)
        exact bodyPost_ret (results_cell2 (i := 4) (j := 5) rfl rfl rfl (run_loadVar_mid _ gr 0 100 (X : Array Value).toList _ (World.rangeAt_setCells_same _ _ _ _ HT.out) Try.underlying100 rfl HSL.out)) rfl (PartD.of p ok b (by rw [← HX.out, Array.toArray_toList]; rfl) h1 h2 (by rw [part_b]; exact H3.out) HRF.out HKF.out)
      · have g3 : (c == 91) = false := by simpa using e3
        have E3 := Aside0.mk e3
        clear e3
        go_wp2_with fail
        with_reducible refine (pLit_calls _ g L c a (n + 1) HR1.out HIB.out HL.out HA.out HC.out).mono ?_
        rintro e w2 ⟨d, ok, b, rfl, h1, h2, _, h3, d0, d1, h4, h5⟩
        have HR2 := Aside0.mk h4
        have HZ2 := Aside0.mk (h5.blk HZ1.out (fun h => by have := HGL.out; omega))
        have HK2 := Aside0.mk (HK1.out.trans h5 (fun k hk => .inl hk))
        have H3 := Aside0.mk h3
        have HT := Aside0.mk (show w2.there gr 0 (#[.int .i64 0, .int .u8 d, .int .u64 0, .int .u64 0, .int .u64 0, .int .u64 0, .bool false] : Array Value).size by have := there_blk HZ2.out; exact this)
        clear h3 h4 h5
        have hbc := kp_cells (b := gr) (#[.int .i64 0, .int .u8 d, .int .u64 0, .int .u64 0, .int .u64 0, .int .u64 0, .bool false] : Array Value).toList 0 w2
        have HRF := Aside0.mk (show RpV (w2.setCells gr 0 (#[.int .i64 0, .int .u8 d, .int .u64 0, .int .u64 0, .int .u64 0, .int .u64 0, .bool false] : Array Value).toList) g L (b : Nat) (n + 1) from hbc.blk HR2.out (fun h => by have := HGL.out; have : g = gr := h; omega))
        have HKF := Aside0.mk (HK2.out.trans hbc (fun k hk => .inr (by rw [HGR.out, show k = gr from hk]; exact Nat.le_refl _)))
        clear hbc
        go_wp2_with (first | (refine wpList_store_mid rfl 100 (.tmp 4) (.tmp 34) rfl gr 0 #[.int .i64 0, .int .u8 d, .int .u64 0, .int .u64 0, .int .u64 0, .int .u64 0, .bool false] rfl rfl HT.out info7 (z7k_ones _ _) ?_) | fail)
        exact bodyPost_ret (results_cell2 (i := 4) (j := 5) rfl rfl rfl (run_loadVar_mid _ gr 0 100 (#[.int .i64 0, .int .u8 d, .int .u64 0, .int .u64 0, .int .u64 0, .int .u64 0, .bool false] : Array Value).toList _ (World.rangeAt_setCells_same _ _ _ _ HT.out) Try.underlying100 rfl info7)) rfl (PartD.of ⟨0, d, [], false⟩ ok b (by rw [ptA_lit]; rfl) h1 h2 (part_c _ E1.out E2.out E3.out H3.out) HRF.out HKF.out)
end Go.Proofs.Ytplmdgimodgekaa
