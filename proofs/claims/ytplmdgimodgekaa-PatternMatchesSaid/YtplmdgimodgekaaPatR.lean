/- Patterns: the document's reader. -/
import Derived.Test.YtplmdgimodgekaaPatQ
import Derived.Test.YtplmdgimodgekaaStrC
import Derived.Test.YtplmdgimodgekaaKp
namespace Go.Proofs.Ytplmdgimodgekaa
open Go.RowKit Go.Proofs.YtplmdgimodgekaaW.PrintWords Go.Proofs.YtplmdgimodgekaaW.PrintLast Go.Proofs.YtplmdgimodgekaaW.PrintMore
attribute [local go_sem] max2_int min2_int max_two min_two max_three min_three max_four min_four   -- for this text's walks alone
set_option linter.unusedVariables false
set_option linter.unusedSimpArgs false

/-- The document's reader in block g. -/
def RfV (W : World) (g : Nat) (L : List Int) (a n : Int) (bad : Bool) : Prop := W.heap[g]? = some (.cells #[.string (strOfNums L), .int .i64 a, .int .i64 n, .bool bad] 106 (0, 0))
section
variable {W W1 : World} {g : Nat} {L : List Int} {a n : Int} {bad : Bool}
theorem RfV.below (h : RfV W g L a n bad) (hb : Below W.heap.size W W1) : RfV W1 g L a n bad := blk_below h hb
theorem RfV.s1 (h : RfV W g L a n bad) (b : Int) : RfV (W.setCell ⟨g, 1, none⟩ (.int .i64 b)) g L b n bad := by have := blk_set h 1 (.int .i64 b); simpa [RfV] using this
theorem RfV.s2 (h : RfV W g L a n bad) (b : Int) : RfV (W.setCell ⟨g, 2, none⟩ (.int .i64 b)) g L a b bad := by have := blk_set h 2 (.int .i64 b); simpa [RfV] using this
theorem RfV.s3 (h : RfV W g L a n bad) (b : Bool) : RfV (W.setCell ⟨g, 3, none⟩ (.bool b)) g L a n b := by have := blk_set h 3 (.bool b); simpa [RfV] using this
theorem RfV.c0 (h : RfV W g L a n bad) : W.cell? ⟨g, 0, none⟩ = some (.string (strOfNums L)) := blk_cell h 0
theorem RfV.c1 (h : RfV W g L a n bad) : W.cell? ⟨g, 1, none⟩ = some (.int .i64 a) := blk_cell h 1
theorem RfV.c2 (h : RfV W g L a n bad) : W.cell? ⟨g, 2, none⟩ = some (.int .i64 n) := blk_cell h 2
theorem RfV.c3 (h : RfV W g L a n bad) : W.cell? ⟨g, 3, none⟩ = some (.bool bad) := blk_cell h 3
theorem RfV.fz (h : RfV W g L a n bad) (j : Nat) : W.frozen? ⟨g, j, none⟩ = false := blk_frozen h j
end
set_option maxHeartbeats 8000000 in
set_option maxRecDepth 100000 in
theorem rIs_calls (w : World) (g : Nat) (L : List Int) (a : Nat) (n : Int) (bad : Bool) (k : Nat) (kv : Int) (c : Int) (hkv : kv = (k : Int)) (H : RfV w g L a n bad) (hib : isB L) (hL : L.length ≤ 100000) (ha : a ≤ L.length) (hk : k ≤ 1) :
    Calls Try.prog 99 #[.pointer (some ⟨g, 0, none⟩), .int .i64 kv, .int .u8 c] w fun e w' => e = .returned (.bool (decide (a + k < L.length) && L.getD (a + k) 0 == c)) ∧ Below w.heap.size w w' := by
  subst hkv
  have hsz := strOf_size L
  obtain ⟨N, hN⟩ : ∃ N, L.length = N := ⟨_, rfl⟩
  rw [hN] at hsz hL ha ⊢
  have HIB := Aside0.mk hib
  have HN := Aside0.mk hN
  have HR := Aside0.mk H
  have HK := Aside0.mk (Kp.refl (fun _ => False) w)
  have x0 := H.c0
  have x1 := H.c1
  have w1 : IntKind.i64.wrap ((a : Int) + (k : Int)) = (a : Int) + (k : Int) := by rw [IntKind.wrap_i64]; omega
  by_cases c1 : a + k < N
  · have g1 : decide ((a : Int) + (k : Int) < (N : Int)) = true := decide_eq_true (by omega)
    have g1' : decide (a + k < N) = true := decide_eq_true c1
    have i0 := fun (W : World) => str_at L hib (a + k) ((a : Int) + (k : Int)) (by omega) (by rw [hN]; exact c1) W
    obtain ⟨d, hd⟩ : ∃ d, L.getD (a + k) 0 = d := ⟨_, rfl⟩
    rw [hd] at i0 ⊢
    clear H hib hN hd
    go_enter Try.func99, Try.ntmps99
    go_upto_region 1 with fail
    go_quiet (fail)
    have HRQ := Aside0.mk (HR.out.below (pw_below_drewN (Below.refl _ _) nq))
    have HKQ := Aside0.mk (HK.out.drewN nq)
    obtain ⟨wq, hwq⟩ : ∃ wq, w.drewN nq = wq := ⟨_, rfl⟩
    rw [hwq] at HRQ HKQ ⊢
    clear hwq x0 x1 w1
    go_wp2_with fail
    go_ret
    exact ⟨by rw [decide_eq_true c1]; rfl, HKQ.out.to_below (fun k hk => hk.elim)⟩
  · have g1 : decide ((a : Int) + (k : Int) < (N : Int)) = false := decide_eq_false (by omega)
    have g1' : decide (a + k < N) = false := decide_eq_false c1
    clear H hib hN
    go_enter Try.func99, Try.ntmps99
    go_upto_region 1 with fail
    go_quiet (fail)
    have HRQ := Aside0.mk (HR.out.below (pw_below_drewN (Below.refl _ _) nq))
    have HKQ := Aside0.mk (HK.out.drewN nq)
    obtain ⟨wq, hwq⟩ : ∃ wq, w.drewN nq = wq := ⟨_, rfl⟩
    rw [hwq] at HRQ HKQ ⊢
    clear hwq x0 x1 w1
    go_wp2_with fail
    go_ret
    exact ⟨by rw [decide_eq_false c1]; rfl, HKQ.out.to_below (fun k hk => hk.elim)⟩
/-- What byte does: what is left stands at b. -/
def BtD (w w' : World) (g : Nat) (L : List Int) (a : Nat) (n : Int) (bad : Bool) (e : Ending) : Prop :=
  ∃ (d : Int) (ok : Bool) (b : Nat), e = .returned (.int .u8 d) ∧ a ≤ b ∧ b ≤ L.length ∧ (ok = false → b = L.length) ∧ (ok = true → a < b) ∧ litP (L.drop a) = (if ok = true then some (d, L.drop b) else none) ∧ 0 ≤ d ∧ d ≤ 255 ∧ RfV w' g L (b : Nat) n (bad || !ok) ∧ Kp (fun k => k = g) w w'
theorem BtD.of {w w' : World} {g : Nat} {L : List Int} {a : Nat} {n : Int} {bad : Bool} {e : Ending} (d : Int) (ok : Bool) (b : Nat) (he : e = .returned (.int .u8 d)) (h1 : a ≤ b) (h2 : b ≤ L.length) (h3 : ok = false → b = L.length) (h3' : ok = true → a < b) (h4 : litP (L.drop a) = (if ok = true then some (d, L.drop b) else none)) (h5 : 0 ≤ d ∧ d ≤ 255) (h6 : RfV w' g L (b : Nat) n (bad || !ok)) (h7 : Kp (fun k => k = g) w w') : BtD w w' g L a n bad e := ⟨d, ok, b, he, h1, h2, h3, h3', h4, h5.1, h5.2, h6, h7⟩
theorem lit_at {L : List Int} {a : Nat} (h : a < L.length) (h1 : L.getD a 0 ≠ 92) : litP (L.drop a) = some (L.getD a 0, L.drop (a + 1)) := by
  have e : L[a] = L.getD a 0 := by rw [List.getD_eq_getElem?_getD, List.getElem?_eq_getElem h]; rfl
  rw [List.drop_eq_getElem_cons h, litP_cons, if_neg (by rw [e]; exact h1), e]
theorem lit_at2 {L : List Int} {a : Nat} (h : a + 1 < L.length) (h1 : L.getD a 0 = 92) : litP (L.drop a) = some (L.getD (a + 1) 0, L.drop (a + 2)) := by
  have e : L[a] = L.getD a 0 := by rw [List.getD_eq_getElem?_getD, List.getElem?_eq_getElem (by omega)]; rfl
  have e2 : L[a + 1] = L.getD (a + 1) 0 := by rw [List.getD_eq_getElem?_getD, List.getElem?_eq_getElem h]; rfl
  rw [List.drop_eq_getElem_cons (show a < L.length by omega), litP_cons, if_pos (by rw [e]; exact h1), List.drop_eq_getElem_cons h, e2]
theorem lit_no {L : List Int} {a : Nat} (h : a = L.length ∨ a + 1 = L.length ∧ L.getD a 0 = 92) : litP (L.drop a) = none := by
  rcases h with h | ⟨h, h1⟩
  · rw [List.drop_eq_nil_of_le (by omega)]; rfl
  · have e : L[a] = L.getD a 0 := by rw [List.getD_eq_getElem?_getD, List.getElem?_eq_getElem (by omega)]; rfl
    rw [List.drop_eq_getElem_cons (show a < L.length by omega), litP_cons, if_pos (by rw [e]; exact h1), List.drop_eq_nil_of_le (by omega)]
set_option maxHeartbeats 8000000 in
set_option maxRecDepth 100000 in
theorem rByte_calls (w : World) (g : Nat) (L : List Int) (a : Nat) (n : Int) (bad : Bool) (H : RfV w g L a n bad) (hib : isB L) (hL : L.length ≤ 100000) (ha : a ≤ L.length) :
    Calls Try.prog 58 #[.pointer (some ⟨g, 0, none⟩)] w fun e w' => BtD w w' g L a n bad e := by
  have hsz := strOf_size L
  obtain ⟨N, hN⟩ : ∃ N, L.length = N := ⟨_, rfl⟩
  rw [hN] at hsz hL ha
  have HIB := Aside0.mk hib
  have HN := Aside0.mk hN
  have HR := Aside0.mk H
  have HK := Aside0.mk (Kp.refl (fun k => k = g) w)
  have x0 := H.c0
  have x1 := H.c1
  obtain ⟨bb, hbb⟩ : ∃ bb, (decide (a < N) && L.getD a 0 == 92) = bb := ⟨_, rfl⟩
  have HBB := Aside0.mk hbb
  clear H hib hN hbb
  go_enter Try.func58, Try.ntmps58
  go_upto_region 1 with fail
  go_cut [24] (fun v24 wx => v24 = .bool bb ∧ Aside0 (RfV wx g L a n bad) ∧ Aside0 (Kp (fun k => k = g) w wx))
  case first =>
    by_cases c1 : a < N
    · have g1 : decide ((a : Int) < (N : Int)) = true := decide_eq_true (by omega)
      have g1' : decide (a < N) = true := decide_eq_true c1
      have i0 := fun (W : World) => str_at L HIB.out a (a : Int) rfl (by rw [HN.out]; exact c1) W
      obtain ⟨d, hd⟩ : ∃ d, L.getD a 0 = d := ⟨_, rfl⟩
      rw [hd] at i0 HBB
      clear hd
      by_cases c2 : d = 92
      · have g2 : (d == 92) = true := by simpa using c2
        have HG := Aside0.mk (show bb = true by rw [← HBB.out, g1', g2]; rfl)
        clear c2
        go_quiet (fail)
        have HRQ := Aside0.mk (HR.out.below (pw_below_drewN (Below.refl _ _) nq))
        have HKQ := Aside0.mk (HK.out.drewN nq)
        obtain ⟨wq, hwq⟩ : ∃ wq, w.drewN nq = wq := ⟨_, rfl⟩
        rw [hwq] at HRQ HKQ ⊢
        clear hwq x0 x1 i0 g1 g1' g2
        go_wp2_with fail
        go_meet
        exact ⟨by rw [HG.out], HRQ, HKQ⟩
      · have g2 : (d == 92) = false := by simpa using c2
        have HG := Aside0.mk (show bb = false by rw [← HBB.out, g1', g2]; rfl)
        clear c2
        go_quiet (fail)
        have HRQ := Aside0.mk (HR.out.below (pw_below_drewN (Below.refl _ _) nq))
        have HKQ := Aside0.mk (HK.out.drewN nq)
        obtain ⟨wq, hwq⟩ : ∃ wq, w.drewN nq = wq := ⟨_, rfl⟩
        rw [hwq] at HRQ HKQ ⊢
        clear hwq x0 x1 i0 g1 g1' g2
        go_wp2_with fail
        go_meet
        exact ⟨by rw [HG.out], HRQ, HKQ⟩
    · have g1 : decide ((a : Int) < (N : Int)) = false := decide_eq_false (by omega)
      have g1' : decide (a < N) = false := decide_eq_false c1
      have HG := Aside0.mk (show bb = false by rw [← HBB.out, g1']; rfl)
      go_quiet (fail)
      have HRQ := Aside0.mk (HR.out.below (pw_below_drewN (Below.refl _ _) nq))
      have HKQ := Aside0.mk (HK.out.drewN nq)
      obtain ⟨wq, hwq⟩ : ∃ wq, w.drewN nq = wq := ⟨_, rfl⟩
      rw [hwq] at HRQ HKQ ⊢
      clear hwq x0 x1 g1 g1'
      go_wp2_with fail
      go_meet
      exact ⟨by rw [HG.out], HRQ, HKQ⟩
  case rest =>
  obtain ⟨rfl, HR, HK⟩ := hcut
  clear x0 x1
  go_upto_if 24 with fail
  go_cut [] (fun wx => ∃ b : Nat, b ≤ N ∧ a ≤ b ∧ Aside0 ((b = a ∧ bb = false) ∨ (b = a + 1 ∧ bb = true)) ∧ Aside0 (RfV wx g L (b : Nat) n bad) ∧ Aside0 (Kp (fun k => k = g) w wx))
  case first =>
    cases bb with
    | false =>
      go_wp2_with fail
      go_meet
      exact ⟨a, ha, Nat.le_refl _, Aside0.mk (by simp), HR, HK⟩
    | true =>
      have c1 : a < N := by have := HBB.out; simp at this; exact this.1
      have x1 := HR.out.c1
      have f1 := HR.out.fz 1
      have w1 : IntKind.i64.wrap ((a : Int) + 1) = (a : Int) + 1 := by rw [IntKind.wrap_i64]; omega
      go_wp2_with fail
      go_meet
      exact ⟨a + 1, by omega, by omega, Aside0.mk (by simp), Aside0.mk (HR.out.s1 _), Aside0.mk (HK.out.trans (Kp.set _ _ _) (fun k hk => .inl hk))⟩
  case rest =>
  obtain ⟨b, hbN, hab, HCA, HR, HK⟩ := hcut
  have x0 := HR.out.c0
  have x1 := HR.out.c1
  by_cases c1 : b < N
  · have g1 : decide ((N : Int) ≤ (b : Int)) = false := decide_eq_false (by omega)
    have g1' : decide (N ≤ b) = false := decide_eq_false (by omega)
    go_upto_region 3 with fail
    go_quiet (fail)
    have HRQ := Aside0.mk (HR.out.below (pw_below_drewN (Below.refl _ _) nq))
    have HKQ := Aside0.mk (HK.out.drewN nq)
    obtain ⟨wq, hwq⟩ : ∃ wq, wc.drewN nq = wq := ⟨_, rfl⟩
    rw [hwq] at HRQ HKQ ⊢
    clear hwq x0 x1
    have x1 := HRQ.out.c1
    have f1 := HRQ.out.fz 1
    have w1 : IntKind.i64.wrap ((b : Int) + 1) = (b : Int) + 1 := by rw [IntKind.wrap_i64]; omega
    go_upto_region 7 with fail
    replace HR := Aside0.mk (show RfV (wq.setCell ⟨g, 1, none⟩ (.int .i64 ((b : Int) + 1))) g L ((b + 1 : Nat) : Int) n bad by have := HRQ.out.s1 ((b : Int) + 1); exact this)
    replace HK := Aside0.mk (HKQ.out.trans (Kp.set wq ⟨g, 1, none⟩ (.int .i64 ((b : Int) + 1))) (fun k hk => .inl hk))
    obtain ⟨wm, hwm⟩ : ∃ wm, wq.setCell ⟨g, 1, none⟩ (.int .i64 ((b : Int) + 1)) = wm := ⟨_, rfl⟩
    rw [hwm] at HR HK ⊢
    clear hwm x1 f1 HRQ HKQ
    have x0 := HR.out.c0
    have x1 : wm.cell? ⟨g, 1, none⟩ = some (.int .i64 ((b : Int) + 1)) := HR.out.c1
    have w2 : IntKind.i64.wrap (b : Int) = (b : Int) := by rw [IntKind.wrap_i64]; omega
    have w3 : IntKind.i64.wrap ((b : Int) + 1 - 1) = (b : Int) := by rw [IntKind.wrap_i64]; omega
    have i0 := fun (W : World) => str_at L HIB.out b (b : Int) rfl (by rw [HN.out]; exact c1) W
    obtain ⟨d, hd⟩ : ∃ d, L.getD b 0 = d := ⟨_, rfl⟩
    have HD := Aside0.mk hd
    have HDB := Aside0.mk (show 0 ≤ d ∧ d ≤ 255 by rw [← hd]; exact HIB.out.getD _)
    rw [hd] at i0
    clear hd
    go_quiet (fail)
    have HRQ := Aside0.mk (HR.out.below (pw_below_drewN (Below.refl _ _) nq))
    have HKQ := Aside0.mk (HK.out.drewN nq)
    obtain ⟨wq, hwq⟩ : ∃ wq, wm.drewN nq = wq := ⟨_, rfl⟩
    rw [hwq] at HRQ HKQ ⊢
    clear hwq x0 x1 w1 w2 w3 i0
    have HLT := Aside0.mk (show litP (L.drop a) = some (d, L.drop (b + 1)) by
      rcases HCA.out with ⟨rfl, hb⟩ | ⟨rfl, hb⟩
      · rw [lit_at (by rw [HN.out]; exact c1) (fun e => by
          have := HBB.out
          rw [hb, decide_eq_true c1, e] at this
          simp at this), HD.out]
      · have := HBB.out
        rw [hb, Bool.and_eq_true, beq_iff_eq] at this
        rw [lit_at2 (by rw [HN.out]; exact c1) this.2, HD.out])
    have HFN := Aside0.mk (show BtD w wq g L a n bad (.returned (.int .u8 d)) from BtD.of d true (b + 1) rfl (by omega) (by rw [HN.out]; omega) (fun h => by cases h) (fun _ => by omega) (by rw [HLT.out]; rfl) HDB.out (by rw [Bool.not_true, Bool.or_false]; exact HRQ.out) HKQ.out)
    go_wp2_with fail
    go_ret
    exact HFN.out
  · have g1 : decide ((N : Int) ≤ (b : Int)) = true := decide_eq_true (by omega)
    have g1' : decide (N ≤ b) = true := decide_eq_true (by omega)
    obtain rfl : b = N := by omega
    go_upto_region 3 with fail
    go_quiet (fail)
    have HRQ := Aside0.mk (HR.out.below (pw_below_drewN (Below.refl _ _) nq))
    have HKQ := Aside0.mk (HK.out.drewN nq)
    obtain ⟨wq, hwq⟩ : ∃ wq, wc.drewN nq = wq := ⟨_, rfl⟩
    rw [hwq] at HRQ HKQ ⊢
    clear hwq x0 x1
    have x3 := HRQ.out.c3
    have f3 := HRQ.out.fz 3
    have HLT := Aside0.mk (show litP (L.drop a) = none from by
      rcases HCA.out with ⟨hb1, hb⟩ | ⟨hb1, hb⟩
      · exact lit_no (.inl (by rw [HN.out]; omega))
      · have := HBB.out
        rw [hb, Bool.and_eq_true, beq_iff_eq] at this
        exact lit_no (.inr ⟨by rw [HN.out]; omega, this.2⟩))
    have HFN := Aside0.mk (show BtD w (wq.setCell ⟨g, 3, none⟩ (.bool true)) g L a n bad (.returned (.int .u8 0)) from BtD.of 0 false b rfl hab (by rw [HN.out]; exact Nat.le_refl _) (fun _ => HN.out.symm) (fun h => by cases h) (by rw [HLT.out]; rfl) (by decide) (by rw [Bool.not_false, Bool.or_true]; exact HRQ.out.s3 true) (HKQ.out.trans (Kp.set wq ⟨g, 3, none⟩ (.bool true)) (fun k hk => .inl hk)))
    go_wp2_with fail
    go_ret
    exact HFN.out
end Go.Proofs.Ytplmdgimodgekaa
