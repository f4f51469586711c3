/- Patterns: the program's reader. -/
import Derived.Test.YtplmdgimodgekaaPatQ
import Derived.Test.YtplmdgimodgekaaStrC
import Derived.Test.YtplmdgimodgekaaKp
namespace Go.Proofs.Ytplmdgimodgekaa
open Go.RowKit Go.Proofs.YtplmdgimodgekaaW.PrintWords Go.Proofs.YtplmdgimodgekaaW.PrintLast Go.Proofs.YtplmdgimodgekaaW.PrintMore
attribute [local go_sem] max2_int min2_int max_two min_two max_three min_three max_four min_four   -- for this text's walks alone
set_option linter.unusedVariables false
set_option linter.unusedSimpArgs false

/-- The reader in block g: the text, the place, how many parts. -/
def RpV (W : World) (g : Nat) (L : List Int) (a n : Int) : Prop := W.heap[g]? = some (.cells #[.string (strOfNums L), .int .i64 a, .int .i64 n] 95 (0, 0))
theorem RpV.below {W W1 : World} {g : Nat} {L : List Int} {a n : Int} (h : RpV W g L a n) (hb : Below W.heap.size W W1) : RpV W1 g L a n := blk_below h hb
theorem RpV.s1 {W : World} {g : Nat} {L : List Int} {a n : Int} (h : RpV W g L a n) (b : Int) : RpV (W.setCell ⟨g, 1, none⟩ (.int .i64 b)) g L b n := by have := blk_set h 1 (.int .i64 b); simpa [RpV] using this
theorem RpV.s2 {W : World} {g : Nat} {L : List Int} {a n : Int} (h : RpV W g L a n) (b : Int) : RpV (W.setCell ⟨g, 2, none⟩ (.int .i64 b)) g L a b := by have := blk_set h 2 (.int .i64 b); simpa [RpV] using this
def nxA (L : List Int) (a : Nat) : Nat := if a < L.length then a + 1 else a
/-- What next does. -/
def NxD (w w' : World) (g : Nat) (L : List Int) (a : Nat) (n : Int) (e : Ending) : Prop := e = .returned (.tuple #[.int .u8 (L.getD a 0), .bool (decide (a < L.length))]) ∧ RpV w' g L (nxA L a : Nat) n ∧ Kp (fun k => k = g) w w'
set_option maxHeartbeats 8000000 in
set_option maxRecDepth 100000 in
theorem pNext_calls (w : World) (g : Nat) (L : List Int) (a : Nat) (n : Int) (H : RpV w g L a n) (hib : isB L) (hL : L.length ≤ 100000) (ha : a ≤ L.length) :
    Calls Try.prog 55 #[.pointer (some ⟨g, 0, none⟩)] w fun e w' => NxD w w' g L a n e := by
  unfold NxD
  have hs := strOf_size L
  obtain ⟨N, hN⟩ : ∃ N, L.length = N := ⟨_, rfl⟩
  have HI := Aside0.mk hib
  have HN := Aside0.mk hN
  have HH := Aside0.mk H
  by_cases c : a < N
  · have hch : ∀ h : a < (strOfNums L).size, (((strOfNums L)[a]'h).toNat : Int) = L.getD a 0 := fun h => by rw [bt_k, bytesOf_strOf hib]
    have HA := Aside0.mk (show nxA L a = a + 1 by rw [nxA, if_pos (by rw [hN]; exact c)])
    have x0 := blk_cell H 0
    have x1 := blk_cell H 1
    have f1 := blk_frozen H 1
    obtain ⟨S, hS⟩ : ∃ S, strOfNums L = S := ⟨_, rfl⟩
    obtain ⟨ch, hc⟩ : ∃ c, L.getD a 0 = c := ⟨_, rfl⟩
    rw [hS] at x0 hch hs
    rw [hc] at hch ⊢
    rw [hN] at hs hL ha ⊢
    have hsz : S.size = N := hs
    have HS := Aside0.mk hS
    have g1 : decide ((N : Int) ≤ (a : Int)) = false := decide_eq_false (by omega)
    have w1 : IntKind.i64.wrap ((a : Int) + 1) = (a : Int) + 1 := by rw [IntKind.wrap_i64]; omega
    have w2 : IntKind.i64.wrap ((a : Int) + 1 - 1) = (a : Int) + 1 - 1 := by rw [IntKind.wrap_i64]; omega
    have HCH := Aside0.mk hch
    clear H hib hN hS hc hch
    go_enter Try.func55, Try.ntmps55
    go_wp2_with fail
    go_quiet (fail)
    have HQ := Aside0.mk (HH.out.below (pw_below_drewN (Below.refl _ _) nq))
    have HB := Aside0.mk (pw_below_drewN (Below.refl w.heap.size w) nq)
    obtain ⟨wn, hwn⟩ : ∃ wn, w.drewN nq = wn := ⟨_, rfl⟩
    rw [hwn] at HQ HB ⊢
    clear hwn x0 x1 f1
    have g2 : decide (N ≤ a) = false := decide_eq_false (by omega)
    have x1 := blk_cell HQ.out 1
    have f1 := blk_frozen HQ.out 1
    go_upto_region 4 with fail
    have HQ2 := Aside0.mk (HQ.out.s1 ((a : Int) + 1))
    have HK := Aside0.mk ((Kp.of_below HB.out (fun k => k = g)).trans (Kp.set wn ⟨g, 1, none⟩ (.int .i64 ((a : Int) + 1))) (fun k hk => .inl hk))
    obtain ⟨wm, hwm⟩ : ∃ wm, wn.setCell ⟨g, 1, none⟩ (.int .i64 ((a : Int) + 1)) = wm := ⟨_, rfl⟩
    rw [hwm] at HQ2 HK ⊢
    clear hwm x1 f1
    have x0 := blk_cell HQ2.out 0
    have x1 := blk_cell HQ2.out 1
    rw [HS.out] at x0
    go_quiet (fail)
    have HQ3 := Aside0.mk (HQ2.out.below (pw_below_drewN (Below.refl _ _) nq))
    have HK3 := Aside0.mk (HK.out.drewN nq)
    obtain ⟨wl, hwl⟩ : ∃ wl, wm.drewN nq = wl := ⟨_, rfl⟩
    rw [hwl] at HQ3 HK3 ⊢
    clear x0 x1 hwl
    go_wp2_with fail
    go_ret2
    exact ⟨by rw [HCH.out, decide_eq_true c]; rfl, by rw [HA.out]; exact HQ3.out, HK3.out⟩
  · have HA := Aside0.mk (show nxA L a = a by rw [nxA, if_neg (by rw [hN]; exact c)])
    have hd : L.getD a 0 = 0 := by rw [List.getD_eq_getElem?_getD, List.getElem?_eq_none (by omega)]; rfl
    have x0 := blk_cell H 0
    have x1 := blk_cell H 1
    obtain ⟨S, hS⟩ : ∃ S, strOfNums L = S := ⟨_, rfl⟩
    rw [hS] at x0 hs
    rw [hd]
    rw [hN] at hs hL ha ⊢
    have hsz : S.size = N := hs
    have g1 : decide ((N : Int) ≤ (a : Int)) = true := decide_eq_true (by omega)
    have g2 : decide (N ≤ a) = true := decide_eq_true (by omega)
    clear H hib hN hS hd
    go_enter Try.func55, Try.ntmps55
    go_wp2_with fail
    go_quiet (fail)
    have HQ := Aside0.mk (HH.out.below (pw_below_drewN (Below.refl _ _) nq))
    have HB := Aside0.mk (pw_below_drewN (Below.refl w.heap.size w) nq)
    obtain ⟨wn, hwn⟩ : ∃ wn, w.drewN nq = wn := ⟨_, rfl⟩
    rw [hwn] at HQ HB ⊢
    clear hwn x0 x1
    go_wp2_with fail
    go_ret2
    exact ⟨by rw [decide_eq_false c]; rfl, by rw [HA.out]; exact HQ.out, Kp.of_below HB.out _⟩
/-- A byte, behind a backslash or not: what is left stands at b. -/
def LtD (w w' : World) (g : Nat) (L : List Int) (c : Int) (a : Nat) (n : Int) (e : Ending) : Prop :=
  ∃ (d : Int) (ok : Bool) (b : Nat), e = .returned (.tuple #[.int .u8 d, .bool ok]) ∧ a ≤ b ∧ b ≤ L.length ∧ (ok = false → b = L.length) ∧ litP (c :: L.drop a) = (if ok = true then some (d, L.drop b) else none) ∧ 0 ≤ d ∧ d ≤ 255 ∧ RpV w' g L (b : Nat) n ∧ Kp (fun k => k = g) w w'
set_option maxHeartbeats 8000000 in
set_option maxRecDepth 100000 in
theorem pLit_calls (w : World) (g : Nat) (L : List Int) (c : Int) (a : Nat) (n : Int) (H : RpV w g L a n) (hib : isB L) (hL : L.length ≤ 100000) (ha : a ≤ L.length) (c0 : 0 ≤ c ∧ c ≤ 255) :
    Calls Try.prog 98 #[.pointer (some ⟨g, 0, none⟩), .int .u8 c] w fun e w' => LtD w w' g L c a n e := by
  unfold LtD
  have HN := Aside0.mk (pNext_calls w g L a n H hib hL ha)
  unfold NxD at HN
  have HIB := Aside0.mk (hib.getD a)
  have HH := Aside0.mk H
  have HL := Aside0.mk ha
  clear hib hL ha H
  by_cases e : c = 92
  · subst e
    have g1 : ((92 : Int) != 92) = false := by decide
    go_enter Try.func98, Try.ntmps98
    go_wp2_with fail
    with_reducible refine HN.out.mono ?_
    rintro e w1 ⟨rfl, hr, hk⟩
    have HR := Aside0.mk hr
    have HK := Aside0.mk hk
    clear hr hk
    go_wp2_with fail
    go_ret2
    by_cases h : a < L.length
    · rw [nxA, if_pos h] at HR
      rw [decide_eq_true h]
      exact ⟨_, _, a + 1, rfl, by omega, h, (fun h => by cases h), by rw [List.drop_eq_getElem_cons h, litP_cons, if_pos rfl, if_pos rfl]; simp [List.getD_eq_getElem?_getD, List.getElem?_eq_getElem h], HIB.out.1, HIB.out.2, HR.out, HK.out⟩
    · rw [nxA, if_neg h] at HR
      rw [decide_eq_false h]
      exact ⟨_, _, a, rfl, by omega, HL.out, fun _ => by have := HL.out; omega, by rw [List.drop_eq_nil_of_le (by omega)]; rfl, HIB.out.1, HIB.out.2, HR.out, HK.out⟩
  · have g1 : (c != 92) = true := by simpa using e
    have HC := Aside0.mk e
    clear e
    go_enter Try.func98, Try.ntmps98
    go_wp2_with fail
    go_ret2
    exact ⟨_, _, a, rfl, by omega, HL.out, (fun h => by cases h), by rw [litP_cons, if_neg HC.out, if_pos rfl], c0.1, c0.2, HH.out, Kp.refl _ _⟩
end Go.Proofs.Ytplmdgimodgekaa
