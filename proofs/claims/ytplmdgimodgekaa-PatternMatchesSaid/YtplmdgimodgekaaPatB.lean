/- Patterns: the program's sets. -/
import Derived.Test.YtplmdgimodgekaaPatA
import Derived.Test.YtplmdgimodgekaaMid
namespace Go.Proofs.Ytplmdgimodgekaa
open Go.RowKit Go.Proofs.YtplmdgimodgekaaW.PrintWords Go.Proofs.YtplmdgimodgekaaW.PrintLast Go.Proofs.YtplmdgimodgekaaW.PrintMore
attribute [local go_sem] max2_int min2_int max_two min_two max_three min_three max_four min_four   -- for this text's walks alone
set_option linter.unusedVariables false
set_option linter.unusedSimpArgs false

def wdN (f : Nat → Bool) : Nat → Nat
  | 0 => 0
  | n + 1 => wdN f n + (if f n = true then 2 ^ n else 0)
theorem wdN_lt (f : Nat → Bool) : ∀ n, wdN f n < 2 ^ n
  | 0 => Nat.zero_lt_one
  | n + 1 => by
    have := wdN_lt f n
    rw [wdN, Nat.pow_succ]
    split <;> omega
theorem wdN_bit (f : Nat → Bool) : ∀ n j, (wdN f n).testBit j = (decide (j < n) && f j)
  | 0, j => by simp [wdN]
  | n + 1, j => by
    have h := wdN_lt f n
    have ih := wdN_bit f n j
    rcases Nat.lt_trichotomy j n with hj | hj | hj
    · rw [decide_eq_true (show j < n + 1 by omega)]
      rw [decide_eq_true hj] at ih
      rw [wdN]
      split
      · rw [Nat.add_comm, Nat.testBit_two_pow_add_gt hj]; exact ih
      · exact ih
    · subst hj
      rw [decide_eq_true (show j < j + 1 by omega), Bool.true_and, wdN]
      rw [decide_eq_false (Nat.lt_irrefl j), Bool.false_and] at ih
      split
      · rename_i e
        rw [Nat.add_comm, Nat.testBit_two_pow_add_eq, ih, e]; rfl
      · rename_i e
        rw [Nat.add_zero, ih]; simpa using e
    · rw [decide_eq_false (show ¬ j < n + 1 by omega), Bool.false_and]
      refine Nat.testBit_lt_two_pow (Nat.lt_of_lt_of_le (wdN_lt f (n + 1)) (Nat.pow_le_pow_right (by decide) hj))
theorem wdN_eq {f g : Nat → Bool} {n : Nat} (h : ∀ j, j < n → f j = g j) : wdN f n = wdN g n := Nat.eq_of_testBit_eq fun j => by
  rw [wdN_bit, wdN_bit]
  by_cases e : j < n
  · rw [h j e]
  · rw [decide_eq_false e]; rfl
theorem wdN_set {f g : Nat → Bool} {n i : Nat} (hi : i < n) (h : ∀ j, j < n → g j = (f j || decide (j = i))) : wdN g n = wdN f n ||| 2 ^ i := Nat.eq_of_testBit_eq fun j => by
  rw [Nat.testBit_or, wdN_bit, wdN_bit, Nat.testBit_two_pow]
  by_cases e : j < n
  · rw [h j e, decide_eq_true e, Bool.true_and, Bool.true_and]
    congr 1
    rw [Bool.eq_iff_iff, decide_eq_true_iff, decide_eq_true_iff]
    exact eq_comm
  · rw [decide_eq_false e, Bool.false_and, Bool.false_and, decide_eq_false (by omega)]; rfl
/-- A word of a set. -/
def wdI (L : List (Int × Int)) (k : Nat) : Int := (wdN (fun j => memI L ((64 * k + j : Nat) : Int)) 64 : Nat)
def ptA (p : Pt) : Array Value := #[.int .i64 (p.kind : Int), .int .u8 p.c, .int .u64 (wdI p.ins 0), .int .u64 (wdI p.ins 1), .int .u64 (wdI p.ins 2), .int .u64 (wdI p.ins 3), .bool p.neg]
def PtS (W : World) (b : Nat) (p : Pt) : Prop := W.heap[b]? = some (.cells (ptA p) 100 (0, 0))
theorem PtS.below {W W1 : World} {b : Nat} {p : Pt} (h : PtS W b p) (hb : Below W.heap.size W W1) : PtS W1 b p := blk_below h hb
theorem PtS.cell {W : World} {b : Nat} {p : Pt} (h : PtS W b p) (k : Nat) (hk : k < 4) : W.cell? ⟨b, 2 + k, none⟩ = some (.int .u64 (wdI p.ins k)) := by
  match k, hk with
  | 0, _ => exact blk_cell h 2
  | 1, _ => exact blk_cell h 3
  | 2, _ => exact blk_cell h 4
  | 3, _ => exact blk_cell h 5
theorem memI_snoc (L : List (Int × Int)) (a b c : Int) : memI (L ++ [(a, b)]) c = (memI L c || (decide (a ≤ c) && decide (c ≤ b))) := by rw [memI, List.any_append]; simp [memI]
theorem wdI_nil (L : List (Int × Int)) (a : Int) (k : Nat) : wdI (L ++ [(a, a - 1)]) k = wdI L k := by
  rw [wdI, wdI]
  congr 1
  refine wdN_eq fun j _ => ?_
  rw [memI_snoc]
  by_cases e : a ≤ ((64 * k + j : Nat) : Int)
  · rw [decide_eq_true e, decide_eq_false (by omega)]; simp
  · rw [decide_eq_false e]; simp
theorem wdI_other (L : List (Int × Int)) (a : Int) (x : Nat) (k : Nat) (hk : k ≠ x / 64) : wdI (L ++ [(a, (x : Int))]) k = wdI (L ++ [(a, (x : Int) - 1)]) k := by
  rw [wdI, wdI]
  congr 1
  refine wdN_eq fun j hj => ?_
  rw [memI_snoc, memI_snoc]
  congr 2
  rw [Bool.eq_iff_iff, decide_eq_true_iff, decide_eq_true_iff]
  omega
theorem wdI_this (L : List (Int × Int)) (a : Int) (x : Nat) (ha : a ≤ (x : Int)) : wdI (L ++ [(a, (x : Int))]) (x / 64) = ((wdN (fun j => memI (L ++ [(a, (x : Int) - 1)]) ((64 * (x / 64) + j : Nat) : Int)) 64 ||| 2 ^ (x % 64) : Nat) : Int) := by
  rw [wdI]
  congr 1
  refine wdN_set (Nat.mod_lt _ (by decide)) fun j hj => ?_
  rw [memI_snoc, memI_snoc, Bool.or_assoc]
  congr 1
  rw [Bool.eq_iff_iff]
  simp only [Bool.or_eq_true, Bool.and_eq_true, decide_eq_true_iff]
  omega
theorem wdI_or (L : List (Int × Int)) (a : Int) (x : Nat) (ha : a ≤ (x : Int)) : bits .or .u64 (wdI (L ++ [(a, (x : Int) - 1)]) (x / 64)) (IntKind.u64.wrap (2 ^ (x % 64))) = wdI (L ++ [(a, (x : Int))]) (x / 64) := by
  have hp : 2 ^ (x % 64) < 2 ^ 64 := Nat.pow_lt_pow_right (by decide) (Nat.mod_lt _ (by decide))
  have e : IntKind.u64.wrap (2 ^ (x % 64)) = ((2 ^ (x % 64) : Nat) : Int) := by
    rw [pow_nat, IntKind.wrap_u64]
    obtain ⟨z, hz⟩ : ∃ z, 2 ^ (x % 64) = z := ⟨_, rfl⟩
    rw [hz] at hp ⊢
    have h64 : (2 : Nat) ^ 64 = 18446744073709551616 := by decide
    omega
  rw [e, wdI_this L a x ha]
  exact u64_or_nat _ _ (wdN_lt _ 64) hp
theorem PtS.set {W : World} {b : Nat} {acc : List (Int × Int)} {neg : Bool} {a : Int} {x : Nat} (h : PtS W b ⟨3, 0, acc ++ [(a, (x : Int) - 1)], neg⟩) (ha : a ≤ (x : Int)) (hx : x ≤ 255) : PtS (W.setCell ⟨b, 2 + x / 64, none⟩ (.int .u64 (wdI (acc ++ [(a, (x : Int))]) (x / 64)))) b ⟨3, 0, acc ++ [(a, (x : Int))], neg⟩ := by
  have key := blk_set h (2 + x / 64) (.int .u64 (wdI (acc ++ [(a, (x : Int))]) (x / 64)))
  rw [PtS, key]
  congr 2
  have o := fun k hk => wdI_other acc a x k hk
  have hk : x / 64 < 4 := by omega
  unfold ptA
  obtain ⟨k, hkk⟩ : ∃ k, x / 64 = k := ⟨_, rfl⟩
  rw [hkk] at o hk ⊢
  match k, hk with
  | 0, _ => dsimp only; rw [o 1 (by decide), o 2 (by decide), o 3 (by decide)]; rfl
  | 1, _ => dsimp only; rw [o 0 (by decide), o 2 (by decide), o 3 (by decide)]; rfl
  | 2, _ => dsimp only; rw [o 0 (by decide), o 1 (by decide), o 3 (by decide)]; rfl
  | 3, _ => dsimp only; rw [o 0 (by decide), o 1 (by decide), o 2 (by decide)]; rfl
theorem PtS.start {W : World} {b : Nat} {acc : List (Int × Int)} {neg : Bool} (h : PtS W b ⟨3, 0, acc, neg⟩) (a : Int) : PtS W b ⟨3, 0, acc ++ [(a, a - 1)], neg⟩ := by
  unfold PtS ptA at h ⊢
  dsimp only at h ⊢
  rw [wdI_nil, wdI_nil, wdI_nil, wdI_nil]
  exact h
theorem rp_at {W : World} {g : Nat} {L : List Int} {a n : Int} (h : RpV W g L a n) : W.cell? ⟨g, 1, none⟩ = some (.int .i64 a) := blk_cell h 1
/-- How much of the text is left, as the reader tells. -/
def rpO (g N : Nat) (v6 : Value) (W : World) : Nat := N - (match W.cell? ⟨g, 1, none⟩ with | some (.int _ p) => p.toNat | _ => 0) + (match v6 with | .bool true => 1 | _ => 0)
theorem RpV.rpO {W : World} {g : Nat} {L : List Int} {q : Nat} {n : Int} (h : RpV W g L (nxA L q : Nat) n) (hq : q ≤ L.length) : rpO g L.length (.bool (decide (q < L.length))) W = L.length - q := by
  unfold Go.Proofs.Ytplmdgimodgekaa.rpO
  rw [rp_at h]
  dsimp only
  rw [Int.toNat_natCast, nxA]
  by_cases e : q < L.length
  · rw [if_pos e, decide_eq_true e]; dsimp only; omega
  · rw [if_neg e, decide_eq_false e]; dsimp only; omega
theorem Kp.of_belowN {n : Nat} {w w1 : World} (h : Below n w w1) : Kp (fun k => n ≤ k) w w1 := ⟨h.os, h.tape, h.output, h.size, fun k hk hn => h.block k (Nat.lt_of_not_le hn)⟩
theorem ptA_size (p : Pt) : (ptA p).size = 7 := rfl
theorem ptA_ones (p : Pt) : (ptA p).all (·.oneCell') = true := by simp [ptA, Value.oneCell']
theorem z7_ones : (#[.int .i64 0, .int .u8 0, .int .u64 0, .int .u64 0, .int .u64 0, .int .u64 0, .bool false] : Array Value).all (·.oneCell') = true := by simp [Value.oneCell']
theorem info7 : (Try.prog.info? 100).map (·.size) = some 7 := by kernel_rfl
def zPt : Pt := ⟨0, 0, [], false⟩
/-- What the set's walk holds: the reader, the part, the result's cells. -/
structure PSt (w W : World) (g gr : Nat) (L : List Int) (n : Int) (p : Pt) (b : Nat) : Prop where
  r : RpV W g L (b : Nat) n
  p : PtS W (gr + 1) p
  z : PtS W gr zPt
  k : Kp (fun k => k = g) w W
theorem PSt.next {w W W1 : World} {g gr : Nat} {L : List Int} {n : Int} {p : Pt} {b b' : Nat} (h : PSt w W g gr L n p b) (hr : RpV W1 g L (b' : Nat) n) (hk : Kp (fun k => k = g) W W1) (hg : g < gr) : PSt w W1 g gr L n p b' :=
  ⟨hr, hk.blk h.p (fun h => by omega), hk.blk h.z (fun h => by omega), h.k.trans hk (fun k hk => .inl hk)⟩
theorem PSt.below {w W W1 : World} {g gr : Nat} {L : List Int} {n : Int} {p : Pt} {b : Nat} (h : PSt w W g gr L n p b) (hb : Below W.heap.size W W1) : PSt w W1 g gr L n p b :=
  ⟨h.r.below hb, h.p.below hb, h.z.below hb, h.k.below hb⟩
def SetD (w w' : World) (g : Nat) (L : List Int) (a : Nat) (n : Int) (e : Ending) : Prop := ∃ (p : Pt) (ok : Bool) (b : Nat), e = .returned (.tuple #[.agg (ptA p), .bool ok]) ∧ a ≤ b ∧ b ≤ L.length ∧ setQ (L.drop a) = (if ok = true then some (p, L.drop b) else none) ∧ RpV w' g L (b : Nat) n ∧ Kp (fun k => k = g) w w'
theorem SetD.of {w w' : World} {g : Nat} {L : List Int} {a : Nat} {n : Int} {e : Ending} {N : Nat} (p : Pt) (ok : Bool) (b : Nat) (he : e = .returned (.tuple #[.agg (ptA p), .bool ok])) (h1 : a ≤ b) (h2 : b ≤ N) (hN : L.length = N) (h3 : setQ (L.drop a) = (if ok = true then some (p, L.drop b) else none)) (h4 : RpV w' g L (b : Nat) n) (h5 : Kp (fun k => k = g) w w') : SetD w w' g L a n e := ⟨p, ok, b, he, h1, by omega, h3, h4, h5⟩
set_option maxHeartbeats 8000000 in
set_option maxRecDepth 100000 in
theorem pSet_calls (w : World) (g : Nat) (L : List Int) (a : Nat) (n : Int) (H : RpV w g L a n) (hib : isB L) (hL : L.length ≤ 100000) (ha : a ≤ L.length) :
    Calls Try.prog 97 #[.pointer (some ⟨g, 0, none⟩)] w fun e w' => SetD w w' g L a n e := by
  have HH := Aside0.mk H
  have HIB := Aside0.mk hib
  have HL := Aside0.mk hL
  have HGL := Aside0.mk (show g < w.heap.size from blk_lt H)
  have HR := Aside0.mk (show RpV ((w.alloc (.cells (ptA zPt) 100)).alloc (.cells (ptA ⟨3, 0, [], false⟩) 100)) g L a n from blk_alloc (blk_alloc H (.cells (ptA zPt) 100)) (.cells (ptA ⟨3, 0, [], false⟩) 100))
  have HZ := Aside0.mk (blk_alloc (blk_new w (.cells (ptA zPt) 100)) (.cells (ptA ⟨3, 0, [], false⟩) 100))
  have HP := Aside0.mk (show ((w.alloc (.cells (ptA zPt) 100)).alloc (.cells (ptA ⟨3, 0, [], false⟩) 100)).heap[w.heap.size + 1]? = some (.cells (ptA ⟨3, 0, [], false⟩) 100 (0, 0)) by rw [show w.heap.size + 1 = (w.alloc (.cells (ptA zPt) 100)).heap.size from (Array.size_push _).symm]; exact blk_new _ _)
  have HK := Aside0.mk (((Kp.refl (fun k => k = g) w).alloc (.cells (ptA zPt) 100)).alloc (.cells (ptA ⟨3, 0, [], false⟩) 100))
  obtain ⟨N, hN⟩ : ∃ N, L.length = N := ⟨_, rfl⟩
  have HN := Aside0.mk hN
  rw [hN] at hL ha
  clear H hib hN
  go_enter Try.func97, Try.ntmps97
  go_upto_region 2 with fail
  obtain ⟨gr, hgr⟩ : ∃ x, w.heap.size = x := ⟨_, rfl⟩
  have HGR := Aside0.mk hgr
  rw [hgr] at HZ HP HGL ⊢
  obtain ⟨wx, hwx⟩ : ∃ wx, (w.alloc (.cells (ptA zPt) 100)).alloc (.cells (ptA ⟨3, 0, [], false⟩) 100) = wx := ⟨_, rfl⟩
  rw [hwx] at HR HZ HP HK
  rw [show (w.alloc (.cells #[.int .i64 0, .int .u8 0, .int .u64 0, .int .u64 0, .int .u64 0, .int .u64 0, .bool false] 100)).alloc (.cells #[.int .i64 3, .int .u8 0, .int .u64 0, .int .u64 0, .int .u64 0, .int .u64 0, .bool false] 100) = wx from hwx]
  clear hgr hwx
  go_wp2_with fail
  with_reducible refine (pNext_calls _ g L a n HR.out HIB.out HL.out (by rw [HN.out]; exact ha)).mono ?_
  rintro e w1 ⟨rfl, hr, hk⟩
  rw [HN.out]
  have HR1 := Aside0.mk hr
  have HP1 := Aside0.mk (show PtS w1 (gr + 1) ⟨3, 0, [], false⟩ from hk.blk HP.out (fun h => by have := HGL.out; omega))
  have HZ1 := Aside0.mk (show PtS w1 gr zPt from hk.blk HZ.out (fun h => by have := HGL.out; omega))
  have HK1 := Aside0.mk (HK.out.trans hk (fun k hk => .inl hk))
  clear hr hk HR HP HZ HK
  go_upto_region 3 with fail
  obtain ⟨bb, hbb⟩ : ∃ bb, (decide (a < N) && L.getD a 0 == 33) = bb := ⟨_, rfl⟩
  have HBB := Aside0.mk hbb
  go_cut [5, 6, 22] (fun v5 v6 v22 wx => v5 = .int .u8 (L.getD a 0) ∧ v6 = .bool (decide (a < N)) ∧ v22 = .bool bb ∧ wx = w1)
  case first =>
    by_cases c1 : a < N
    · have g1 : decide (a < N) = true := decide_eq_true c1
      rw [g1, Bool.true_and] at hbb
      go_wp2_with fail
      go_meet
      exact ⟨rfl, by rw [g1], by rw [← hbb]; rfl, rfl⟩
    · have g1 : decide (a < N) = false := decide_eq_false c1
      rw [g1, Bool.false_and] at hbb
      have HB2 := Aside0.mk hbb
      clear hbb
      go_wp2_with fail
      go_meet
      exact ⟨rfl, by rw [g1], by rw [← HB2.out], rfl⟩
  case rest =>
  obtain ⟨rfl, rfl, rfl, rfl⟩ := hcut
  clear hbb
  go_upto_if 22 with fail
  go_cut [5, 6] (fun v5 v6 wx => ∃ (q : Nat) (neg : Bool), v5 = .int .u8 (L.getD q 0) ∧ v6 = .bool (decide (q < N)) ∧ a ≤ q ∧ q ≤ N ∧ Aside0 (setQ (L.drop a) = setR neg (L.drop q)) ∧ Aside0 (RpV wx g L (nxA L q : Nat) n) ∧ Aside0 (PtS wx (gr + 1) ⟨3, 0, [], neg⟩) ∧ Aside0 (PtS wx gr zPt) ∧ Aside0 (Kp (fun k => k = g) w wx))
  case first =>
    cases bb with
    | false =>
      go_wp2_with fail
      go_meet
      refine ⟨a, false, rfl, rfl, Nat.le_refl _, ha, Aside0.mk ?_, HR1, HP1, HZ1, HK1⟩
      have hb := HBB.out
      rw [setQ, if_neg]
      intro e
      by_cases c1 : a < N
      · rw [decide_eq_true c1, Bool.true_and, beq_eq_false_iff_ne] at hb
        rw [List.getD_eq_getElem?_getD, List.getElem?_drop, Nat.add_zero, ← List.getD_eq_getElem?_getD] at e
        exact hb e
      · rw [List.drop_eq_nil_of_le (by rw [HN.out]; omega)] at e
        exact absurd e (by decide)
    | true =>
      have hc1 : a < N ∧ L.getD a 0 = 33 := by have := HBB.out; simpa using this
      have HC1 := Aside0.mk hc1
      have hlt := hc1.1
      have x6 := blk_cell HP1.out 6
      have f6 := blk_frozen HP1.out 6
      clear hc1
      go_upto_region 5 with fail
      have HP2 := Aside0.mk (show PtS (wc.setCell ⟨gr + 1, 6, none⟩ (.bool true)) (gr + 1) ⟨3, 0, [], true⟩ from by have := blk_set HP1.out 6 (.bool true); exact this)
      have hk2 := Kp.set wc ⟨gr + 1, 6, none⟩ (.bool true)
      have HZ2 := Aside0.mk (show PtS (wc.setCell ⟨gr + 1, 6, none⟩ (.bool true)) gr zPt from hk2.blk HZ1.out (fun h => by have : gr = gr + 1 := h; omega))
      have HR2 := Aside0.mk (show RpV (wc.setCell ⟨gr + 1, 6, none⟩ (.bool true)) g L (nxA L a : Nat) n from hk2.blk HR1.out (fun h => by have := HGL.out; have : g = gr + 1 := h; omega))
      have HK2 := Aside0.mk (HK1.out.trans hk2 (fun k hk => .inr (by have : k = gr + 1 := hk; have := HGR.out; omega)))
      obtain ⟨w2, hw2⟩ : ∃ w2, wc.setCell ⟨gr + 1, 6, none⟩ (.bool true) = w2 := ⟨_, rfl⟩
      rw [hw2] at HP2 HZ2 HR2 HK2 ⊢
      rw [show nxA L a = a + 1 by rw [nxA, if_pos (by rw [HN.out]; exact hlt)]] at HR2
      clear hk2 hw2 x6 f6 HP1 HR1 HZ1 HK1
      go_wp2_with fail
      with_reducible refine (pNext_calls _ g L (a + 1) n HR2.out HIB.out HL.out (by rw [HN.out]; omega)).mono ?_
      rintro e w3 ⟨rfl, hr, hk⟩
      rw [HN.out]
      have HR3 := Aside0.mk hr
      have HP3 := Aside0.mk (show PtS w3 (gr + 1) ⟨3, 0, [], true⟩ from hk.blk HP2.out (fun h => by have := HGL.out; omega))
      have HZ3 := Aside0.mk (show PtS w3 gr zPt from hk.blk HZ2.out (fun h => by have := HGL.out; omega))
      have HK3 := Aside0.mk (HK2.out.trans hk (fun k hk => .inl hk))
      clear hr hk HR2 HP2 HZ2 HK2
      go_wp2_with fail
      go_meet
      refine ⟨a + 1, true, rfl, rfl, by omega, by omega, Aside0.mk ?_, HR3, HP3, HZ3, HK3⟩
      rw [setQ, if_pos (by rw [List.getD_eq_getElem?_getD, List.getElem?_drop, Nat.add_zero, ← List.getD_eq_getElem?_getD]; exact HC1.out.2), List.drop_drop]
  case rest =>
  obtain ⟨q, neg, rfl, rfl, hq0, hq1, HQ, HR2, HP2, HZ2, HK2⟩ := hcut
  clear HR1 HP1 HZ1 HK1 HBB
  go_upto_block 0 with (fail)
  go_cut [6] (fun v6 wx => ∃ (acc : List (Int × Int)) (ok : Bool) (b : Nat), v6 = .bool ok ∧ a ≤ b ∧ b ≤ N ∧ Aside0 (setQ (L.drop a) = if ok = true then some (⟨3, 0, acc, neg⟩, L.drop b) else none) ∧ Aside0 (RpV wx g L (b : Nat) n) ∧ Aside0 (PtS wx (gr + 1) ⟨3, 0, acc, neg⟩) ∧ Aside0 (PtS wx gr zPt) ∧ Aside0 (Kp (fun k => k = g) w wx))
  case first =>
    obtain ⟨RES, hRES⟩ : ∃ R, setP ((L.drop q).length + 1) (L.drop q) true [] = R := ⟨_, rfl⟩
    have HRES := Aside0.mk hRES
    clear hRES
    go_wp2_with fail
    go_loopg [5, 6, 7] (N + 1) (fun kq v5 v6 v7 w' => ∃ (q1 f : Nat) (acc : List (Int × Int)) (first : Bool), v5 = .int .u8 (L.getD q1 0) ∧ v6 = .bool (decide (q1 < N)) ∧ v7 = .bool first ∧ a ≤ q1 ∧ q1 ≤ N ∧ N + 1 ≤ q1 + kq ∧ N < q1 + f ∧ Aside0 (setP f (L.drop q1) first acc = RES) ∧ Aside0 (RpV w' g L (nxA L q1 : Nat) n) ∧ Aside0 (PtS w' (gr + 1) ⟨3, 0, acc, neg⟩) ∧ Aside0 (PtS w' gr zPt) ∧ Aside0 (Kp (fun k => k = g) w w'))
    case atStart => exact ⟨q, (L.drop q).length + 1, [], true, rfl, rfl, rfl, hq0, hq1, by omega, by rw [List.length_drop, HN.out]; omega, HRES, HR2, HP2, HZ2, HK2⟩
    case round =>
      clear HR2 HP2 HZ2 HK2
      obtain ⟨q1, f, acc, first, rfl, rfl, rfl, hqa, hqN, hqk, hqf, HS, HR, HP, HZ, HK⟩ := hrel
      have HPS := Aside0.mk (show PSt w wr g gr L n ⟨3, 0, acc, neg⟩ (nxA L q1) from ⟨HR.out, HP.out, HZ.out, HK.out⟩)
      obtain ⟨c, hc⟩ : ∃ c, L.getD q1 0 = c := ⟨_, rfl⟩
      have HC := Aside0.mk hc
      rw [hc]
      obtain ⟨bb, hbb⟩ : ∃ bb, (decide (q1 < N) && (first || c != 93)) = bb := ⟨_, rfl⟩
      have HBB := Aside0.mk hbb
      clear HR HP HZ HK hc hbb
      go_upto_region 7 with fail
      go_cut [5, 6, 7, 36] (fun v5 v6 v7 v36 wx => v5 = .int .u8 c ∧ v6 = .bool (decide (q1 < N)) ∧ v7 = .bool first ∧ v36 = .bool bb ∧ wx = wr)
      case first =>
        by_cases c1 : q1 < N
        · have g1 : decide (q1 < N) = true := decide_eq_true c1
          cases first with
          | false =>
            go_wp2_with fail
            go_meet
            exact ⟨rfl, by rw [g1], rfl, by rw [← HBB.out, g1]; rfl, rfl⟩
          | true =>
            go_wp2_with fail
            go_meet
            exact ⟨rfl, by rw [g1], rfl, by rw [← HBB.out, g1]; rfl, rfl⟩
        · have g1 : decide (q1 < N) = false := decide_eq_false c1
          go_wp2_with fail
          go_meet
          exact ⟨rfl, by rw [g1], rfl, by rw [← HBB.out, g1]; rfl, rfl⟩
      case rest =>
      obtain ⟨rfl, rfl, rfl, rfl, rfl⟩ := hcut
      cases bb with
      | false =>
        go_wp2_with fail
        go_meet
        have HK := HPS.out
        by_cases c1 : q1 < N
        · have h2 := HBB.out
          rw [decide_eq_true c1, Bool.true_and, Bool.or_eq_false_iff] at h2
          obtain ⟨rfl, h3⟩ := h2
          have h3 : c = 93 := by simpa using h3
          have hne : L.drop q1 ≠ [] := fun e => by have := congrArg List.length e; rw [List.length_drop, HN.out] at this; simp at this; omega
          obtain ⟨f', rfl⟩ : ∃ f', f = f' + 1 := ⟨f - 1, by omega⟩
          have e1 := HS.out
          rw [setP_close f' _ acc hne (by rw [List.getD_eq_getElem?_getD, List.getElem?_drop, Nat.add_zero, ← List.getD_eq_getElem?_getD, HC.out]; exact h3), List.drop_drop] at e1
          have hx : nxA L q1 = q1 + 1 := by rw [nxA, if_pos (by rw [HN.out]; exact c1)]
          rw [hx] at HK
          exact ⟨acc, true, q1 + 1, by rw [decide_eq_true c1], by omega, by omega, Aside0.mk (by rw [HQ.out, setR, HRES.out, ← e1, if_pos rfl]), Aside0.mk HK.r, Aside0.mk HK.p, Aside0.mk HK.z, Aside0.mk HK.k⟩
        · have e1 := HS.out
          rw [setP_nil _ _ _ _ (List.drop_eq_nil_of_le (by rw [HN.out]; omega))] at e1
          have hx : nxA L q1 = q1 := by rw [nxA, if_neg (by rw [HN.out]; exact c1)]
          rw [hx] at HK
          exact ⟨acc, false, q1, by rw [decide_eq_false c1], by omega, by omega, Aside0.mk (by rw [HQ.out, setR, HRES.out, ← e1]; rfl), Aside0.mk HK.r, Aside0.mk HK.p, Aside0.mk HK.z, Aside0.mk HK.k⟩
      | true =>
        have h2 := HBB.out
        rw [Bool.and_eq_true, decide_eq_true_eq] at h2
        have c1 : q1 < N := h2.1
        have HNC := Aside0.mk (show ¬ (first = false ∧ c = 93) by rintro ⟨rfl, rfl⟩; exact absurd h2.2 (by decide))
        have HDR := Aside0.mk (show L.drop q1 = c :: L.drop (q1 + 1) by
          have hl : q1 < L.length := by rw [HN.out]; exact c1
          rw [List.drop_eq_getElem_cons hl, ← HC.out, List.getD_eq_getElem?_getD, List.getElem?_eq_getElem hl]; rfl)
        rw [show nxA L q1 = q1 + 1 by rw [nxA, if_pos (by rw [HN.out]; exact c1)]] at HPS
        have HCB := Aside0.mk (show 0 ≤ c ∧ c ≤ 255 by rw [← HC.out]; exact HIB.out.getD q1)
        have g1 : decide (q1 < N) = true := decide_eq_true c1
        clear h2 HBB
        go_wp2_with fail
        with_reducible refine (pLit_calls _ g L c (q1 + 1) n HPS.out.r HIB.out HL.out (by rw [HN.out]; omega) HCB.out).mono ?_
        rintro e w2 ⟨d, is1, b, rfl, hab, hbN, hbe, hlt, hd0, hd1, hr, hk⟩
        replace HPS := Aside0.mk (HPS.out.next hr hk HGL.out)
        have HLT := Aside0.mk hlt
        have HBE := Aside0.mk hbe
        have HR2 := Aside0.mk hr
        rw [HN.out] at hbN
        clear hr hk hlt hbe g1
        obtain ⟨bd, hbd⟩ : ∃ bd, dashB (L.drop b) = bd := ⟨_, rfl⟩
        have HBD := Aside0.mk hbd
        clear hbd
        go_upto_region 11 with fail
        go_cut [79] (fun v79 wx => v79 = .bool bd ∧ Aside0 (PSt w wx g gr L n ⟨3, 0, acc, neg⟩ b))
        case first => --ok
          have HB3 := HPS
          have hbx := HPS.out.r
          have x0 : w2.cell? ⟨g, 0, none⟩ = some (.string (strOfNums L)) := blk_cell hbx 0
          have x1 : w2.cell? ⟨g, 1, none⟩ = some (.int .i64 (b : Int)) := blk_cell hbx 1
          have hsz : (strOfNums L).size = N := by rw [strOf_size]; exact HN.out
          have wr1 : IntKind.i64.wrap ((b : Int) + 1) = (b : Int) + 1 := by rw [IntKind.wrap_i64]; omega
          clear hbx
          by_cases k1 : b + 1 < N
          · have g1 : decide ((b : Int) + 1 < (N : Int)) = true := decide_eq_true (by omega)
            have i0 := fun W => str_at L HIB.out b (b : Int) rfl (by rw [HN.out]; omega) W
            have i1 := fun W => str_at L HIB.out (b + 1) ((b : Int) + 1) (by omega) (by rw [HN.out]; omega) W
            have hd2 : bd = (L.getD b 0 == 45 && L.getD (b + 1) 0 != 93) := by
              rw [← HBD.out, dashB, List.length_drop, HN.out, decide_eq_true (by omega), Bool.true_and]
              simp only [List.getD_eq_getElem?_getD, List.getElem?_drop, Nat.add_zero]
            obtain ⟨p0, hp0⟩ : ∃ p0, L.getD b 0 = p0 := ⟨_, rfl⟩
            obtain ⟨p1, hp1⟩ : ∃ p1, L.getD (b + 1) 0 = p1 := ⟨_, rfl⟩
            rw [hp0] at i0 hd2
            rw [hp1] at i1 hd2
            have HD2 := Aside0.mk hd2
            clear hp0 hp1 hd2
            by_cases k2 : p0 = 45
            · have g2 : (p0 == 45) = true := by simpa using k2
              have HK2 := Aside0.mk k2
              clear k2
              by_cases k3 : p1 = 93
              · have g3 : (p1 != 93) = false := by simpa using k3
                have HK3 := Aside0.mk k3
                clear k3
                go_quiet (fail)
                have HP3 := Aside0.mk (HPS.out.below (pw_below_drewN (Below.refl _ _) nq))
                obtain ⟨wq, hwq⟩ : ∃ wq, w2.drewN nq = wq := ⟨_, rfl⟩
                rw [hwq] at HP3 ⊢
                have HG := Aside0.mk (show bd = false by rw [HD2.out, g2, g3]; rfl)
                clear hwq x0 x1 wr1 g1 g2 g3 i0 i1
                go_wp2_with fail
                go_meet
                exact ⟨congrArg Value.bool HG.out.symm, HP3⟩
              · have g3 : (p1 != 93) = true := by simpa using k3
                have HK3 := Aside0.mk k3
                clear k3
                go_quiet (fail)
                have HP3 := Aside0.mk (HPS.out.below (pw_below_drewN (Below.refl _ _) nq))
                obtain ⟨wq, hwq⟩ : ∃ wq, w2.drewN nq = wq := ⟨_, rfl⟩
                rw [hwq] at HP3 ⊢
                have HG := Aside0.mk (show bd = true by rw [HD2.out, g2, g3]; rfl)
                clear hwq x0 x1 wr1 g1 g2 g3 i0 i1
                go_wp2_with fail
                go_meet
                exact ⟨congrArg Value.bool HG.out.symm, HP3⟩
            · have g2 : (p0 == 45) = false := by simpa using k2
              have HK2 := Aside0.mk k2
              clear k2
              go_quiet (fail)
              have HP3 := Aside0.mk (HPS.out.below (pw_below_drewN (Below.refl _ _) nq))
              obtain ⟨wq, hwq⟩ : ∃ wq, w2.drewN nq = wq := ⟨_, rfl⟩
              rw [hwq] at HP3 ⊢
              have HG := Aside0.mk (show bd = false by rw [HD2.out, g2]; rfl)
              clear hwq x0 x1 wr1 g1 g2 i0 i1
              go_wp2_with fail
              go_meet
              exact ⟨congrArg Value.bool HG.out.symm, HP3⟩
          · have g1 : decide ((b : Int) + 1 < (N : Int)) = false := decide_eq_false (by omega)
            have HD2 := Aside0.mk (show bd = false by rw [← HBD.out, dashB, List.length_drop, HN.out, decide_eq_false (by omega), Bool.false_and])
            go_quiet (fail)
            have HP3 := Aside0.mk (HPS.out.below (pw_below_drewN (Below.refl _ _) nq))
            obtain ⟨wq, hwq⟩ : ∃ wq, w2.drewN nq = wq := ⟨_, rfl⟩
            rw [hwq] at HP3 ⊢
            have HG := Aside0.mk (HD2.out)
            clear hwq x0 x1 wr1 g1
            go_wp2_with fail
            go_meet
            exact ⟨congrArg Value.bool HG.out.symm, HP3⟩
        case rest =>
        obtain ⟨rfl, HP3⟩ := hcut
        clear HPS
        go_upto_if 79 with fail
        go_cut [9, 10] (fun v9 v10 wx => ∃ (high : Int) (is2 : Bool) (b2 : Nat), v9 = .bool is2 ∧ v10 = .int .u8 high ∧ q1 < b2 ∧ b2 ≤ N ∧ 0 ≤ high ∧ high ≤ 255 ∧ Aside0 (rngP (L.drop q1) = if is2 = true ∧ d ≤ high then some ((d, high), L.drop b2) else none) ∧ Aside0 (PSt w wx g gr L n ⟨3, 0, acc, neg⟩ b2))
        case first =>
          cases bd with
          | false =>
            go_wp2_with fail
            go_meet
            exact ⟨d, is1, b, rfl, rfl, by omega, hbN, hd0, hd1, Aside0.mk (rng_no (l := L.drop q1) (by rw [HDR.out]; exact HLT.out) HBD.out), HP3⟩
          | true =>
            have hb2 : b + 1 < N := by
              have := HBD.out
              rw [dashB, Bool.and_eq_true, decide_eq_true_eq, List.length_drop, HN.out] at this
              omega
            have hi1 : is1 = true := by
              cases is1 with
              | true => rfl
              | false => have := HBE.out rfl; rw [HN.out] at this; omega
            subst hi1
            have x1 := rp_at HP3.out.r
            have f1 : wc.frozen? ⟨g, 1, none⟩ = false := blk_frozen HP3.out.r 1
            have wr1 : IntKind.i64.wrap ((b : Int) + 1) = (b : Int) + 1 := by rw [IntKind.wrap_i64]; omega
            go_upto_region 13 with fail
            have HP4 := Aside0.mk (HP3.out.next (b' := b + 1) (by have := HP3.out.r.s1 ((b : Int) + 1); exact this) (Kp.set wc ⟨g, 1, none⟩ (.int .i64 ((b : Int) + 1))) HGL.out)
            obtain ⟨wd, hwd⟩ : ∃ x, wc.setCell ⟨g, 1, none⟩ (.int .i64 ((b : Int) + 1)) = x := ⟨_, rfl⟩
            rw [hwd] at HP4 ⊢
            clear hwd x1 f1 wr1
            go_wp2_with fail
            with_reducible refine (pNext_calls _ g L (b + 1) n HP4.out.r HIB.out HL.out (by rw [HN.out]; omega)).mono ?_
            rintro e w5 ⟨rfl, hr, hk⟩
            have HP5 := Aside0.mk (HP4.out.next hr hk HGL.out)
            rw [show nxA L (b + 1) = b + 2 by rw [nxA, if_pos (by rw [HN.out]; omega)]] at HP5
            clear hr hk
            obtain ⟨c2, hc2⟩ : ∃ c2, L.getD (b + 1) 0 = c2 := ⟨_, rfl⟩
            have HC2 := Aside0.mk hc2
            rw [hc2]
            have HDR2 := Aside0.mk (show (L.drop b).drop 1 = c2 :: L.drop (b + 2) by
              have hl : b + 1 < L.length := by rw [HN.out]; exact hb2
              rw [List.drop_drop, List.drop_eq_getElem_cons hl, ← hc2, List.getD_eq_getElem?_getD, List.getElem?_eq_getElem hl]; rfl)
            clear hc2
            go_wp2_with fail
            with_reducible refine (pLit_calls _ g L c2 (b + 2) n HP5.out.r HIB.out HL.out (by rw [HN.out]; omega) (by rw [← HC2.out]; exact HIB.out.getD _)).mono ?_
            rintro e w6 ⟨d2, is2, b2, rfl, hab2, hbN2, _, hlt2, hh0, hh1, hr, hk⟩
            have HP6 := Aside0.mk (HP5.out.next hr hk HGL.out)
            have HLT2 := Aside0.mk hlt2
            rw [HN.out] at hbN2
            clear hr hk hlt2
            go_wp2_with fail
            go_meet
            exact ⟨d2, is2, b2, rfl, rfl, by omega, hbN2, hh0, hh1, Aside0.mk (rng_yes (l := L.drop q1) (by rw [HDR.out]; simpa using HLT.out) HBD.out (by rw [HDR2.out]; exact HLT2.out)), HP6⟩
        case rest =>
        obtain ⟨high, is2, b2, rfl, rfl, hqb, hbN2, hh0, hh1, HRG, HP4⟩ := hcut
        clear HP3
        obtain ⟨f', rfl⟩ : ∃ f', f = f' + 1 := ⟨f - 1, by omega⟩
        have HS2 := Aside0.mk (show (match rngP (L.drop q1) with | none => none | some (r, l') => setP f' l' false (acc ++ [r])) = RES from
          (setP_step f' (L.drop q1) first acc (by rw [HDR.out]; simp) (by rw [HDR.out]; exact HNC.out)).symm.trans HS.out)
        clear HS HNC
        by_cases hgood : is2 = true ∧ d ≤ high
        · obtain ⟨rfl, hge⟩ := hgood
          have HS3 := Aside0.mk (show setP f' (L.drop b2) false (acc ++ [(d, high)]) = RES by rw [← HS2.out, HRG.out, if_pos ⟨rfl, hge⟩])
          have g1 : decide (high < d) = false := decide_eq_false (by omega)
          go_upto_block 2 with (fail)
          clear g1
          go_cut [] (fun wx => Aside0 (PSt w wx g gr L n ⟨3, 0, acc ++ [(d, high)], neg⟩ b2))
          case first =>
            obtain ⟨lo, rfl⟩ := Int.eq_ofNat_of_zero_le hd0
            obtain ⟨hi, rfl⟩ := Int.eq_ofNat_of_zero_le hh0
            have HST := Aside0.mk (show PSt w wc g gr L n ⟨3, 0, acc ++ [((lo : Int), (lo : Int) - 1)], neg⟩ b2 from ⟨HP4.out.r, HP4.out.p.start _, HP4.out.z, HP4.out.k⟩)
            go_wp2_with fail
            go_loopg [11] 257 (fun kq v11 w' => ∃ x : Nat, v11 = .int .i64 (x : Int) ∧ lo ≤ x ∧ x ≤ hi + 1 ∧ 257 ≤ x + kq ∧ Aside0 (PSt w w' g gr L n ⟨3, 0, acc ++ [((lo : Int), (x : Int) - 1)], neg⟩ b2))
            case atStart => exact ⟨lo, rfl, Nat.le_refl _, by omega, by omega, HST⟩
            case round =>
              obtain ⟨x, rfl, hx0, hx1, hxk, HPX⟩ := hrel
              by_cases cx : x ≤ hi
              · have g1 : decide ((x : Int) ≤ (hi : Int)) = true := decide_eq_true (by omega)
                have g1' : decide (x ≤ hi) = true := decide_eq_true cx
                obtain ⟨k, hk⟩ : ∃ k, x / 64 = k := ⟨_, rfl⟩
                obtain ⟨m, hm⟩ : ∃ m, x % 64 = m := ⟨_, rfl⟩
                have hk4 : k < 4 := by omega
                have hk4' : (k : Int) < 4 := by omega
                have hk0' : (0 : Int) ≤ (k : Int) := by omega
                have hm64 : m < 64 := by omega
                have q1' : (x : Int).tdiv 64 = (k : Int) := by rw [Int.tdiv_eq_ediv_of_nonneg (by omega)]; omega
                have q2' : (x : Int).tmod 64 = (m : Int) := by rw [Int.tmod_eq_emod_of_nonneg (by omega)]; omega
                have q3' : wrap64 (k : Int) = (k : Int) := by unfold wrap64; omega
                obtain ⟨y, hy⟩ : ∃ y, wdI (acc ++ [((lo : Int), (x : Int) - 1)]) k = y := ⟨_, rfl⟩
                have HY := Aside0.mk hy
                have y0 : wr.cell? ⟨gr + 1, 2 + k, none⟩ = some (.int .u64 y) := by rw [← hy]; exact HPX.out.p.cell k hk4
                clear hy
                have f0 : wr.frozen? ⟨gr + 1, 2 + k, none⟩ = false := blk_frozen HPX.out.p _
                go_upto_region 20 with fail
                refine start_ (n := 12) (S := fun w' => w'.cell? ⟨gr + 1, 2 + k, none⟩ = some (.int .u64 y)) (ds := [11]) #[false, false, false, false, false, false, false, false, false, false, false, false] (by kernel_rfl) rfl rfl (y0) (fun hHeld => ?_)
                refine pure_ (i := 0) (N := some 114) (v := ?_) (a' := ?_) #[true, false, false, false, false, false, false, false, false, false, false, false] rfl rfl (by kernel_rfl) (fun _ _ _ h => h) (Or.inl ⟨by rfl, ?_⟩) ?_ ?_
                rotate_left
                · intro w'
                  go_simp
                  with_reducible rfl
                rotate_left
                · simp only [Act.put, List.setIfInBounds_toArray, List.set_cons_zero, List.set_cons_succ, i64_w, i32_w]
                  rfl
                refine pure_ (i := 1) (N := some 115) (v := ?_) (a' := ?_) #[true, true, false, false, false, false, false, false, false, false, false, false] rfl rfl (by kernel_rfl) (fun _ _ _ h => h) (Or.inl ⟨by rfl, ?_⟩) ?_ ?_
                rotate_left
                · intro w'
                  go_simp
                  with_reducible rfl
                rotate_left
                · simp only [Act.put, List.setIfInBounds_toArray, List.set_cons_zero, List.set_cons_succ, i64_w, i32_w]
                  rfl
                refine pure_ (i := 2) (N := some 116) (v := ?_) (a' := ?_) #[true, true, true, false, false, false, false, false, false, false, false, false] rfl rfl (by kernel_rfl) (fun _ _ _ h => h) (Or.inl ⟨by rfl, ?_⟩) ?_ ?_
                rotate_left
                · intro w'
                  go_simp
                  with_reducible rfl
                rotate_left
                · simp only [Act.put, List.setIfInBounds_toArray, List.set_cons_zero, List.set_cons_succ, i64_w, i32_w]
                  rfl
                refine pure_ (i := 3) (N := some 117) (v := ?_) (a' := ?_) #[true, true, true, true, false, false, false, false, false, false, false, false] rfl rfl (by kernel_rfl) (fun _ _ _ h => h) (Or.inl ⟨by rfl, ?_⟩) ?_ ?_
                rotate_left
                · intro w'
                  go_simp
                  with_reducible rfl
                rotate_left
                · simp only [Act.put, List.setIfInBounds_toArray, List.set_cons_zero, List.set_cons_succ, i64_w, i32_w]
                  rfl
                refine pure_ (i := 5) (N := some 119) (v := ?_) (a' := ?_) #[true, true, true, true, false, true, false, false, false, false, false, false] rfl rfl (by kernel_rfl) (fun _ _ _ h => h) (Or.inl ⟨by rfl, ?_⟩) ?_ ?_
                rotate_left
                · intro w'
                  go_simp
                  with_reducible rfl
                rotate_left
                · simp only [Act.put, List.setIfInBounds_toArray, List.set_cons_zero, List.set_cons_succ, i64_w, i32_w]
                  rfl
                refine pure_ (i := 6) (N := some 120) (v := ?_) (a' := ?_) #[true, true, true, true, false, true, true, false, false, false, false, false] rfl rfl (by kernel_rfl) (fun _ _ _ h => h) (Or.inl ⟨by rfl, ?_⟩) ?_ ?_
                rotate_left
                · intro w'
                  go_simp
                  with_reducible rfl
                rotate_left
                · simp only [Act.put, List.setIfInBounds_toArray, List.set_cons_zero, List.set_cons_succ, i64_w, i32_w]
                  rfl
                refine pure_ (i := 7) (N := some 121) (v := ?_) (a' := ?_) #[true, true, true, true, false, true, true, true, false, false, false, false] rfl rfl (by kernel_rfl) (fun _ _ _ h => h) (Or.inl ⟨by rfl, ?_⟩) ?_ ?_
                rotate_left
                · intro w'
                  go_simp
                  with_reducible rfl
                rotate_left
                · simp only [Act.put, List.setIfInBounds_toArray, List.set_cons_zero, List.set_cons_succ, i64_w, i32_w]
                  rfl
                refine pure_ (i := 9) (N := some 123) (v := ?_) (a' := ?_) #[true, true, true, true, false, true, true, true, false, true, false, false] rfl rfl (by kernel_rfl) (fun _ _ _ h => h) (Or.inl ⟨by rfl, ?_⟩) ?_ ?_
                rotate_left
                · intro w'
                  go_simp
                  with_reducible rfl
                rotate_left
                · simp only [Act.put, List.setIfInBounds_toArray, List.set_cons_zero, List.set_cons_succ, i64_w, i32_w]
                  rfl
                refine take_ (i := 4) (N := some 118) (v := ?_) (a' := ?_) #[true, true, true, true, true, true, true, true, false, true, false, false] rfl rfl (by kernel_rfl) (fun _ _ _ h => h) (Or.inl ⟨by rfl, ?_⟩) hHeld ?_ ?_
                rotate_left
                · intro w' s0
                  go_simp
                  with_reducible rfl
                rotate_left
                · simp only [Act.put, List.setIfInBounds_toArray, List.set_cons_zero, List.set_cons_succ, i64_w, i32_w]
                  rfl
                refine pure_ (i := 8) (N := some 122) (v := ?_) (a' := ?_) #[true, true, true, true, true, true, true, true, true, true, false, false] rfl rfl (by kernel_rfl) (fun _ _ _ h => h) (Or.inl ⟨by rfl, ?_⟩) ?_ ?_
                rotate_left
                · intro w'
                  go_simp
                  with_reducible rfl
                rotate_left
                · simp only [Act.put, List.setIfInBounds_toArray, List.set_cons_zero, List.set_cons_succ, i64_w, i32_w]
                  rfl
                refine pure_ (i := 10) (N := some 124) (v := ?_) (a' := ?_) #[true, true, true, true, true, true, true, true, true, true, true, false] rfl rfl (by kernel_rfl) (fun _ _ _ h => h) (Or.inl ⟨by rfl, ?_⟩) ?_ ?_
                rotate_left
                · intro w'
                  go_simp
                  with_reducible rfl
                rotate_left
                · simp only [Act.put, List.setIfInBounds_toArray, List.set_cons_zero, List.set_cons_succ, i64_w, i32_w]
                  rfl
                refine last_ (i := 11) (N := none) #[true, true, true, true, true, true, true, true, true, true, true, true] rfl rfl (by kernel_rfl) (by decide) (fun K hK => ?_)
                refine skip_ (w1 := ?_) (by rfl) rfl ?_ ?_
                rotate_left
                · go_simp
                  rfl
                refine hK.out _ _ ?_
                clear hK K
                refine done_ (by kernel_rfl) ?_
                clear y0 f0 q1' q2' q3' g1 g1'
                have hset := HPX.out.p.set (show (lo : Int) ≤ (x : Int) by omega) (show x ≤ 255 by omega)
                rw [← wdI_or acc (lo : Int) x (by omega), hk, hm, HY.out] at hset
                have hks := Kp.set wr ⟨gr + 1, 2 + k, none⟩ (.int .u64 (bits .or .u64 y (IntKind.u64.wrap (2 ^ m))))
                have HPN := Aside0.mk (show PSt w (wr.setCell ⟨gr + 1, 2 + k, none⟩ (.int .u64 (bits .or .u64 y (IntKind.u64.wrap (2 ^ m))))) g gr L n ⟨3, 0, acc ++ [((lo : Int), (x : Int))], neg⟩ b2 from
                  ⟨hks.blk HPX.out.r (fun h => by have := HGL.out; have : g = gr + 1 := h; omega), hset, hks.blk HPX.out.z (fun h => by have : gr = gr + 1 := h; omega), HPX.out.k.trans hks (fun k hk => .inr (by have : k = gr + 1 := hk; have := HGR.out; omega))⟩)
                obtain ⟨wq, hwq⟩ : ∃ wq, wr.setCell ⟨gr + 1, 2 + k, none⟩ (.int .u64 (bits .or .u64 y (IntKind.u64.wrap (2 ^ m)))) = wq := ⟨_, rfl⟩
                rw [hwq] at HPN ⊢
                have HPD := Aside0.mk (HPN.out.below (below_drew (Below.refl wq.heap.size wq)))
                obtain ⟨wz, hwz⟩ : ∃ wz, wq.drew = wz := ⟨_, rfl⟩
                rw [hwz] at HPD ⊢
                clear hwq hwz hset hks hk hm
                go_wp2_with fail
                go_roundg (gk - 1)
                case measure => omega
                case rel => exact ⟨x + 1, by go_num, by omega, by omega, by omega, by rw [show ((x + 1 : Nat) : Int) - 1 = (x : Int) by omega]; exact HPD⟩
              · obtain rfl : x = hi + 1 := by omega
                have g1 : decide (((hi + 1 : Nat) : Int) ≤ (hi : Int)) = false := decide_eq_false (by omega)
                have g1' : decide (hi + 1 ≤ hi) = false := decide_eq_false (by omega)
                go_wp2_with fail
                go_meet
                have := HPX.out
                rw [show ((hi + 1 : Nat) : Int) - 1 = (hi : Int) by omega] at this
                exact Aside0.mk this
          case rest =>
          have HP7 := hcut
          clear HP4 HS2
          go_wp2_with fail
          with_reducible refine (pNext_calls _ g L b2 n HP7.out.r HIB.out HL.out (by rw [HN.out]; exact hbN2)).mono ?_
          rintro e w8 ⟨rfl, hr, hk⟩
          have HP8 := Aside0.mk (HP7.out.next hr hk HGL.out)
          clear hr hk
          rw [HN.out]
          go_wp2_with fail
          go_roundg (gk - 1)
          case measure => omega
          case rel => exact ⟨b2, f', acc ++ [(d, high)], false, rfl, rfl, rfl, by omega, hbN2, by omega, by omega, HS3, Aside0.mk HP8.out.r, Aside0.mk HP8.out.p, Aside0.mk HP8.out.z, Aside0.mk HP8.out.k⟩
        · have HRS := Aside0.mk (show RES = none by rw [← HS2.out, HRG.out, if_neg hgood])
          have HT := Aside0.mk (show wc.there gr 0 (#[.int .i64 0, .int .u8 0, .int .u64 0, .int .u64 0, .int .u64 0, .int .u64 0, .bool false] : Array Value).size by have := there_blk HP4.out.z; rw [ptA_size] at this; exact this)
          have hbc := kp_cells (b := gr) (#[.int .i64 0, .int .u8 0, .int .u64 0, .int .u64 0, .int .u64 0, .int .u64 0, .bool false] : Array Value).toList 0 wc
          have HRF := Aside0.mk (show RpV (wc.setCells gr 0 (#[.int .i64 0, .int .u8 0, .int .u64 0, .int .u64 0, .int .u64 0, .int .u64 0, .bool false] : Array Value).toList) g L (b2 : Nat) n from hbc.blk HP4.out.r (fun h => by have := HGL.out; have : g = gr := h; omega))
          have HKF := Aside0.mk (HP4.out.k.trans hbc (fun k hk => .inr (by rw [HGR.out, show k = gr from hk]; exact Nat.le_refl _)))
          clear hbc
          have FIN := Aside0.mk (show setQ (L.drop a) = none by rw [HQ.out, setR, HRES.out, HRS.out])
          cases is2 with
          | false =>
            go_wp2_with (first | (refine wpList_store_mid rfl 100 (.tmp 2) (.tmp 105) rfl gr 0 #[.int .i64 0, .int .u8 0, .int .u64 0, .int .u64 0, .int .u64 0, .int .u64 0, .bool false] rfl rfl HT.out info7 z7_ones ?_) | fail)
            exact bodyPost_ret (results_cell2 (i := 2) (j := 3) rfl rfl rfl (run_loadVar_mid _ gr 0 100 (#[.int .i64 0, .int .u8 0, .int .u64 0, .int .u64 0, .int .u64 0, .int .u64 0, .bool false] : Array Value).toList _ (World.rangeAt_setCells_same _ _ _ _ HT.out) Try.underlying100 rfl info7)) rfl (SetD.of zPt false b2 rfl (by omega) hbN2 HN.out (by rw [FIN.out]; rfl) HRF.out HKF.out)
          | true =>
            have g1 : decide (high < d) = true := decide_eq_true (by
              rcases Int.lt_or_le high d with h | h
              · exact h
              · exact absurd ⟨rfl, h⟩ hgood)
            go_wp2_with (first | (refine wpList_store_mid rfl 100 (.tmp 2) (.tmp 105) rfl gr 0 #[.int .i64 0, .int .u8 0, .int .u64 0, .int .u64 0, .int .u64 0, .int .u64 0, .bool false] rfl rfl HT.out info7 z7_ones ?_) | fail)
            exact bodyPost_ret (results_cell2 (i := 2) (j := 3) rfl rfl rfl (run_loadVar_mid _ gr 0 100 (#[.int .i64 0, .int .u8 0, .int .u64 0, .int .u64 0, .int .u64 0, .int .u64 0, .bool false] : Array Value).toList _ (World.rangeAt_setCells_same _ _ _ _ HT.out) Try.underlying100 rfl info7)) rfl (SetD.of zPt false b2 rfl (by omega) hbN2 HN.out (by rw [FIN.out]; rfl) HRF.out HKF.out)
  case rest =>
  obtain ⟨acc, ok, b, rfl, hb0, hb1, HQ3, HR3, HP3, HZ3, HK3⟩ := hcut
  clear HR2 HP2 HZ2 HK2 HQ
  have HT := Aside0.mk (show wc.there gr 0 (ptA ⟨3, 0, acc, neg⟩).size by have := there_blk HZ3.out; rw [ptA_size] at this ⊢; exact this)
  have HRK := Aside0.mk (show wc.rangeAt (gr + 1) 0 (ptA ⟨3, 0, acc, neg⟩).toList from range_blk HP3.out)
  have HSZ := Aside0.mk (show (Try.prog.info? 100).map (·.size) = some (ptA ⟨3, 0, acc, neg⟩).size by rw [ptA_size]; exact info7)
  have HSL := Aside0.mk (show (Try.prog.info? 100).map (·.size) = some (ptA ⟨3, 0, acc, neg⟩).toList.length by rw [Array.length_toList, ptA_size]; exact info7)
  have HON := Aside0.mk (show (ptA ⟨3, 0, acc, neg⟩).all (·.oneCell') = true from ptA_ones _)
  obtain ⟨X, hX⟩ : ∃ X, ptA ⟨3, 0, acc, neg⟩ = X := ⟨_, rfl⟩
  rw [hX] at HT HRK HSZ HSL HON
  have HX := Aside0.mk hX
  clear hX
  have hbc := kp_cells (b := gr) X.toList 0 wc
  have HRF := Aside0.mk (show RpV (wc.setCells gr 0 X.toList) g L (b : Nat) n from hbc.blk HR3.out (fun h => by have := HGL.out; have : g = gr := h; omega))
  have HKF := Aside0.mk (HK3.out.trans hbc (fun k hk => .inr (by rw [HGR.out, show k = gr from hk]; exact Nat.le_refl _)))
  clear hbc
  go_wp2_with (first | (refine wpList_load_mid rfl 100 (.tmp 4) rfl (gr + 1) 0 rfl X.toList _ HRK.out Try.underlying100 rfl HSL.out ?_) | (refine wpList_store_mid rfl 100 (.tmp 2) (.tmp 130) rfl gr 0 X rfl rfl HT.out HSZ.out HON.out ?_) | fail)
  exact bodyPost_ret (results_cell2 (i := 2) (j := 3) rfl rfl rfl (run_loadVar_mid _ gr 0 100 X.toList _ (World.rangeAt_setCells_same _ _ _ _ HT.out) Try.underlying100 rfl HSL.out)) rfl (SetD.of _ ok b (by rw [← HX.out, Array.toArray_toList]; rfl) hb0 hb1 HN.out HQ3.out HRF.out HKF.out)
end Go.Proofs.Ytplmdgimodgekaa
