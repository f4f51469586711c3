/- SHA-256: Keyed, the program's; the laws' ends. -/
import Derived.Test.YtplmdgimodgekaaDigT
import Derived.Test.YtplmdgimodgekaaDigO
namespace Go.Proofs.Ytplmdgimodgekaa
open Go.RowKit Go.Proofs.YtplmdgimodgekaaW.PrintWords Go.Proofs.YtplmdgimodgekaaW.PrintLast Go.Proofs.YtplmdgimodgekaaW.PrintMore
attribute [local go_sem] max2_int min2_int max_two min_two max_three min_three max_four min_four   -- for this text's walks alone
set_option linter.unusedVariables false
set_option linter.unusedSimpArgs false

theorem DigS.kp {S : Nat → Prop} {W W1 : World} {g base : Nat} {v : Value} {L : List Int} {n : Int} (h : DigS W g base v L n) (hk : Kp S W W1) (h1 : ¬ S g) (h2 : ∀ k, v.ownBlock = some k → ¬ S k) : DigS W1 g base v L n := ⟨hk.blk h.1 h1, h.2.kp hk h2⟩
/-- Two sums in the making: one is written on. -/
theorem two_write {W W1 : World} {g g2 base base2 : Nat} {v v2 v' : Value} {L L2 : List Int} {n n2 : Int} (h1 : DigS W g base v L n) (h2 : DigS W g2 base2 v2 L2 n2) (hA : Apart v v2) (hg : g ≠ g2) (hk : Kp (KS g v) W W1) (hat : v'.ownBlock = v.ownBlock ∨ ∃ b, v'.ownBlock = some b ∧ W.heap.size ≤ b) : DigS W1 g2 base2 v2 L2 n2 ∧ Apart v' v2 :=
  ⟨h2.kp hk (fun h => h.elim (fun e => hg e.symm) (fun e => h1.2.ne h2.1 (by decide) e)) (fun k hk' h => h.elim (fun e => h2.2.ne h1.1 (by decide) (by rw [hk', e])) (fun e => hA k e hk')), hA.grow h2.2 hat⟩
theorem ks_ge {W : World} {g base b : Nat} {v : Value} {L : List Int} {n : Int} (h : DigS W g base v L n) (hb : b ≤ base) (hg : b ≤ g) : ∀ k, KS g v k → b ≤ k := fun k hk => hk.elim (fun e => by omega) (fun e => Nat.le_trans hb (h.2.ge e))
theorem ks_blk {W W1 : World} {g base t b : Nat} {v : Value} {L : List Int} {n : Int} {cs : Array Value} (h : DigS W g base v L n) (hk : Kp (KS g v) W W1) (hb : W.heap[b]? = some (.cells cs t (0, 0))) (ht : 5 ≠ t) (hg : b ≠ g) : W1.heap[b]? = some (.cells cs t (0, 0)) :=
  hk.blk hb (fun hh => hh.elim hg (h.2.ne hb ht))
theorem sz32 (L : List Int) : 32 = (nums .u8 (shaP L)).toArray.size := by rw [List.size_toArray, nums_len, shaP_len]
theorem ipd_app_len (c : Int) (k L : List Int) : (ipd c k 64 ++ L).length = 64 + L.length := by rw [List.length_append, ipd_len]

set_option maxHeartbeats 8000000 in
set_option maxRecDepth 100000 in
theorem dKeyed_big (vy vb : Value) (y L : List Int) (w : World) (hy : Rd w .u8 vy y) (hib : isB y) (hb : Rd w .u8 vb L) (hibL : isB L) (hL : L.length ≤ 90000) (hy1 : y.length ≤ 90000) (hy64 : 64 < y.length) :
    Calls Try.prog 107 #[vy, vb] w fun e w' => e = .returned (.agg (nums .u8 (kyP y L)).toArray) ∧ Below w.heap.size w w' := by
  have HY := Aside0.mk hy
  have HIY := Aside0.mk hib
  have HL := Aside0.mk hb
  have HIL := Aside0.mk hibL
  obtain ⟨Ay, cy, ey, _, _, _⟩ := hy.mid
  subst ey
  obtain ⟨Y, hY⟩ : ∃ n, y.length = n := ⟨_, rfl⟩
  have HYL := Aside0.mk hY
  rw [hY] at HY hy64 hy1 ⊢
  obtain ⟨M, hM⟩ : ∃ n, L.length = n := ⟨_, rfl⟩
  have HM := Aside0.mk hM
  rw [hM] at hL
  have HE := Aside0.mk (show keyP y = shaP y by rw [keyP, if_pos (by have := HYL.out; omega)])
  clear hy hib hb hibL hY hM
  go_enter Try.func107, Try.ntmps107
  go_wp2_with fail
  refine at_w ?_
  intro wx hw
  have HB0 := Aside0.mk (show Below w.heap.size w wx by rw [hw]; exact below_alloc (Below.refl _ _) _)
  have HZ0 := Aside0.mk (show wx.heap[w.heap.size]? = some (.cells (nums .u8 (fillL (fun _ => 0) 32 0)).toArray 72 (0, 0)) by rw [hw]; exact blk_new w _)
  clear hw
  refine (dOf_calls _ y _ (HY.out.below HB0.out) HIY.out (by rw [HYL.out]; omega)).mono ?_
  rintro e wy ⟨rfl, hbK⟩
  have HBY := Aside0.mk (below_step HB0.out hbK)
  have HZY := Aside0.mk (blk_below HZ0.out hbK)
  have HNK := Aside0.mk (blk_new wy (.cells (nums .u8 (shaP y)).toArray 72))
  clear hbK hy64
  go_wp2_with (first | (refine wpList_store_fresh rfl 72 (.tmp 5) (.tmp 15) rfl _ (nums .u8 (shaP y)).toArray rfl rfl (info32A y) (sz32 y) (ones_nums _ _) ?_))
  refine at_w ?_
  intro wq hw
  have HBQ := Aside0.mk (show Below w.heap.size w wq by rw [hw]; exact below_alloc HBY.out _)
  have HZQ := Aside0.mk (show wq.heap[w.heap.size]? = some (.cells (nums .u8 (fillL (fun _ => 0) 32 0)).toArray 72 (0, 0)) by rw [hw]; exact blk_alloc HZY.out _)
  have HKR := Aside0.mk (show Rd wq .u8 (.slice (some ⟨wy.heap.size, 0, none⟩) 32 32) (shaP y) by have := Own.rd (own_blk (base := 0) HNK.out (Nat.zero_le _) (by rw [shaP_len]; omega)); rw [shaP_len] at this; rw [hw]; exact this)
  have HKI := Aside0.mk (shaP_isB y)
  have HKL := Aside0.mk (shaP_len y)
  clear hw HNK HZY HBY HZ0 HB0 hy1
  obtain ⟨K, hK⟩ : ∃ K, shaP y = K := ⟨_, rfl⟩
  rw [hK] at HKR HKI HKL HE
  clear hK HYL
  obtain ⟨Y, hY⟩ : ∃ Y : Nat, Y = 32 := ⟨_, rfl⟩
  rw [← hY] at HKL HKR
  have hY2 : Y ≤ 32 := by omega
  rw [show (Value.slice (some ⟨wy.heap.size, 0, none⟩) 32 32) = .slice (some ⟨wy.heap.size, 0, none⟩) Y 32 by rw [hY]]
  clear hY
  have hpq : w.heap.size < wq.heap.size := blk_lt HZQ.out
  refine (dNew_calls _).mono ?_
  rintro e w1 ⟨rfl, hn, hb⟩
  have HD1 := Aside0.mk (show DigS w1 wq.heap.size wq.heap.size (.slice none 0 0) [] 0 from ⟨hn, OwnO.nil _ _ _ _⟩)
  have HB1 := Aside0.mk hb
  clear hn hb
  go_wp2_with fail
  refine (dNew_calls _).mono ?_
  rintro e w2 ⟨rfl, hn, hb⟩
  have HE2 := Aside0.mk (show DigS w2 w1.heap.size wq.heap.size (.slice none 0 0) [] 0 from ⟨hn, OwnO.nil _ _ _ _⟩)
  have HD2 := Aside0.mk (HD1.out.below hb)
  have HB2 := Aside0.mk (below_step HB1.out hb)
  have hgo : wq.heap.size < w1.heap.size := blk_lt HD1.out.1
  obtain ⟨g, hg⟩ : ∃ g, wq.heap.size = g := ⟨_, rfl⟩
  obtain ⟨o, ho⟩ : ∃ o, w1.heap.size = o := ⟨_, rfl⟩
  rw [hg, ho] at hgo
  rw [ho, hg] at HE2
  rw [hg] at HD2 hpq
  rw [ho, hg]
  have HGQ := Aside0.mk hg
  have hg1 : g ≠ o := by omega
  have hg2 : o ≠ g := by omega
  have hwg : w.heap.size ≠ g := by omega
  have hwo : w.heap.size ≠ o := by omega
  clear hn hb hg ho
  go_wp2_with fail
  go_loopw [8, 9, 19] (fun v8 v9 v19 w' => ∃ (i : Nat) (v1 v2 : Value), i ≤ 64 ∧ v19 = .int .i64 i ∧ Aside0 (DigS w' g g v1 (ipd 54 K i) i) ∧ Aside0 (DigS w' o g v2 (ipd 92 K i) i) ∧ Aside0 (Apart v1 v2) ∧ Aside0 (Below wq.heap.size wq w')) (fun _ _ v19 _ => 64 - (intOf v19).toNat)
  case atStart => exact ⟨0, _, _, by omega, rfl, HD2, HE2, ⟨fun k hk => by cases hk⟩, HB2⟩
  case round =>
    clear HD2 HE2 HD1 HB1 HB2
    obtain ⟨i, v1, v2, hi, rfl, HD, HF, HAP, HB⟩ := hrel
    by_cases c1 : i < 64
    · obtain ⟨x, ex⟩ : ∃ x, K.getD i 0 = x := ⟨_, rfl⟩
      have HS9 := Aside0.mk (ipd_succ 54 K i)
      have HS10 := Aside0.mk (ipd_succ 92 K i)
      rw [ex] at HS9 HS10
      obtain ⟨x9, e9⟩ : ∃ z, bits .xor .u8 x 54 = z := ⟨_, rfl⟩
      obtain ⟨x10, e10⟩ : ∃ z, bits .xor .u8 x 92 = z := ⟨_, rfl⟩
      have HX9 := Aside0.mk (show 0 ≤ x9 ∧ x9 ≤ 255 by rw [← e9]; exact bits8_bd _ _ _)
      have HX10 := Aside0.mk (show 0 ≤ x10 ∧ x10 ≤ 255 by rw [← e10]; exact bits8_bd _ _ _)
      rw [e9] at HS9
      rw [e10] at HS10
      have hgq : g ≤ wr.heap.size := by have := HB.out.size; have := HGQ.out; omega
      by_cases c2 : i < Y
      · obtain ⟨ad, eA, hce⟩ := rdE_at (enc := Value.int .u8) (d := (0 : Int)) (HKR.out.below HB.out) i (by rw [HKL.out]; exact c2)
        cases eA
        rw [ex] at hce
        rw [Addr.add_lit, Nat.zero_add] at hce
        have hib := HKI.out.getD i
        rw [ex] at hib
        obtain ⟨x0, x1⟩ := hib
        clear ex
        go_wp2_with fail
        refine (Write_calls _ [x9] _ g g v1 (ipd 54 K i) i (HD.out.below (below_alloc (Below.refl _ _) _)) (lit_rdE (Value.int .u8) 0 wr 5 [x9] (by simp)) ((ipd_isB _ _ _).app (fun z hz => by simp at hz; rw [hz]; exact HX9.out)) (below_alloc HB.out _ |>.size |> Nat.le_trans (Nat.le_of_eq HGQ.out.symm)) (Nat.le_refl _) (by simp) (by omega) (by omega)).mono ?_
        rintro e w4 ⟨rfl, v4, hd4, hk4, ha4⟩
        rw [HS9.out] at hd4
        have HFa := Aside0.mk (HF.out.below (below_alloc (Below.refl _ wr) (.cells #[.int .u8 x9] 5)))
        have HDa := Aside0.mk (HD.out.below (below_alloc (Below.refl _ wr) (.cells #[.int .u8 x9] 5)))
        obtain ⟨hf4, hap4⟩ := two_write HDa.out HFa.out HAP.out hg1 hk4 ha4
        have HD4 := Aside0.mk (show DigS w4 g g v4 (ipd 54 K (i + 1)) ((i + 1 : Nat) : Int) from hd4)
        have HF4 := Aside0.mk hf4
        have HAP4 := Aside0.mk hap4
        have HB4 := Aside0.mk (Kp.from (below_alloc HB.out _) hk4 (ks_ge HDa.out (by rw [HGQ.out]; exact Nat.le_refl _) (by rw [HGQ.out]; exact Nat.le_refl _)))
        clear hd4 hk4 ha4 hf4 hap4
        go_wp2_with fail
        refine (Write_calls _ [x10] _ o g v2 (ipd 92 K i) i (HF4.out.below (below_alloc (Below.refl _ _) _)) (lit_rdE (Value.int .u8) 0 w4 5 [x10] (by simp)) ((ipd_isB _ _ _).app (fun z hz => by simp at hz; rw [hz]; exact HX10.out)) (below_alloc HB4.out _ |>.size |> Nat.le_trans (Nat.le_of_eq HGQ.out.symm)) (Nat.le_of_lt hgo) (by simp) (by omega) (by omega)).mono ?_
        rintro e w5 ⟨rfl, v5, hd5, hk5, ha5⟩
        rw [HS10.out] at hd5
        have HFb := Aside0.mk (HF4.out.below (below_alloc (Below.refl _ w4) (.cells #[.int .u8 x10] 5)))
        have HDb := Aside0.mk (HD4.out.below (below_alloc (Below.refl _ w4) (.cells #[.int .u8 x10] 5)))
        obtain ⟨hf5, hap5⟩ := two_write HFb.out HDb.out HAP4.out.symm hg2 hk5 ha5
        have HF5 := Aside0.mk (show DigS w5 o g v5 (ipd 92 K (i + 1)) ((i + 1 : Nat) : Int) from hd5)
        have HD5 := Aside0.mk hf5
        have HAP5 := Aside0.mk hap5.symm
        have HB5 := Aside0.mk (Kp.from (below_alloc HB4.out _) hk5 (ks_ge HFb.out (by rw [HGQ.out]; exact Nat.le_refl _) (by rw [HGQ.out]; exact Nat.le_of_lt hgo)))
        clear hd5 hk5 ha5 hf5 hap5
        go_wp2_with fail
        go_roundw
        case rel => exact ⟨i + 1, _, _, by omega, by go_num, HD5, HF5, HAP5, HB5⟩
        case measure => simp [intOf] <;> omega
      · obtain rfl : x = 0 := by rw [← ex, List.getD_eq_getElem?_getD, List.getElem?_eq_none (by rw [HKL.out]; omega)]; rfl
        obtain rfl : 54 = x9 := by rw [← e9]; decide
        obtain rfl : 92 = x10 := by rw [← e10]; decide
        clear ex e9 e10
        go_wp2_with fail
        refine (Write_calls _ [54] _ g g v1 (ipd 54 K i) i (HD.out.below (below_alloc (Below.refl _ _) _)) (lit_rdE (Value.int .u8) 0 wr 5 [54] (by simp)) ((ipd_isB _ _ _).app (fun z hz => by simp at hz; rw [hz]; exact HX9.out)) (below_alloc HB.out _ |>.size |> Nat.le_trans (Nat.le_of_eq HGQ.out.symm)) (Nat.le_refl _) (by simp) (by omega) (by omega)).mono ?_
        rintro e w4 ⟨rfl, v4, hd4, hk4, ha4⟩
        rw [HS9.out] at hd4
        have HFa := Aside0.mk (HF.out.below (below_alloc (Below.refl _ wr) (.cells #[.int .u8 54] 5)))
        have HDa := Aside0.mk (HD.out.below (below_alloc (Below.refl _ wr) (.cells #[.int .u8 54] 5)))
        obtain ⟨hf4, hap4⟩ := two_write HDa.out HFa.out HAP.out hg1 hk4 ha4
        have HD4 := Aside0.mk (show DigS w4 g g v4 (ipd 54 K (i + 1)) ((i + 1 : Nat) : Int) from hd4)
        have HF4 := Aside0.mk hf4
        have HAP4 := Aside0.mk hap4
        have HB4 := Aside0.mk (Kp.from (below_alloc HB.out _) hk4 (ks_ge HDa.out (by rw [HGQ.out]; exact Nat.le_refl _) (by rw [HGQ.out]; exact Nat.le_refl _)))
        clear hd4 hk4 ha4 hf4 hap4
        go_wp2_with fail
        refine (Write_calls _ [92] _ o g v2 (ipd 92 K i) i (HF4.out.below (below_alloc (Below.refl _ _) _)) (lit_rdE (Value.int .u8) 0 w4 5 [92] (by simp)) ((ipd_isB _ _ _).app (fun z hz => by simp at hz; rw [hz]; exact HX10.out)) (below_alloc HB4.out _ |>.size |> Nat.le_trans (Nat.le_of_eq HGQ.out.symm)) (Nat.le_of_lt hgo) (by simp) (by omega) (by omega)).mono ?_
        rintro e w5 ⟨rfl, v5, hd5, hk5, ha5⟩
        rw [HS10.out] at hd5
        have HFb := Aside0.mk (HF4.out.below (below_alloc (Below.refl _ w4) (.cells #[.int .u8 92] 5)))
        have HDb := Aside0.mk (HD4.out.below (below_alloc (Below.refl _ w4) (.cells #[.int .u8 92] 5)))
        obtain ⟨hf5, hap5⟩ := two_write HFb.out HDb.out HAP4.out.symm hg2 hk5 ha5
        have HF5 := Aside0.mk (show DigS w5 o g v5 (ipd 92 K (i + 1)) ((i + 1 : Nat) : Int) from hd5)
        have HD5 := Aside0.mk hf5
        have HAP5 := Aside0.mk hap5.symm
        have HB5 := Aside0.mk (Kp.from (below_alloc HB4.out _) hk5 (ks_ge HFb.out (by rw [HGQ.out]; exact Nat.le_refl _) (by rw [HGQ.out]; exact Nat.le_of_lt hgo)))
        clear hd5 hk5 ha5 hf5 hap5
        go_wp2_with fail
        go_roundw
        case rel => exact ⟨i + 1, _, _, by omega, by go_num, HD5, HF5, HAP5, HB5⟩
        case measure => simp [intOf] <;> omega
    · obtain rfl : i = 64 := by omega
      rw [show ((64 : Nat) : Int) = 64 from rfl] at HD HF ⊢
      have hgq : g ≤ wr.heap.size := by have := HB.out.size; have := HGQ.out; omega
      have hM2 : M ≤ 100000 := by omega
      go_wp2_with fail
      refine (Write_calls _ L _ g g v1 (ipd 54 K 64) 64 HD.out (HL.out.below (below_step HBQ.out HB.out)) ((ipd_isB _ _ _).app HIL.out) hgq (Nat.le_refl _) (by rw [HM.out]; omega) (by omega) (by omega)).mono ?_
      rintro e w6 ⟨rfl, v6, hd6, hk6, ha6⟩
      rw [HM.out] at hd6
      obtain ⟨hf6, hap6⟩ := two_write HD.out HF.out HAP.out hg1 hk6 ha6
      have HD6 := Aside0.mk (show DigS w6 g g v6 (ipd 54 K 64 ++ L) ((ipd 54 K 64 ++ L).length : Nat) by rw [ipd_app_len, HM.out]; exact hd6)
      have HF6 := Aside0.mk hf6
      have HB6 := Aside0.mk (below_step HBQ.out (Kp.from HB.out hk6 (ks_ge HD.out (by rw [HGQ.out]; exact Nat.le_refl _) (by rw [HGQ.out]; exact Nat.le_refl _))))
      have HZ6 := Aside0.mk (ks_blk HD.out hk6 (blk_below HZQ.out HB.out) (by decide) hwg)
      clear hd6 hk6 ha6 hf6 hap6
      go_wp2_with fail
      refine (Sum_calls _ g g v6 (ipd 54 K 64 ++ L) HD6.out ((ipd_isB _ _ _).app HIL.out) (by rw [ipd_app_len, HM.out]; omega)).mono ?_
      rintro e w7 ⟨rfl, hb⟩
      have HF7 := Aside0.mk (HF6.out.below hb)
      have HB7 := Aside0.mk (below_step HB6.out hb)
      have HZ7 := Aside0.mk (blk_below HZ6.out hb)
      have hg7 : g ≤ w7.heap.size := by have := hb.size; have := HB6.out.size; have := blk_lt HD6.out.1; omega
      clear hb
      obtain ⟨S, hS⟩ : ∃ S, ipd 54 K 64 ++ L = S := ⟨_, rfl⟩
      rw [hS]
      have HSS := Aside0.mk hS
      have HNB := Aside0.mk (blk_new w7 (.cells (nums .u8 (shaP S)).toArray 72))
      clear hS
      go_wp2_with (first | (refine wpList_store_fresh rfl 72 (.tmp 10) (.tmp 45) rfl _ (nums .u8 (shaP S)).toArray rfl rfl (info32A S) (sz32 S) (ones_nums _ _) ?_))
      refine (Write_calls _ (shaP S) _ o g v2 (ipd 92 K 64) 64 (HF7.out.below (below_alloc (Below.refl _ _) _)) (by have := Own.rd (own_blk (base := 0) HNB.out (Nat.zero_le _) (by rw [shaP_len]; omega)); rw [shaP_len] at this; exact this) ((ipd_isB _ _ _).app (shaP_isB _)) (Nat.le_trans hg7 (below_alloc (Below.refl _ _) _).size) (Nat.le_of_lt hgo) (by rw [shaP_len]; omega) (by omega) (by omega)).mono ?_
      rintro e w8 ⟨rfl, v8, hd8, hk8, ha8⟩
      have HFc := Aside0.mk (HF7.out.below (below_alloc (Below.refl _ _) (.cells (nums .u8 (shaP S)).toArray 72)))
      have HD8 := Aside0.mk (show DigS w8 o g v8 (ipd 92 K 64 ++ shaP S) ((ipd 92 K 64 ++ shaP S).length : Nat) by rw [ipd_app_len]; exact hd8)
      have HB8 := Aside0.mk (Kp.from (below_alloc HB7.out _) hk8 (ks_ge HFc.out (Nat.le_of_lt (by omega)) (by omega)))
      have HZ8 := Aside0.mk (ks_blk HFc.out hk8 (blk_alloc HZ7.out _) (by decide) hwo)
      clear hd8 hk8 ha8 HNB
      go_wp2_with fail
      refine (Sum_calls _ o g v8 (ipd 92 K 64 ++ shaP S) HD8.out ((ipd_isB _ _ _).app (shaP_isB _)) (by rw [ipd_app_len, shaP_len]; omega)).mono ?_
      rintro e w9 ⟨rfl, hb⟩
      have HB9 := Aside0.mk (below_step HB8.out hb)
      have HZ9 := Aside0.mk (blk_below HZ8.out hb)
      have HK := Aside0.mk (show shaP (ipd 92 K 64 ++ shaP S) = shaP (ipd 92 K 64 ++ shaP S) from rfl)
      have HFIN := Aside0.mk (show kyP y L = shaP (ipd 92 K 64 ++ shaP S) by rw [kyP, HE.out, HSS.out])
      obtain ⟨X, hX⟩ : ∃ X, ipd 92 K 64 ++ shaP S = X := ⟨_, rfl⟩
      rw [hX] at HFIN ⊢
      have HT := Aside0.mk (there32 X HZ9.out)
      have H1 := Aside0.mk (ones_nums .u8 (shaP X))
      clear hb hX
      go_wp2_with (first | (refine wpList_store_mid rfl 72 (.tmp 4) (.tmp 50) rfl w.heap.size 0 (nums .u8 (shaP X)).toArray rfl rfl HT.out (info32A X) H1.out ?_))
      exact bodyPost_ret (results_cell (i := 4) rfl rfl (run_loadVar_mid _ w.heap.size 0 72 (nums .u8 (shaP X)) (.array 32 5) (World.rangeAt_setCells_same _ _ _ _ HT.out) Try.underlying72 rfl (info32L X))) rfl ⟨by rw [HFIN.out], below_cells (Nat.le_refl _) _ _ _ HB9.out⟩
set_option maxHeartbeats 8000000 in
set_option maxRecDepth 100000 in
theorem dKeyed_small (vy vb : Value) (y L : List Int) (w : World) (hy : Rd w .u8 vy y) (hib : isB y) (hb : Rd w .u8 vb L) (hibL : isB L) (hL : L.length ≤ 90000) (hy1 : y.length ≤ 90000) (hy64 : y.length ≤ 64) :
    Calls Try.prog 107 #[vy, vb] w fun e w' => e = .returned (.agg (nums .u8 (kyP y L)).toArray) ∧ Below w.heap.size w w' := by
  have HY := Aside0.mk hy
  have HIY := Aside0.mk hib
  have HL := Aside0.mk hb
  have HIL := Aside0.mk hibL
  obtain ⟨Ay, cy, ey, _, _, _⟩ := hy.mid
  subst ey
  obtain ⟨Y, hY⟩ : ∃ n, y.length = n := ⟨_, rfl⟩
  have HYL := Aside0.mk hY
  rw [hY] at HY hy64 hy1 ⊢
  obtain ⟨M, hM⟩ : ∃ n, L.length = n := ⟨_, rfl⟩
  have HM := Aside0.mk hM
  rw [hM] at hL
  have HE := Aside0.mk (show keyP y = y by rw [keyP, if_neg (by have := HYL.out; omega)])
  clear hy hib hb hibL hY hM
  go_enter Try.func107, Try.ntmps107
  go_wp2_with fail
  refine at_w ?_
  intro wx hw
  have HB0 := Aside0.mk (show Below w.heap.size w wx by rw [hw]; exact below_alloc (Below.refl _ _) _)
  have HZ0 := Aside0.mk (show wx.heap[w.heap.size]? = some (.cells (nums .u8 (fillL (fun _ => 0) 32 0)).toArray 72 (0, 0)) by rw [hw]; exact blk_new w _)
  clear hw
  have HBQ := HB0
  have HZQ := HZ0
  have HKR := Aside0.mk (HY.out.below HB0.out)
  have HKI := Aside0.mk HIY.out
  have HKL := Aside0.mk HYL.out
  have hpq : w.heap.size < wx.heap.size := blk_lt HZQ.out
  refine (dNew_calls _).mono ?_
  rintro e w1 ⟨rfl, hn, hb⟩
  have HD1 := Aside0.mk (show DigS w1 wx.heap.size wx.heap.size (.slice none 0 0) [] 0 from ⟨hn, OwnO.nil _ _ _ _⟩)
  have HB1 := Aside0.mk hb
  clear hn hb
  go_wp2_with fail
  refine (dNew_calls _).mono ?_
  rintro e w2 ⟨rfl, hn, hb⟩
  have HE2 := Aside0.mk (show DigS w2 w1.heap.size wx.heap.size (.slice none 0 0) [] 0 from ⟨hn, OwnO.nil _ _ _ _⟩)
  have HD2 := Aside0.mk (HD1.out.below hb)
  have HB2 := Aside0.mk (below_step HB1.out hb)
  have hgo : wx.heap.size < w1.heap.size := blk_lt HD1.out.1
  obtain ⟨g, hg⟩ : ∃ g, wx.heap.size = g := ⟨_, rfl⟩
  obtain ⟨o, ho⟩ : ∃ o, w1.heap.size = o := ⟨_, rfl⟩
  rw [hg, ho] at hgo
  rw [ho, hg] at HE2
  rw [hg] at HD2 hpq
  rw [ho, hg]
  have HGQ := Aside0.mk hg
  have hg1 : g ≠ o := by omega
  have hg2 : o ≠ g := by omega
  have hwg : w.heap.size ≠ g := by omega
  have hwo : w.heap.size ≠ o := by omega
  clear hn hb hg ho
  go_wp2_with fail
  go_loopw [8, 9, 19] (fun v8 v9 v19 w' => ∃ (i : Nat) (v1 v2 : Value), i ≤ 64 ∧ v19 = .int .i64 i ∧ Aside0 (DigS w' g g v1 (ipd 54 y i) i) ∧ Aside0 (DigS w' o g v2 (ipd 92 y i) i) ∧ Aside0 (Apart v1 v2) ∧ Aside0 (Below wx.heap.size wx w')) (fun _ _ v19 _ => 64 - (intOf v19).toNat)
  case atStart => exact ⟨0, _, _, by omega, rfl, HD2, HE2, ⟨fun k hk => by cases hk⟩, HB2⟩
  case round =>
    clear HD2 HE2 HD1 HB1 HB2
    obtain ⟨i, v1, v2, hi, rfl, HD, HF, HAP, HB⟩ := hrel
    by_cases c1 : i < 64
    · obtain ⟨x, ex⟩ : ∃ x, y.getD i 0 = x := ⟨_, rfl⟩
      have HS9 := Aside0.mk (ipd_succ 54 y i)
      have HS10 := Aside0.mk (ipd_succ 92 y i)
      rw [ex] at HS9 HS10
      obtain ⟨x9, e9⟩ : ∃ z, bits .xor .u8 x 54 = z := ⟨_, rfl⟩
      obtain ⟨x10, e10⟩ : ∃ z, bits .xor .u8 x 92 = z := ⟨_, rfl⟩
      have HX9 := Aside0.mk (show 0 ≤ x9 ∧ x9 ≤ 255 by rw [← e9]; exact bits8_bd _ _ _)
      have HX10 := Aside0.mk (show 0 ≤ x10 ∧ x10 ≤ 255 by rw [← e10]; exact bits8_bd _ _ _)
      rw [e9] at HS9
      rw [e10] at HS10
      have hgq : g ≤ wr.heap.size := by have := HB.out.size; have := HGQ.out; omega
      by_cases c2 : i < Y
      · obtain ⟨ad, eA, hce⟩ := rdE_at (enc := Value.int .u8) (d := (0 : Int)) (HKR.out.below HB.out) i (by rw [HKL.out]; exact c2)
        cases eA
        rw [ex] at hce
        have hib := HKI.out.getD i
        rw [ex] at hib
        obtain ⟨x0, x1⟩ := hib
        clear ex
        go_wp2_with fail
        refine (Write_calls _ [x9] _ g g v1 (ipd 54 y i) i (HD.out.below (below_alloc (Below.refl _ _) _)) (lit_rdE (Value.int .u8) 0 wr 5 [x9] (by simp)) ((ipd_isB _ _ _).app (fun z hz => by simp at hz; rw [hz]; exact HX9.out)) (below_alloc HB.out _ |>.size |> Nat.le_trans (Nat.le_of_eq HGQ.out.symm)) (Nat.le_refl _) (by simp) (by omega) (by omega)).mono ?_
        rintro e w4 ⟨rfl, v4, hd4, hk4, ha4⟩
        rw [HS9.out] at hd4
        have HFa := Aside0.mk (HF.out.below (below_alloc (Below.refl _ wr) (.cells #[.int .u8 x9] 5)))
        have HDa := Aside0.mk (HD.out.below (below_alloc (Below.refl _ wr) (.cells #[.int .u8 x9] 5)))
        obtain ⟨hf4, hap4⟩ := two_write HDa.out HFa.out HAP.out hg1 hk4 ha4
        have HD4 := Aside0.mk (show DigS w4 g g v4 (ipd 54 y (i + 1)) ((i + 1 : Nat) : Int) from hd4)
        have HF4 := Aside0.mk hf4
        have HAP4 := Aside0.mk hap4
        have HB4 := Aside0.mk (Kp.from (below_alloc HB.out _) hk4 (ks_ge HDa.out (by rw [HGQ.out]; exact Nat.le_refl _) (by rw [HGQ.out]; exact Nat.le_refl _)))
        clear hd4 hk4 ha4 hf4 hap4
        go_wp2_with fail
        refine (Write_calls _ [x10] _ o g v2 (ipd 92 y i) i (HF4.out.below (below_alloc (Below.refl _ _) _)) (lit_rdE (Value.int .u8) 0 w4 5 [x10] (by simp)) ((ipd_isB _ _ _).app (fun z hz => by simp at hz; rw [hz]; exact HX10.out)) (below_alloc HB4.out _ |>.size |> Nat.le_trans (Nat.le_of_eq HGQ.out.symm)) (Nat.le_of_lt hgo) (by simp) (by omega) (by omega)).mono ?_
        rintro e w5 ⟨rfl, v5, hd5, hk5, ha5⟩
        rw [HS10.out] at hd5
        have HFb := Aside0.mk (HF4.out.below (below_alloc (Below.refl _ w4) (.cells #[.int .u8 x10] 5)))
        have HDb := Aside0.mk (HD4.out.below (below_alloc (Below.refl _ w4) (.cells #[.int .u8 x10] 5)))
        obtain ⟨hf5, hap5⟩ := two_write HFb.out HDb.out HAP4.out.symm hg2 hk5 ha5
        have HF5 := Aside0.mk (show DigS w5 o g v5 (ipd 92 y (i + 1)) ((i + 1 : Nat) : Int) from hd5)
        have HD5 := Aside0.mk hf5
        have HAP5 := Aside0.mk hap5.symm
        have HB5 := Aside0.mk (Kp.from (below_alloc HB4.out _) hk5 (ks_ge HFb.out (by rw [HGQ.out]; exact Nat.le_refl _) (by rw [HGQ.out]; exact Nat.le_of_lt hgo)))
        clear hd5 hk5 ha5 hf5 hap5
        go_wp2_with fail
        go_roundw
        case rel => exact ⟨i + 1, _, _, by omega, by go_num, HD5, HF5, HAP5, HB5⟩
        case measure => simp [intOf] <;> omega
      · obtain rfl : x = 0 := by rw [← ex, List.getD_eq_getElem?_getD, List.getElem?_eq_none (by rw [HKL.out]; omega)]; rfl
        obtain rfl : 54 = x9 := by rw [← e9]; decide
        obtain rfl : 92 = x10 := by rw [← e10]; decide
        clear ex e9 e10
        go_wp2_with fail
        refine (Write_calls _ [54] _ g g v1 (ipd 54 y i) i (HD.out.below (below_alloc (Below.refl _ _) _)) (lit_rdE (Value.int .u8) 0 wr 5 [54] (by simp)) ((ipd_isB _ _ _).app (fun z hz => by simp at hz; rw [hz]; exact HX9.out)) (below_alloc HB.out _ |>.size |> Nat.le_trans (Nat.le_of_eq HGQ.out.symm)) (Nat.le_refl _) (by simp) (by omega) (by omega)).mono ?_
        rintro e w4 ⟨rfl, v4, hd4, hk4, ha4⟩
        rw [HS9.out] at hd4
        have HFa := Aside0.mk (HF.out.below (below_alloc (Below.refl _ wr) (.cells #[.int .u8 54] 5)))
        have HDa := Aside0.mk (HD.out.below (below_alloc (Below.refl _ wr) (.cells #[.int .u8 54] 5)))
        obtain ⟨hf4, hap4⟩ := two_write HDa.out HFa.out HAP.out hg1 hk4 ha4
        have HD4 := Aside0.mk (show DigS w4 g g v4 (ipd 54 y (i + 1)) ((i + 1 : Nat) : Int) from hd4)
        have HF4 := Aside0.mk hf4
        have HAP4 := Aside0.mk hap4
        have HB4 := Aside0.mk (Kp.from (below_alloc HB.out _) hk4 (ks_ge HDa.out (by rw [HGQ.out]; exact Nat.le_refl _) (by rw [HGQ.out]; exact Nat.le_refl _)))
        clear hd4 hk4 ha4 hf4 hap4
        go_wp2_with fail
        refine (Write_calls _ [92] _ o g v2 (ipd 92 y i) i (HF4.out.below (below_alloc (Below.refl _ _) _)) (lit_rdE (Value.int .u8) 0 w4 5 [92] (by simp)) ((ipd_isB _ _ _).app (fun z hz => by simp at hz; rw [hz]; exact HX10.out)) (below_alloc HB4.out _ |>.size |> Nat.le_trans (Nat.le_of_eq HGQ.out.symm)) (Nat.le_of_lt hgo) (by simp) (by omega) (by omega)).mono ?_
        rintro e w5 ⟨rfl, v5, hd5, hk5, ha5⟩
        rw [HS10.out] at hd5
        have HFb := Aside0.mk (HF4.out.below (below_alloc (Below.refl _ w4) (.cells #[.int .u8 92] 5)))
        have HDb := Aside0.mk (HD4.out.below (below_alloc (Below.refl _ w4) (.cells #[.int .u8 92] 5)))
        obtain ⟨hf5, hap5⟩ := two_write HFb.out HDb.out HAP4.out.symm hg2 hk5 ha5
        have HF5 := Aside0.mk (show DigS w5 o g v5 (ipd 92 y (i + 1)) ((i + 1 : Nat) : Int) from hd5)
        have HD5 := Aside0.mk hf5
        have HAP5 := Aside0.mk hap5.symm
        have HB5 := Aside0.mk (Kp.from (below_alloc HB4.out _) hk5 (ks_ge HFb.out (by rw [HGQ.out]; exact Nat.le_refl _) (by rw [HGQ.out]; exact Nat.le_of_lt hgo)))
        clear hd5 hk5 ha5 hf5 hap5
        go_wp2_with fail
        go_roundw
        case rel => exact ⟨i + 1, _, _, by omega, by go_num, HD5, HF5, HAP5, HB5⟩
        case measure => simp [intOf] <;> omega
    · obtain rfl : i = 64 := by omega
      rw [show ((64 : Nat) : Int) = 64 from rfl] at HD HF ⊢
      have hgq : g ≤ wr.heap.size := by have := HB.out.size; have := HGQ.out; omega
      have hM2 : M ≤ 100000 := by omega
      go_wp2_with fail
      refine (Write_calls _ L _ g g v1 (ipd 54 y 64) 64 HD.out (HL.out.below (below_step HBQ.out HB.out)) ((ipd_isB _ _ _).app HIL.out) hgq (Nat.le_refl _) (by rw [HM.out]; omega) (by omega) (by omega)).mono ?_
      rintro e w6 ⟨rfl, v6, hd6, hk6, ha6⟩
      rw [HM.out] at hd6
      obtain ⟨hf6, hap6⟩ := two_write HD.out HF.out HAP.out hg1 hk6 ha6
      have HD6 := Aside0.mk (show DigS w6 g g v6 (ipd 54 y 64 ++ L) ((ipd 54 y 64 ++ L).length : Nat) by rw [ipd_app_len, HM.out]; exact hd6)
      have HF6 := Aside0.mk hf6
      have HB6 := Aside0.mk (below_step HBQ.out (Kp.from HB.out hk6 (ks_ge HD.out (by rw [HGQ.out]; exact Nat.le_refl _) (by rw [HGQ.out]; exact Nat.le_refl _))))
      have HZ6 := Aside0.mk (ks_blk HD.out hk6 (blk_below HZQ.out HB.out) (by decide) hwg)
      clear hd6 hk6 ha6 hf6 hap6
      go_wp2_with fail
      refine (Sum_calls _ g g v6 (ipd 54 y 64 ++ L) HD6.out ((ipd_isB _ _ _).app HIL.out) (by rw [ipd_app_len, HM.out]; omega)).mono ?_
      rintro e w7 ⟨rfl, hb⟩
      have HF7 := Aside0.mk (HF6.out.below hb)
      have HB7 := Aside0.mk (below_step HB6.out hb)
      have HZ7 := Aside0.mk (blk_below HZ6.out hb)
      have hg7 : g ≤ w7.heap.size := by have := hb.size; have := HB6.out.size; have := blk_lt HD6.out.1; omega
      clear hb
      obtain ⟨S, hS⟩ : ∃ S, ipd 54 y 64 ++ L = S := ⟨_, rfl⟩
      rw [hS]
      have HSS := Aside0.mk hS
      have HNB := Aside0.mk (blk_new w7 (.cells (nums .u8 (shaP S)).toArray 72))
      clear hS
      go_wp2_with (first | (refine wpList_store_fresh rfl 72 (.tmp 10) (.tmp 45) rfl _ (nums .u8 (shaP S)).toArray rfl rfl (info32A S) (sz32 S) (ones_nums _ _) ?_))
      refine (Write_calls _ (shaP S) _ o g v2 (ipd 92 y 64) 64 (HF7.out.below (below_alloc (Below.refl _ _) _)) (by have := Own.rd (own_blk (base := 0) HNB.out (Nat.zero_le _) (by rw [shaP_len]; omega)); rw [shaP_len] at this; exact this) ((ipd_isB _ _ _).app (shaP_isB _)) (Nat.le_trans hg7 (below_alloc (Below.refl _ _) _).size) (Nat.le_of_lt hgo) (by rw [shaP_len]; omega) (by omega) (by omega)).mono ?_
      rintro e w8 ⟨rfl, v8, hd8, hk8, ha8⟩
      have HFc := Aside0.mk (HF7.out.below (below_alloc (Below.refl _ _) (.cells (nums .u8 (shaP S)).toArray 72)))
      have HD8 := Aside0.mk (show DigS w8 o g v8 (ipd 92 y 64 ++ shaP S) ((ipd 92 y 64 ++ shaP S).length : Nat) by rw [ipd_app_len]; exact hd8)
      have HB8 := Aside0.mk (Kp.from (below_alloc HB7.out _) hk8 (ks_ge HFc.out (Nat.le_of_lt (by omega)) (by omega)))
      have HZ8 := Aside0.mk (ks_blk HFc.out hk8 (blk_alloc HZ7.out _) (by decide) hwo)
      clear hd8 hk8 ha8 HNB
      go_wp2_with fail
      refine (Sum_calls _ o g v8 (ipd 92 y 64 ++ shaP S) HD8.out ((ipd_isB _ _ _).app (shaP_isB _)) (by rw [ipd_app_len, shaP_len]; omega)).mono ?_
      rintro e w9 ⟨rfl, hb⟩
      have HB9 := Aside0.mk (below_step HB8.out hb)
      have HZ9 := Aside0.mk (blk_below HZ8.out hb)
      have Hy := Aside0.mk (show shaP (ipd 92 y 64 ++ shaP S) = shaP (ipd 92 y 64 ++ shaP S) from rfl)
      have HFIN := Aside0.mk (show kyP y L = shaP (ipd 92 y 64 ++ shaP S) by rw [kyP, HE.out, HSS.out])
      obtain ⟨X, hX⟩ : ∃ X, ipd 92 y 64 ++ shaP S = X := ⟨_, rfl⟩
      rw [hX] at HFIN ⊢
      have HT := Aside0.mk (there32 X HZ9.out)
      have H1 := Aside0.mk (ones_nums .u8 (shaP X))
      clear hb hX
      go_wp2_with (first | (refine wpList_store_mid rfl 72 (.tmp 4) (.tmp 50) rfl w.heap.size 0 (nums .u8 (shaP X)).toArray rfl rfl HT.out (info32A X) H1.out ?_))
      exact bodyPost_ret (results_cell (i := 4) rfl rfl (run_loadVar_mid _ w.heap.size 0 72 (nums .u8 (shaP X)) (.array 32 5) (World.rangeAt_setCells_same _ _ _ _ HT.out) Try.underlying72 rfl (info32L X))) rfl ⟨by rw [HFIN.out], below_cells (Nat.le_refl _) _ _ _ HB9.out⟩

theorem dKeyed_calls (vy vb : Value) (y L : List Int) (w : World) (hy : Rd w .u8 vy y) (hib : isB y) (hb : Rd w .u8 vb L) (hibL : isB L) (hL : L.length ≤ 90000) (hy1 : y.length ≤ 90000) :
    Calls Try.prog 107 #[vy, vb] w fun e w' => e = .returned (.agg (nums .u8 (kyP y L)).toArray) ∧ Below w.heap.size w w' := by
  by_cases h : 64 < y.length
  · exact dKeyed_big vy vb y L w hy hib hb hibL hL hy1 h
  · exact dKeyed_small vy vb y L w hy hib hb hibL hL hy1 (by omega)
end Go.Proofs.Ytplmdgimodgekaa
