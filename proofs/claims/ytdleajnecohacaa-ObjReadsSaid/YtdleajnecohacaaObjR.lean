/- Objects read back: the reference's Decode. -/
import Derived.Test.YtdleajnecohacaaObjP
namespace Go.Proofs.Ytdleajnecohacaa
open Go.RowKit Go.Proofs.YtdleajnecohacaaW.PrintWords Go.Proofs.YtdleajnecohacaaW.PrintLast Go.Proofs.YtdleajnecohacaaW.PrintMore
attribute [local go_sem] max2_int min2_int max_two min_two max_three min_three max_four min_four   -- for this text's walks alone
set_option linter.unusedVariables false
set_option linter.unusedSimpArgs false

theorem oneU64 : ∀ x : Int, (Value.int .u64 x).oneCell' = true := fun _ => rfl
theorem app64one {W : World} {base : Nat} {v : Value} {xs : List Int} (x : Int) {k : Nat} (HO : Own (Value.int .u64) W base 22 v xs) (hk : xs.length = k) (hbase : base ≤ W.heap.size) (hl : k ≤ 1000000) :
    ∃ A1 c1 w1, (Builtin.append_ #[47, 47] 47 #[v, .slice (some ⟨W.heap.size, 0, none⟩) 1 1]).run Try.prog (W.alloc (.cells #[.int .u64 x] 22)) = .ok (.slice A1 (k + 1) c1) w1 ∧ Own (Value.int .u64) w1 base 22 (.slice A1 (k + 1) c1) (xs ++ [x]) ∧ (W.alloc (.cells #[.int .u64 x] 22)).grownBy w1 v.ownBlock := by
  have hL : Rd (W.alloc (.cells #[.int .u64 x] 22)) .u64 (.slice (some ⟨W.heap.size, 0, none⟩) 1 1) [x] := by have := Rd.lit W .u64 22 [x] (by simp); simpa [nums] using this
  obtain ⟨v1, w1, hr, hO, hg, _⟩ := app_run (P := Try.prog) (Value.int .u64) (0 : Int) oneU64 47 47 22 (.int .u64 0) 8 Try.underlying47 infoU64 rfl (by omega) (HO.below (below_alloc (Below.refl _ _) (.cells #[.int .u64 x] 22))) hL (by simp; omega) (by simp; omega)
  obtain ⟨A1, c1, rfl⟩ := own_slice hO
  rw [show (xs ++ [x]).length = k + 1 by simp [hk]] at hr hO
  exact ⟨A1, c1, w1, hr, hO, hg⟩
theorem ref_oEncode_yes' (k : Int) (ws raw it : List Int) (nW nR nI : Nat) (e1 : ws.length = nW) (e2 : raw.length = nR) (e3 : it.length = nI) (A1 A2 A3 : Option Addr) (c1 c2 c3 : Nat) (w : World) (h1 : Rd w .u64 (.slice A1 nW c1) ws) (h2 : Rd w .u8 (.slice A2 nR c2) raw) (h3 : Rd w .u64 (.slice A3 nI c3) it) (b1 : isW ws) (b2 : isB raw) (b3 : isW it) (hr : oR k nW nR nI = true) :
    Calls Try.prog 35 #[.agg #[.int .i64 k, .slice A1 nW c1, .slice A2 nR c2, .slice A3 nI c3]] w fun e w' => ∃ v, e = .returned v ∧ Own (Value.int .u8) w' w.heap.size 5 v (objZ k ws raw it) ∧ Below w.heap.size w w' := by
  subst e1; subst e2; subst e3
  exact ref_oEncode_yes k ws raw it A1 A2 A3 c1 c2 c3 w h1 h2 h3 b1 b2 b3 hr
theorem obj_Encode_yes' (k : Int) (ws raw it : List Int) (nW nR nI : Nat) (e1 : ws.length = nW) (e2 : raw.length = nR) (e3 : it.length = nI) (A1 A2 A3 : Option Addr) (c1 c2 c3 : Nat) (w : World) (h1 : Rd w .u64 (.slice A1 nW c1) ws) (h2 : Rd w .u8 (.slice A2 nR c2) raw) (h3 : Rd w .u64 (.slice A3 nI c3) it) (b1 : isW ws) (b2 : isB raw) (b3 : isW it) (hr : oR k nW nR nI = true) :
    Calls Try.prog 33 #[.agg #[.int .i64 k, .slice A1 nW c1, .slice A2 nR c2, .slice A3 nI c3]] w fun e w' => ∃ v, e = .returned v ∧ Own (Value.int .u8) w' w.heap.size 5 v (objZ k ws raw it) ∧ Below w.heap.size w w' := by
  subst e1; subst e2; subst e3
  exact obj_Encode_yes k ws raw it A1 A2 A3 c1 c2 c3 w h1 h2 h3 b1 b2 b3 hr
def rdF (l : List Int) (a : Int) : Bool := decide (0 ≤ a ∧ a + 16 ≤ l.length ∧ a % 8 = 0 ∧ 1 ≤ getN l a 8 ∧ getN l a 8 ≤ 4 ∧ getN l (a + 8) 8 ≤ l.length - a ∧ 16 + 8 * wN (getN l a 8) ≤ getN l (a + 8) 8)

theorem app64oneAt {W : World} {base : Nat} {v : Value} {xs : List Int} (x : Int) {k : Nat} (HO : Own (Value.int .u64) W base 22 v xs) (hk : xs.length = k) (hbase : base ≤ W.heap.size) (hl : k ≤ 1000000) :
    ∃ A1 c1 w1, (Builtin.append_ #[47, 47] 47 #[v, .slice (some ⟨W.heap.size, 0, none⟩) 1 1]).run Try.prog (W.alloc (.cells #[.int .u64 x] 22)) = .ok (.slice A1 (k + 1) c1) w1 ∧ Own (Value.int .u64) w1 base 22 (.slice A1 (k + 1) c1) (xs ++ [x]) ∧ (W.alloc (.cells #[.int .u64 x] 22)).grownBy w1 v.ownBlock ∧ ((Value.slice A1 (k + 1) c1).ownBlock = v.ownBlock ∨ ∃ b, (Value.slice A1 (k + 1) c1).ownBlock = some b ∧ W.heap.size ≤ b) := by
  have hL : Rd (W.alloc (.cells #[.int .u64 x] 22)) .u64 (.slice (some ⟨W.heap.size, 0, none⟩) 1 1) [x] := by have := Rd.lit W .u64 22 [x] (by simp); simpa [nums] using this
  obtain ⟨v1, w1, hr, hO, hg, hat⟩ := app_run (P := Try.prog) (Value.int .u64) (0 : Int) oneU64 47 47 22 (.int .u64 0) 8 Try.underlying47 infoU64 rfl (by omega) (HO.below (below_alloc (Below.refl _ _) (.cells #[.int .u64 x] 22))) hL (by simp; omega) (by simp; omega)
  obtain ⟨A1, c1, rfl⟩ := own_slice hO
  rw [show (xs ++ [x]).length = k + 1 by simp [hk]] at hr hO hat
  refine ⟨A1, c1, w1, hr, hO, hg, ?_⟩
  rcases hat with h | ⟨b, h, hle⟩
  · exact .inl h
  · exact .inr ⟨b, h, by simp at hle; omega⟩
set_option maxHeartbeats 8000000 in
set_option maxRecDepth 100000 in
theorem ref_oDecode_no (v : Value) (l : List Int) (a : Int) (w : World) (hr : Rd w .u8 v l) (hb : isB l) (hl : l.length ≤ 100000) (ha : a ≤ 100000) (ha0 : -9223372036854775808 ≤ a) (hf : rdF l a = false) :
    Calls Try.prog 47 #[v, .int .i64 a] w fun e w' => e = .returned (.tuple #[.agg #[.int .i64 0, .slice none 0 0, .slice none 0 0, .slice none 0 0], .int .i64 0, .bool false]) ∧ Below w.heap.size w w' := by
  have HV := Aside0.mk hr
  have HIB := Aside0.mk hb
  obtain ⟨A, c, rfl, hc, hm, hr'⟩ := hr.mid
  clear hr' hr hb hc hm
  have HZ0 := Aside0.mk (blk_new w (.cells #[.int .i64 0, .slice none 0 0, .slice none 0 0, .slice none 0 0] 49))
  have HB0 := Aside0.mk (below_alloc (Below.refl w.heap.size w) (.cells #[.int .i64 0, .slice none 0 0, .slice none 0 0, .slice none 0 0] 49))
  obtain ⟨K, hK⟩ : ∃ x, getN l a 8 = x := ⟨_, rfl⟩
  obtain ⟨S, hS⟩ : ∃ x, getN l (a + 8) 8 = x := ⟨_, rfl⟩
  have hK2 := getN_bound l HIB.out a 8
  have hS2 := getN_bound l HIB.out (a + 8) 8
  rw [hK] at hK2
  rw [hS] at hS2
  obtain ⟨K0, K1⟩ := hK2
  obtain ⟨S0, S1⟩ := hS2
  have HK := Aside0.mk hK
  have HS := Aside0.mk hS
  obtain ⟨q0, q1⟩ := wN_bd K
  obtain ⟨q, hq⟩ : ∃ q : Nat, wN K = (q : Int) := Int.eq_ofNat_of_zero_le q0
  rw [hq] at q0 q1
  have HQ := Aside0.mk hq
  have hno := of_decide_eq_false hf
  rw [hK, hS, hq] at hno
  clear hK hS hq hf
  go_enter Try.func47, Try.ntmps47
  go_wp2_with fail
  refine (ref_Get_calls _ l a 8 _ (HV.out.below HB0.out) HIB.out).mono ?_
  rintro e w1 ⟨rfl, hb1⟩
  have HB1 := Aside0.mk (below_step HB0.out hb1)
  have HZ1 := Aside0.mk (blk_below HZ0.out hb1)
  clear hb1
  rw [HK.out]
  go_wp2_with fail
  refine (ref_Get_calls _ l (a + 8) 8 _ (HV.out.below HB1.out) HIB.out).mono ?_
  rintro e w2 ⟨rfl, hb2⟩
  have HB2 := Aside0.mk (below_step HB1.out hb2)
  have HZ2 := Aside0.mk (blk_below HZ1.out hb2)
  clear hb2
  rw [HS.out]
  have H0 := HZ2.out
  have r0 := blk_cell H0 0
  have r1 := blk_cell H0 1
  have r2 := blk_cell H0 2
  have r3 := blk_cell H0 3
  have f0 := blk_frozen H0 0
  have f1 := blk_frozen H0 1
  have f2 := blk_frozen H0 2
  have f3 := blk_frozen H0 3
  clear H0
  by_cases k1 : 0 ≤ a ∧ a + 8 ≤ l.length
  rotate_left
  · clear hno
    obtain ⟨bb, hbb⟩ : ∃ bb, fitsB l.length (a + 8) 8 = bb := ⟨_, rfl⟩
    have hf : fitsB l.length a 8 = false := fits_no (fun h => by omega)
    rw [hf, hbb]
    clear hf hbb k1
    go_wp2_with fail
    refine bodyPost_ret (v := .tuple #[.agg #[.int .i64 0, .slice none 0 0, .slice none 0 0, .slice none 0 0], .int .i64 0, .bool false]) (by simp [results, Try.results47, go_sem, r0, r1, r2, r3]) rfl ⟨rfl, below_set4 HB2.out (Nat.le_refl _) _ _ _ _⟩
  obtain ⟨a0, a1⟩ := k1
  have hf : fitsB l.length a 8 = true := fits_ok ⟨by omega, by omega, by omega, by omega⟩
  rw [hf]
  clear hf
  by_cases k2 : a + 16 ≤ l.length
  rotate_left
  · clear hno
    have hf : fitsB l.length (a + 8) 8 = false := fits_no (fun h => by omega)
    rw [hf]
    clear hf
    go_wp2_with fail
    refine bodyPost_ret (v := .tuple #[.agg #[.int .i64 0, .slice none 0 0, .slice none 0 0, .slice none 0 0], .int .i64 0, .bool false]) (by simp [results, Try.results47, go_sem, r0, r1, r2, r3]) rfl ⟨rfl, below_set4 HB2.out (Nat.le_refl _) _ _ _ _⟩
  have hf : fitsB l.length (a + 8) 8 = true := fits_ok ⟨by omega, by omega, by omega, by omega⟩
  rw [hf]
  clear hf
  by_cases k3 : a % 8 = 0
  rotate_left
  · clear hno
    have hz : (Int.tmod a 8 != 0) = true := by rw [Int.tmod_eq_emod_of_nonneg a0]; simpa using k3
    have hz2 : (a % 8 != 0) = true := by simpa using k3
    clear k3
    go_wp2_with fail
    refine bodyPost_ret (v := .tuple #[.agg #[.int .i64 0, .slice none 0 0, .slice none 0 0, .slice none 0 0], .int .i64 0, .bool false]) (by simp [results, Try.results47, go_sem, r0, r1, r2, r3]) rfl ⟨rfl, below_set4 HB2.out (Nat.le_refl _) _ _ _ _⟩
  have hz : (Int.tmod a 8 != 0) = false := by rw [Int.tmod_eq_emod_of_nonneg a0]; simpa using k3
  have hz2 : (a % 8 != 0) = false := by simpa using k3
  by_cases k4 : 1 ≤ K
  rotate_left
  · clear hno
    go_wp2_with fail
    refine bodyPost_ret (v := .tuple #[.agg #[.int .i64 0, .slice none 0 0, .slice none 0 0, .slice none 0 0], .int .i64 0, .bool false]) (by simp [results, Try.results47, go_sem, r0, r1, r2, r3]) rfl ⟨rfl, below_set4 HB2.out (Nat.le_refl _) _ _ _ _⟩
  by_cases k5 : K ≤ 4
  rotate_left
  · clear hno
    go_wp2_with fail
    refine bodyPost_ret (v := .tuple #[.agg #[.int .i64 0, .slice none 0 0, .slice none 0 0, .slice none 0 0], .int .i64 0, .bool false]) (by simp [results, Try.results47, go_sem, r0, r1, r2, r3]) rfl ⟨rfl, below_set4 HB2.out (Nat.le_refl _) _ _ _ _⟩
  by_cases k6 : S ≤ l.length - a
  rotate_left
  · clear hno
    go_wp2_with fail
    refine bodyPost_ret (v := .tuple #[.agg #[.int .i64 0, .slice none 0 0, .slice none 0 0, .slice none 0 0], .int .i64 0, .bool false]) (by simp [results, Try.results47, go_sem, r0, r1, r2, r3]) rfl ⟨rfl, below_set4 HB2.out (Nat.le_refl _) _ _ _ _⟩
  have k7 : ¬ 16 + 8 * (q : Int) ≤ S := fun h => hno ⟨a0, k2, k3, k4, k5, k6, h⟩
  clear hno k3 r0 r1 r2 r3 f0 f1 f2 f3
  have HX3 := Aside0.mk (below_alloc HB2.out (.cells #[.int .i64 K, .slice none 0 0, .slice none 0 0, .slice none 0 0] 49))
  have H0 := blk_alloc HZ2.out (.cells #[.int .i64 K, .slice none 0 0, .slice none 0 0, .slice none 0 0] 49)
  have H1 := blk_new w2 (.cells #[.int .i64 K, .slice none 0 0, .slice none 0 0, .slice none 0 0] 49)
  have z0 := blk_cell H1 0
  have r0 := blk_cell H0 0
  have r1 := blk_cell H0 1
  have r2 := blk_cell H0 2
  have r3 := blk_cell H0 3
  have f0 := blk_frozen H0 0
  have f1 := blk_frozen H0 1
  have f2 := blk_frozen H0 2
  have f3 := blk_frozen H0 3
  clear H0 H1
  go_wp2_with fail
  refine (ref_oWords_calls K _).mono ?_
  rintro e wx ⟨rfl, rfl⟩
  rw [HQ.out]
  go_wp2_with fail
  refine bodyPost_ret (v := .tuple #[.agg #[.int .i64 0, .slice none 0 0, .slice none 0 0, .slice none 0 0], .int .i64 0, .bool false]) (by simp [results, Try.results47, go_sem, r0, r1, r2, r3]) rfl ⟨rfl, below_set4 HX3.out (Nat.le_refl _) _ _ _ _⟩
set_option maxHeartbeats 8000000 in
set_option maxRecDepth 100000 in
theorem ref_oDecode_yes (v : Value) (l : List Int) (a : Int) (w : World) (hr : Rd w .u8 v l) (hb : isB l) (hl : l.length ≤ 100000) (ha : a ≤ 100000) (a0 : 0 ≤ a) (a1 : a + 16 ≤ l.length) (a8 : a % 8 = 0) (K S : Int) (hK : getN l a 8 = K) (hS : getN l (a + 8) 8 = S) (k0 : 1 ≤ K) (k1 : K ≤ 4) (s1 : S ≤ l.length - a) (s0 : 16 + 8 * wN K ≤ S) :
    Calls Try.prog 47 #[v, .int .i64 a] w fun e w' => (∃ u1 u2 u3, e = .returned (bif rdT l a K S then .tuple #[.agg #[.int .i64 K, u1, u2, u3], .int .i64 (a + (objZ K (odW l a K) (odR l a K S) (odI l a K S)).length), .bool true] else .tuple #[.agg #[.int .i64 0, .slice none 0 0, .slice none 0 0, .slice none 0 0], .int .i64 0, .bool false]) ∧ Rd w' .u64 u1 (odW l a K) ∧ Rd w' .u8 u2 (odR l a K S) ∧ Rd w' .u64 u3 (odI l a K S)) ∧ Below w.heap.size w w' := by
  have HV := Aside0.mk hr
  have HIB := Aside0.mk hb
  obtain ⟨A, c, rfl, hc, hm, hr'⟩ := hr.mid
  clear hr' hr hb hc hm
  have HZ0 := Aside0.mk (blk_new w (.cells #[.int .i64 0, .slice none 0 0, .slice none 0 0, .slice none 0 0] 49))
  have HB0 := Aside0.mk (below_alloc (Below.refl w.heap.size w) (.cells #[.int .i64 0, .slice none 0 0, .slice none 0 0, .slice none 0 0] 49))
  have HK := Aside0.mk hK
  have HS := Aside0.mk hS
  obtain ⟨q0, q1⟩ := wN_bd K
  obtain ⟨q, hq⟩ : ∃ q : Nat, wN K = (q : Int) := Int.eq_ofNat_of_zero_le q0
  rw [hq] at q0 q1 s0
  have HQ := Aside0.mk hq
  have hf1 : fitsB l.length a 8 = true := fits_ok ⟨by omega, by omega, by omega, by omega⟩
  have hf2 : fitsB l.length (a + 8) 8 = true := fits_ok ⟨by omega, by omega, by omega, by omega⟩
  have hz : (Int.tmod a 8 != 0) = false := by rw [Int.tmod_eq_emod_of_nonneg a0]; simpa using a8
  have hz2 : (a % 8 != 0) = false := by simpa using a8
  clear hK hS hq a8
  go_enter Try.func47, Try.ntmps47
  go_wp2_with fail
  refine (ref_Get_calls _ l a 8 _ (HV.out.below HB0.out) HIB.out).mono ?_
  rintro e w1 ⟨rfl, hb1⟩
  have HB1 := Aside0.mk (below_step HB0.out hb1)
  have HZ1 := Aside0.mk (blk_below HZ0.out hb1)
  clear hb1
  rw [HK.out, hf1]
  go_wp2_with fail
  refine (ref_Get_calls _ l (a + 8) 8 _ (HV.out.below HB1.out) HIB.out).mono ?_
  rintro e w2 ⟨rfl, hb2⟩
  have HB2 := Aside0.mk (below_step HB1.out hb2)
  have HZ2 := Aside0.mk (blk_below HZ1.out hb2)
  clear hb2
  rw [HS.out, hf2]
  have HX3 := Aside0.mk (blk_new w2 (.cells #[.int .i64 K, .slice none 0 0, .slice none 0 0, .slice none 0 0] 49))
  have HB3 := Aside0.mk (below_alloc HB2.out (.cells #[.int .i64 K, .slice none 0 0, .slice none 0 0, .slice none 0 0] 49))
  have HZ3 := Aside0.mk (blk_alloc HZ2.out (.cells #[.int .i64 K, .slice none 0 0, .slice none 0 0, .slice none 0 0] 49))
  obtain ⟨p, hp⟩ : ∃ p, w2.heap.size = p := ⟨_, rfl⟩
  rw [hp] at HX3
  have hpw : w.heap.size < p := by have := blk_lt HZ2.out; omega
  have HP := Aside0.mk hp
  have z0 := blk_cell HX3.out 0
  clear hp hf1 hf2
  go_wp2_with fail
  rw [HP.out]
  refine (ref_oWords_calls K _).mono ?_
  rintro e wx ⟨rfl, rfl⟩
  rw [HQ.out]
  clear hz hz2 z0
  go_wp2_with fail
  go_loopg [13, 14, 15] q (fun kq v13 v14 v15 w' => ∃ (k : Nat) (A1 : Option Addr) (d1 : Nat), k + kq = q ∧ v13 = .int .i64 k ∧ Aside0 (w'.heap[p]? = some (.cells #[.int .i64 K, .slice A1 k d1, .slice none 0 0, .slice none 0 0] 49 (0, 0))) ∧ Aside0 (Own (Value.int .u64) w' w.heap.size 22 (.slice A1 k d1) (wordsAt l (a + 16) k)) ∧ Aside0 (w'.heap[w.heap.size]? = some (.cells #[.int .i64 0, .slice none 0 0, .slice none 0 0, .slice none 0 0] 49 (0, 0))) ∧ Aside0 (Below w.heap.size w w'))
  case atStart => exact ⟨0, none, 0, by omega, rfl, HX3, ⟨Own.nil _ _ _ _⟩, HZ3, HB3⟩
  case round =>
    clear HX3 HB3 HZ3 HP
    obtain ⟨k, A1, d1, hkq, rfl, HX, HO, HZ, HB⟩ := hrel
    by_cases c1 : k < q
    · obtain ⟨x, hx⟩ : ∃ x, getN l (a + 16 + 8 * (k : Int)) 8 = x := ⟨_, rfl⟩
      have HN := Aside0.mk (show wordsAt l (a + 16) (k + 1) = wordsAt l (a + 16) k ++ [x] by rw [wordsAt_snoc', hx])
      have HXX := Aside0.mk hx
      obtain ⟨bb, hbb⟩ : ∃ bb, fitsB l.length (a + 16 + 8 * (k : Int)) 8 = bb := ⟨_, rfl⟩
      have HBBB := Aside0.mk hbb
      clear hx hbb
      go_wp2_with fail
      refine (ref_Get_calls _ l (a + 16 + 8 * (k : Int)) 8 _ (HV.out.below HB.out) HIB.out).mono ?_
      rintro e w3 ⟨rfl, hb3⟩
      rw [HXX.out, HBBB.out]
      obtain ⟨A4, c4, w4, hrun4, hO4, hg4⟩ := app64one x (HO.out.below hb3) (wordsAt_len _ _ _) (Nat.le_trans HB.out.size hb3.size) (by omega)
      have z1 := blk_cell (blk_below HX.out hb3) 1
      have hX4 := blk_grown (blk_alloc (blk_below HX.out hb3) (.cells #[.int .u64 x] 22)) hg4 (fun e => (HO.out.below hb3).ne (blk_below HX.out hb3) (by decide) e.symm)
      have hZ4 := blk_grown (blk_alloc (blk_below HZ.out hb3) (.cells #[.int .u64 x] 22)) hg4 (fun e => (HO.out.below hb3).ne (blk_below HZ.out hb3) (by decide) e.symm)
      have y1 := blk_cell hX4 1
      have g1 := blk_frozen hX4 1
      have HX5 := Aside0.mk (show (w4.setCell ⟨p, 1, none⟩ (.slice A4 (k + 1) c4)).heap[p]? = some (.cells #[.int .i64 K, .slice A4 (k + 1) c4, .slice none 0 0, .slice none 0 0] 49 (0, 0)) from by simpa using blk_set hX4 1 (.slice A4 (k + 1) c4))
      have HZ5 := Aside0.mk (blk_far hZ4 (p := ⟨p, 1, none⟩) (by show w.heap.size ≠ p; omega) (.slice A4 (k + 1) c4))
      have hB4 := Kp.from (below_alloc (below_step HB.out hb3) (.cells #[.int .u64 x] 22)) (Kp.of_grown hg4) (fun k hk => HO.out.ge hk)
      have HB5 := Aside0.mk (obelow_set hB4 ⟨p, 1, none⟩ (by show w.heap.size ≤ p; omega) (.slice A4 (k + 1) c4))
      have HO5 := Aside0.mk (show Own (Value.int .u64) (w4.setCell ⟨p, 1, none⟩ (.slice A4 (k + 1) c4)) w.heap.size 22 (.slice A4 (k + 1) c4) (wordsAt l (a + 16) (k + 1)) by
        rw [HN.out]; exact hO4.move (fun b hb => Below.heap_setCell w4 _ _ b (fun e => hO4.ne hX4 (by decide) (by rw [hb, e]))))
      have HR4 := Aside0.mk hrun4
      clear hrun4 hO4 hg4 hX4 hZ4 hB4 hb3
      go_wp2_with (first | ((with_reducible refine gate_builtin (b := .append) (xs := #[.tmp 92, .tmp 94]) rfl ?_); at_builtin; refine app_list rfl (.tmp 92) (.tmp 94) rfl rfl rfl HR4.out ?_))
      go_roundg (q - (k + 1))
      case measure => omega
      case rel => exact ⟨k + 1, A4, c4, by omega, by go_num, HX5, HO5, HZ5, HB5⟩
    · obtain rfl : k = q := by omega
      have HW := Aside0.mk (show odW l a K = wordsAt l (a + 16) k by rw [odW, HQ.out, Int.toNat_natCast])
      by_cases k3 : K < 3
      · have HI1 := Aside0.mk (show odI l a K S = [] by rw [odI, if_pos k3])
        have HR1 := Aside0.mk (show odR l a K S = (l.take (a + S).toNat).drop (a + 16 + 8 * (k : Int)).toNat by rw [odR, if_pos k3, rawAt, HQ.out]; congr 2; omega)
        obtain ⟨i5, hi5, hz5⟩ := infoU8'
        obtain ⟨v', hcut, hrd⟩ := Rd.cut 30 5 Try.underlying30 hi5 hz5 HV.out (a + 16 + 8 * (k : Int)) (a + S) (by omega) (by omega) (by omega)
        obtain ⟨A2, c2, ev2, _, _, _⟩ := (hrd _ HV.out).mid
        obtain ⟨n2, hn2⟩ : ∃ n2, ((l.take (a + S).toNat).drop (a + 16 + 8 * (k : Int)).toNat).length = n2 := ⟨_, rfl⟩
        have hn3 : (n2 : Int) + 16 + 8 * (k : Int) = S := by rw [← hn2, List.length_drop, List.length_take]; omega
        have hn4 : n2 ≤ 100000 := by omega
        have hRD1 := hrd wr.drew ((HV.out.below HB.out).below (below_drew (Below.refl _ _)))
        obtain ⟨A4, c4, w4, hrun4, hO4, hg4, hat4⟩ := app8 (Own.nil (Value.int .u8) wr.drew w.heap.size 5) hRD1 (below_drew HB.out).size (by rw [hn2]; simp; omega)
        rw [List.nil_append, hn2] at hrun4 hO4
        rw [← HR1.out] at hO4
        have z2 := blk_cell HX.out 2
        have hX4 := blk_grown (blk_drew HX.out) hg4 (fun e => by cases e)
        have hZ4 := blk_grown (blk_drew HZ.out) hg4 (fun e => by cases e)
        have hc4 := blk_cell hX4 2
        have hf4 := blk_frozen hX4 2
        have HX5 := Aside0.mk (show (w4.setCell ⟨p, 2, none⟩ (.slice A4 n2 c4)).heap[p]? = some (.cells #[.int .i64 K, .slice A1 k d1, .slice A4 n2 c4, .slice none 0 0] 49 (0, 0)) from by simpa using blk_set hX4 2 (.slice A4 n2 c4))
        have HZ5 := Aside0.mk (blk_far hZ4 (p := ⟨p, 2, none⟩) (by show w.heap.size ≠ p; omega) (.slice A4 n2 c4))
        have hK4 := (Kp.of_below (below_drew (Below.refl wr.heap.size wr)) (fun _ => False)).trans (Kp.of_grown hg4) (fun b hb => by cases hb)
        have HB5 := Aside0.mk (obelow_set (Kp.from HB.out hK4 (fun k hk => hk.elim)) ⟨p, 2, none⟩ (by show w.heap.size ≤ p; omega) (.slice A4 n2 c4))
        have HO5 := Aside0.mk (show Own (Value.int .u8) (w4.setCell ⟨p, 2, none⟩ (.slice A4 n2 c4)) w.heap.size 5 (.slice A4 n2 c4) (odR l a K S) from
          hO4.move (fun b hb => Below.heap_setCell w4 _ _ b (fun e => hO4.ne hX4 (by decide) (by rw [hb, e]))))
        have HW5 := Aside0.mk (show Own (Value.int .u64) (w4.setCell ⟨p, 2, none⟩ (.slice A4 n2 c4)) w.heap.size 22 (.slice A1 k d1) (wordsAt l (a + 16) k) from
          (HO.out.move (fun b hb => hK4.block b (HO.out.lt hb) (fun h => h.elim))).move (fun b hb => Below.heap_setCell w4 _ _ b (fun e => HO.out.ne HX.out (by decide) (by rw [hb, e]))))
        have HR4 := Aside0.mk hrun4
        have HLR := Aside0.mk (show (odR l a K S).length = n2 by rw [HR1.out, hn2])
        subst ev2
        rw [hn2] at hcut HR4
        clear hrun4 hO4 hg4 hat4 hX4 hZ4 hK4 hn2 hrd hRD1 hi5 hz5
        go_wp2_with fail
        refine start_ (n := 9) (S := fun w' => w'.cell? ⟨p, 2, none⟩ = some (.slice none 0 0)) (ds := [8]) #[false, false, false, false, false, false, false, false, false] (by kernel_rfl) rfl rfl (z2) (fun hHeld => ?_)
        refine pure_ (i := 0) (N := some 108) (v := ?_) (a' := ?_) #[true, false, false, false, false, false, false, false, false] rfl rfl (by kernel_rfl) (fun _ _ _ h => h) (Or.inl ⟨by rfl, ?_⟩) ?_ ?_
        rotate_left
        · intro w'
          go_simp
          with_reducible rfl
        rotate_left
        · simp only [Act.put, List.setIfInBounds_toArray, List.set_cons_zero, List.set_cons_succ, i64_w, i32_w]
          rfl
        refine pure_ (i := 2) (N := some 110) (v := ?_) (a' := ?_) #[true, false, true, false, false, false, false, false, false] rfl rfl (by kernel_rfl) (fun _ _ _ h => h) (Or.inl ⟨by rfl, ?_⟩) ?_ ?_
        rotate_left
        · intro w'
          go_simp
          with_reducible rfl
        rotate_left
        · simp only [Act.put, List.setIfInBounds_toArray, List.set_cons_zero, List.set_cons_succ, i64_w, i32_w]
          rfl
        refine pure_ (i := 3) (N := some 111) (v := ?_) (a' := ?_) #[true, false, true, true, false, false, false, false, false] rfl rfl (by kernel_rfl) (fun _ _ _ h => h) (Or.inl ⟨by rfl, ?_⟩) ?_ ?_
        rotate_left
        · intro w'
          go_simp
          with_reducible rfl
        rotate_left
        · simp only [Act.put, List.setIfInBounds_toArray, List.set_cons_zero, List.set_cons_succ, i64_w, i32_w]
          rfl
        refine pure_ (i := 4) (N := some 112) (v := ?_) (a' := ?_) #[true, false, true, true, true, false, false, false, false] rfl rfl (by kernel_rfl) (fun _ _ _ h => h) (Or.inl ⟨by rfl, ?_⟩) ?_ ?_
        rotate_left
        · intro w'
          go_simp
          with_reducible rfl
        rotate_left
        · simp only [Act.put, List.setIfInBounds_toArray, List.set_cons_zero, List.set_cons_succ, i64_w, i32_w]
          rfl
        refine pure_ (i := 5) (N := some 113) (v := ?_) (a' := ?_) #[true, false, true, true, true, true, false, false, false] rfl rfl (by kernel_rfl) (fun _ _ _ h => h) (Or.inl ⟨by rfl, ?_⟩) ?_ ?_
        rotate_left
        · intro w'
          go_simp
          with_reducible rfl
        rotate_left
        · simp only [Act.put, List.setIfInBounds_toArray, List.set_cons_zero, List.set_cons_succ, i64_w, i32_w]
          rfl
        refine take_ (i := 1) (N := some 109) (v := ?_) (a' := ?_) #[true, true, true, true, true, true, false, false, false] rfl rfl (by kernel_rfl) (fun _ _ _ h => h) (Or.inl ⟨by rfl, ?_⟩) hHeld ?_ ?_
        rotate_left
        · intro w' s0
          go_simp
          with_reducible rfl
        rotate_left
        · simp only [Act.put, List.setIfInBounds_toArray, List.set_cons_zero, List.set_cons_succ, i64_w, i32_w]
          rfl
        refine one_ (i := 6) (N := some 114) #[true, true, true, true, true, true, true, false, false] rfl rfl (by kernel_rfl) (by decide) (fun K hK => ?_)
        refine app_step (by rfl) (.tmp 109) (.tmp 113) rfl rfl rfl HR4.out ?_
        refine hK.out _ _ (hc4) (fun hHeld => ?_)
        clear hK K
        refine norm_ (a' := ?_) ?_ ?_
        rotate_left
        · show Act.put _ (some 114) _ = _
          simp only [Act.put, List.setIfInBounds_toArray, List.set_cons_zero, List.set_cons_succ, i64_w, i32_w]
          rfl
        refine pure_ (i := 7) (N := some 115) (v := ?_) (a' := ?_) #[true, true, true, true, true, true, true, true, false] rfl rfl (by kernel_rfl) (fun _ _ _ h => h) (Or.inl ⟨by rfl, ?_⟩) ?_ ?_
        rotate_left
        · intro w'
          go_simp
          with_reducible rfl
        rotate_left
        · simp only [Act.put, List.setIfInBounds_toArray, List.set_cons_zero, List.set_cons_succ, i64_w, i32_w]
          rfl
        refine last_ (i := 8) (N := none) #[true, true, true, true, true, true, true, true, true] rfl rfl (by kernel_rfl) (by decide) (fun K hK => ?_)
        refine skip_ (w1 := ?_) (by rfl) rfl ?_ ?_
        rotate_left
        · go_simp
          rfl
        refine hK.out _ _ ?_
        clear hK K
        refine done_ (by kernel_rfl) ?_
        clear hcut z2 hc4 hf4
        have dk2 : decide ((2 : Int) < K) = false := by simp; omega
        go_wp2_with fail
        go_loopg [16, 18, 19] 0 (fun kq v16 v18 v19 w' => Aside0 (w'.heap[p]? = some (.cells #[.int .i64 K, .slice A1 k d1, .slice A4 n2 c4, .slice none 0 0] 49 (0, 0))) ∧ Aside0 (Own (Value.int .u64) w' w.heap.size 22 (.slice A1 k d1) (wordsAt l (a + 16) k)) ∧ Aside0 (Own (Value.int .u8) w' w.heap.size 5 (.slice A4 n2 c4) (odR l a K S)) ∧ Aside0 (w'.heap[w.heap.size]? = some (.cells #[.int .i64 0, .slice none 0 0, .slice none 0 0, .slice none 0 0] 49 (0, 0))) ∧ Aside0 (Below w.heap.size w w'))
        case atStart => exact ⟨HX5, HW5, HO5, HZ5, HB5⟩
        case round =>
          clear HX HO HZ HB HX5 HW5 HO5 HZ5 HB5
          obtain ⟨HX, HO1, HO2, HZ, HB⟩ := hrel
          have HO3 := Aside0.mk (show Own (Value.int .u64) wr w.heap.size 22 (.slice none 0 0) (odI l a K S) by rw [HI1.out]; exact Own.nil _ _ _ _)
          have HLI := Aside0.mk (show (odI l a K S).length = 0 by rw [HI1.out]; rfl)
          have HRB := Aside0.mk (show isB (odR l a K S) by rw [odR]; split <;> first | exact rawAt_isB HIB.out _ _ | exact oB_nil)
          have HIW := Aside0.mk (show isW (odI l a K S) by rw [odI]; split <;> first | exact wordsAt_isW _ HIB.out _ _ | exact (fun x hx => by simp at hx))
          have z0 := blk_cell HX.out 0
          have z1 := blk_cell HX.out 1
          have z2 := blk_cell HX.out 2
          have z3 := blk_cell HX.out 3
          have HN1 := Aside0.mk (show ∀ b, (.slice A1 k d1 : Value).ownBlock = some b → ¬ (b = w.heap.size) from fun b hb e => HO1.out.ne HZ.out (by decide) (by rw [hb, e]))
          have HN2 := Aside0.mk (show ∀ b, (.slice A4 n2 c4 : Value).ownBlock = some b → ¬ (b = w.heap.size) from fun b hb e => HO2.out.ne HZ.out (by decide) (by rw [hb, e]))
          have HN3 := Aside0.mk (show ∀ b, (.slice none 0 0 : Value).ownBlock = some b → ¬ (b = w.heap.size) from fun b hb e => HO3.out.ne HZ.out (by decide) (by rw [hb, e]))
          have HT := Aside0.mk (show rdT l a K S = (oR K k n2 0 && decide (((objZ K (odW l a K) (odR l a K S) (odI l a K S)).length : Int) ≤ l.length - a) && decide (objZ K (odW l a K) (odR l a K S) (odI l a K S) = (l.drop a.toNat).take (objZ K (odW l a K) (odR l a K S) (odI l a K S)).length)) by rw [rdT, HLR.out, HLI.out, HW.out, wordsAt_len])
          obtain ⟨b, hbq⟩ : ∃ b, oR K k n2 0 = b := ⟨_, rfl⟩
          rw [hbq] at HT
          have HBQ := Aside0.mk hbq
          clear hbq
          cases b with
          | false =>
            have HF := Aside0.mk (show rdT l a K S = false by rw [HT.out]; rfl)
            go_wp2_with fail
            refine (ref_oEncode_no K k n2 0 A1 A4 none d1 c4 0 _ (by omega) (by omega) (by omega) HBQ.out).mono ?_
            rintro e w3 ⟨rfl, hb3⟩
            have HB6 := Aside0.mk (below_step HB.out hb3)
            have HK6 := Aside0.mk (Kp.of_below hb3 (fun b => b = w.heap.size))
            have H0 := blk_below HZ.out hb3
            have r0 := blk_cell H0 0
            have r1 := blk_cell H0 1
            have r2 := blk_cell H0 2
            have r3 := blk_cell H0 3
            have f0 := blk_frozen H0 0
            have f1 := blk_frozen H0 1
            have f2 := blk_frozen H0 2
            have f3 := blk_frozen H0 3
            clear H0 hb3 z0 z1 z2 z3
            go_wp2_with fail
            refine bodyPost_ret (v := .tuple #[.agg #[.int .i64 0, .slice none 0 0, .slice none 0 0, .slice none 0 0], .int .i64 0, .bool false]) (by simp [results, Try.results47, go_sem, r0, r1, r2, r3]) rfl ⟨⟨.slice A1 k d1, .slice A4 n2 c4, .slice none 0 0, by rw [HF.out]; rfl, ?_, ?_, ?_⟩, below_set4 HB6.out (Nat.le_refl _) _ _ _ _⟩
            · exact rd_end HO1.out (kp_set4 HK6.out rfl _ _ _ _) HN1.out HW.out
            · exact rd_end HO2.out (kp_set4 HK6.out rfl _ _ _ _) HN2.out rfl
            · exact rd_end HO3.out (kp_set4 HK6.out rfl _ _ _ _) HN3.out rfl
          | true =>
            go_wp2_with fail
            refine (ref_oEncode_yes' K (odW l a K) (odR l a K S) (odI l a K S) k n2 0 (by rw [HW.out]; exact wordsAt_len _ _ _) HLR.out HLI.out A1 A4 none d1 c4 0 _ (Own.rd HO1.out |> fun h => by rw [HW.out]; exact h) (Own.rd HO2.out) (Own.rd HO3.out) (by rw [HW.out]; exact wordsAt_isW _ HIB.out _ _) HRB.out HIW.out HBQ.out).mono ?_
            rintro e w3 ⟨v3, rfl, ho3, hb3⟩
            have HB6 := Aside0.mk (below_step HB.out hb3)
            have HK6 := Aside0.mk (Kp.of_below hb3 (fun b => b = w.heap.size))
            have HZ6 := Aside0.mk (blk_below HZ.out hb3)
            have HX6 := Aside0.mk (blk_below HX.out hb3)
            obtain ⟨A6, d6, e6⟩ := own_slice ho3
            have hN0 : 16 ≤ (objZ K (odW l a K) (odR l a K S) (odI l a K S)).length := by rw [objZ, List.length_append, objB_len]; omega
            have hN1 : (objZ K (odW l a K) (odR l a K S) (odI l a K S)).length ≤ 2000000 := by rw [objZ, List.length_append, List.length_replicate]; have := padN_le ((objB K (odW l a K) (odR l a K S) (odI l a K S)).length : Int) 8; have h2 := objB_len K (odW l a K) (odR l a K S) (odI l a K S); rw [HLR.out, HLI.out, HW.out, wordsAt_len] at h2; rw [HW.out] at this ⊢; omega
            have HRX := Aside0.mk (Own.rd ho3)
            obtain ⟨Z, hZ⟩ : ∃ Z, objZ K (odW l a K) (odR l a K S) (odI l a K S) = Z := ⟨_, rfl⟩
            have HZB := Aside0.mk (show isB Z by rw [← hZ]; exact objZ_isB K HRB.out)
            rw [hZ] at HT HRX e6 hN0 hN1
            obtain ⟨N, hN⟩ : ∃ N, Z.length = N := ⟨_, rfl⟩
            rw [hN] at HT e6 hN0 hN1
            have HN := Aside0.mk hN
            have HEQ := Aside0.mk (show (objZ K (odW l a K) (odR l a K S) (odI l a K S)).length = N by rw [hZ, hN])
            clear hN hZ ho3 hb3 z0 z1 z2 z3
            subst e6
            have H0 := HZ6.out
            have r0 := blk_cell H0 0
            have r1 := blk_cell H0 1
            have r2 := blk_cell H0 2
            have r3 := blk_cell H0 3
            have f0 := blk_frozen H0 0
            have f1 := blk_frozen H0 1
            have f2 := blk_frozen H0 2
            have f3 := blk_frozen H0 3
            clear H0
            have y0 := blk_cell HX6.out 0
            have y1 := blk_cell HX6.out 1
            have y2 := blk_cell HX6.out 2
            have y3 := blk_cell HX6.out 3
            by_cases cN : (N : Int) ≤ l.length - a
            rotate_left
            · have HF := Aside0.mk (show rdT l a K S = false by rw [HT.out, decide_eq_false cN]; rfl)
              go_wp2_with fail
              refine bodyPost_ret (v := .tuple #[.agg #[.int .i64 0, .slice none 0 0, .slice none 0 0, .slice none 0 0], .int .i64 0, .bool false]) (by simp [results, Try.results47, go_sem, r0, r1, r2, r3]) rfl ⟨⟨.slice A1 k d1, .slice A4 n2 c4, .slice none 0 0, by rw [HF.out]; rfl, ?_, ?_, ?_⟩, below_set4 HB6.out (Nat.le_refl _) _ _ _ _⟩
              · exact rd_end HO1.out (kp_set4 HK6.out rfl _ _ _ _) HN1.out HW.out
              · exact rd_end HO2.out (kp_set4 HK6.out rfl _ _ _ _) HN2.out rfl
              · exact rd_end HO3.out (kp_set4 HK6.out rfl _ _ _ _) HN3.out rfl
            have t1 : ((N : Int) == 0) = false := by simp; omega
            have t2 : decide ((l.length : Int) - a < (N : Int)) = false := by simp; omega
            obtain ⟨i5, hi5, hz5⟩ := infoU8'
            obtain ⟨v', hcut, hrd⟩ := Rd.cut 30 5 Try.underlying30 hi5 hz5 HV.out a (a + (N : Int)) a0 (by omega) (by omega)
            have hdt : (l.take (a + (N : Int)).toNat).drop a.toNat = (l.drop a.toNat).take N := by rw [List.drop_take]; congr 1; omega
            rw [hdt] at hrd
            have HRD := Aside0.mk (show ∀ w1 : World, Rd w1 .u8 (.slice A l.length c) l → Rd w1 .u8 v' ((l.drop a.toNat).take N) from hrd)
            obtain ⟨b2, hb2q⟩ : ∃ b2, decide (Z = (l.drop a.toNat).take N) = b2 := ⟨_, rfl⟩
            rw [hb2q, decide_eq_true cN] at HT
            have HBQ2 := Aside0.mk hb2q
            clear hrd hi5 hz5 hdt hb2q
            go_wp2_with fail
            refine (Same_calls _ v' Z ((l.drop a.toNat).take N) _ HRX.out (HRD.out _ (HV.out.below HB6.out)) HZB.out ((HIB.out.drop _).take _)).mono ?_
            rintro e w4 ⟨rfl, hb4⟩
            rw [HBQ2.out]
            have HB7 := Aside0.mk (below_step HB6.out hb4)
            have HK7 := Aside0.mk (HK6.out.below hb4)
            have H0 := blk_below HZ6.out hb4
            have H1 := blk_below HX6.out hb4
            clear hb4 r0 r1 r2 r3 f0 f1 f2 f3 y0 y1 y2 y3
            have r0 := blk_cell H0 0
            have r1 := blk_cell H0 1
            have r2 := blk_cell H0 2
            have r3 := blk_cell H0 3
            have f0 := blk_frozen H0 0
            have f1 := blk_frozen H0 1
            have f2 := blk_frozen H0 2
            have f3 := blk_frozen H0 3
            have y0 := blk_cell H1 0
            have y1 := blk_cell H1 1
            have y2 := blk_cell H1 2
            have y3 := blk_cell H1 3
            clear H0 H1
            cases b2 with
            | false =>
              have HF := Aside0.mk (show rdT l a K S = false by rw [HT.out]; rfl)
              go_wp2_with fail
              refine bodyPost_ret (v := .tuple #[.agg #[.int .i64 0, .slice none 0 0, .slice none 0 0, .slice none 0 0], .int .i64 0, .bool false]) (by simp [results, Try.results47, go_sem, r0, r1, r2, r3]) rfl ⟨⟨.slice A1 k d1, .slice A4 n2 c4, .slice none 0 0, by rw [HF.out]; rfl, ?_, ?_, ?_⟩, below_set4 HB7.out (Nat.le_refl _) _ _ _ _⟩
              · exact rd_end HO1.out (kp_set4 HK7.out rfl _ _ _ _) HN1.out HW.out
              · exact rd_end HO2.out (kp_set4 HK7.out rfl _ _ _ _) HN2.out rfl
              · exact rd_end HO3.out (kp_set4 HK7.out rfl _ _ _ _) HN3.out rfl
            | true =>
              have HF := Aside0.mk (show rdT l a K S = true by rw [HT.out]; rfl)
              go_wp2_with fail
              refine bodyPost_ret (v := .tuple #[.agg #[.int .i64 K, .slice A1 k d1, .slice A4 n2 c4, .slice none 0 0], .int .i64 (a + (N : Int)), .bool true]) (by simp [results, Try.results47, go_sem, r0, r1, r2, r3]) rfl ⟨⟨.slice A1 k d1, .slice A4 n2 c4, .slice none 0 0, by rw [HF.out, HEQ.out]; rfl, ?_, ?_, ?_⟩, below_set4 HB7.out (Nat.le_refl _) _ _ _ _⟩
              · exact rd_end HO1.out (kp_set4 HK7.out rfl _ _ _ _) HN1.out HW.out
              · exact rd_end HO2.out (kp_set4 HK7.out rfl _ _ _ _) HN2.out rfl
              · exact rd_end HO3.out (kp_set4 HK7.out rfl _ _ _ _) HN3.out rfl
      · have HR1 := Aside0.mk (show odR l a K S = [] by rw [odR, if_neg k3])
        have HLR := Aside0.mk (show (odR l a K S).length = 0 by rw [HR1.out]; rfl)
        obtain ⟨m, hm⟩ : ∃ m : Nat, (S - (16 + 8 * (k : Int))) / 8 = (m : Int) := Int.eq_ofNat_of_zero_le (by omega)
        have hm1 : 16 + 8 * (k : Int) + 8 * (m : Int) ≤ S := by omega
        have hm2 : S < 16 + 8 * (k : Int) + 8 * (m : Int) + 8 := by omega
        have HI1 := Aside0.mk (show odI l a K S = wordsAt l (a + 16 + 8 * (k : Int)) m by rw [odI, if_neg k3, HQ.out, hm, Int.toNat_natCast])
        have HLI := Aside0.mk (show (odI l a K S).length = m by rw [HI1.out]; exact wordsAt_len _ _ _)
        have dk2 : decide ((2 : Int) < K) = true := by simp; omega
        clear hm
        go_wp2_with fail
        go_loopg [16, 18, 19] m (fun kq v16 v18 v19 w' => ∃ (j : Nat) (A3 : Option Addr) (d3 : Nat), j + kq = m ∧ v16 = .int .i64 (a + 16 + 8 * (k : Int) + 8 * (j : Int)) ∧ Aside0 (w'.heap[p]? = some (.cells #[.int .i64 K, .slice A1 k d1, .slice none 0 0, .slice A3 j d3] 49 (0, 0))) ∧ Aside0 (Own (Value.int .u64) w' w.heap.size 22 (.slice A1 k d1) (wordsAt l (a + 16) k)) ∧ Aside0 (Own (Value.int .u64) w' w.heap.size 22 (.slice A3 j d3) (wordsAt l (a + 16 + 8 * (k : Int)) j)) ∧ Aside0 (∀ b, (.slice A1 k d1 : Value).ownBlock = some b → (.slice A3 j d3 : Value).ownBlock ≠ some b) ∧ Aside0 (w'.heap[w.heap.size]? = some (.cells #[.int .i64 0, .slice none 0 0, .slice none 0 0, .slice none 0 0] 49 (0, 0))) ∧ Aside0 (Below w.heap.size w w'))
        case atStart => exact ⟨0, none, 0, by omega, by simp, HX, HO, ⟨Own.nil _ _ _ _⟩, ⟨fun b _ h => by cases h⟩, HZ, HB⟩
        case round =>
          clear HX HO HZ HB
          obtain ⟨j, A3, d3, hjm, rfl, HX, HO1, HO3, HAP, HZ, HB⟩ := hrel
          by_cases c2 : j < m
          · obtain ⟨x, hx⟩ : ∃ x, getN l (a + 16 + 8 * (k : Int) + 8 * (j : Int)) 8 = x := ⟨_, rfl⟩
            have HN := Aside0.mk (show wordsAt l (a + 16 + 8 * (k : Int)) (j + 1) = wordsAt l (a + 16 + 8 * (k : Int)) j ++ [x] by rw [wordsAt_snoc', hx])
            have HXX := Aside0.mk hx
            obtain ⟨bb, hbb⟩ : ∃ bb, fitsB l.length (a + 16 + 8 * (k : Int) + 8 * (j : Int)) 8 = bb := ⟨_, rfl⟩
            have HBBB := Aside0.mk hbb
            clear hx hbb
            go_wp2_with fail
            refine (ref_Get_calls _ l (a + 16 + 8 * (k : Int) + 8 * (j : Int)) 8 _ (HV.out.below HB.out) HIB.out).mono ?_
            rintro e w3 ⟨rfl, hb3⟩
            rw [HXX.out, HBBB.out]
            obtain ⟨A4, c4, w4, hrun4, hO4, hg4, hat4⟩ := app64oneAt x (HO3.out.below hb3) (wordsAt_len _ _ _) (Nat.le_trans HB.out.size hb3.size) (by omega)
            have z1 := blk_cell (blk_below HX.out hb3) 3
            have hX4 := blk_grown (blk_alloc (blk_below HX.out hb3) (.cells #[.int .u64 x] 22)) hg4 (fun e => (HO3.out.below hb3).ne (blk_below HX.out hb3) (by decide) e.symm)
            have hZ4 := blk_grown (blk_alloc (blk_below HZ.out hb3) (.cells #[.int .u64 x] 22)) hg4 (fun e => (HO3.out.below hb3).ne (blk_below HZ.out hb3) (by decide) e.symm)
            have y1 := blk_cell hX4 3
            have g1 := blk_frozen hX4 3
            have HX5 := Aside0.mk (show (w4.setCell ⟨p, 3, none⟩ (.slice A4 (j + 1) c4)).heap[p]? = some (.cells #[.int .i64 K, .slice A1 k d1, .slice none 0 0, .slice A4 (j + 1) c4] 49 (0, 0)) from by simpa using blk_set hX4 3 (.slice A4 (j + 1) c4))
            have HZ5 := Aside0.mk (blk_far hZ4 (p := ⟨p, 3, none⟩) (by show w.heap.size ≠ p; omega) (.slice A4 (j + 1) c4))
            have hB4 := Kp.from (below_alloc (below_step HB.out hb3) (.cells #[.int .u64 x] 22)) (Kp.of_grown hg4) (fun k hk => HO3.out.ge hk)
            have HB5 := Aside0.mk (obelow_set hB4 ⟨p, 3, none⟩ (by show w.heap.size ≤ p; omega) (.slice A4 (j + 1) c4))
            have HO5 := Aside0.mk (show Own (Value.int .u64) (w4.setCell ⟨p, 3, none⟩ (.slice A4 (j + 1) c4)) w.heap.size 22 (.slice A4 (j + 1) c4) (wordsAt l (a + 16 + 8 * (k : Int)) (j + 1)) by
              rw [HN.out]; exact hO4.move (fun b hb => Below.heap_setCell w4 _ _ b (fun e => hO4.ne hX4 (by decide) (by rw [hb, e]))))
            have hO1a := HO1.out.below (below_alloc hb3 (.cells #[.int .u64 x] 22))
            have HO1' := Aside0.mk (show Own (Value.int .u64) (w4.setCell ⟨p, 3, none⟩ (.slice A4 (j + 1) c4)) w.heap.size 22 (.slice A1 k d1) (wordsAt l (a + 16) k) from
              (hO1a.move (fun b hb => hg4.block b (hO1a.lt hb) (fun e => HAP.out b hb e.symm))).move (fun b hb => Below.heap_setCell w4 _ _ b (fun e => HO1.out.ne HX.out (by decide) (by rw [hb, e]))))
            have HAP5 := Aside0.mk (show ∀ b, (.slice A1 k d1 : Value).ownBlock = some b → (.slice A4 (j + 1) c4 : Value).ownBlock ≠ some b from fun b hb e => by
              rcases hat4 with h | ⟨b', h, hle⟩
              · rw [h] at e; exact HAP.out b hb e
              · rw [h] at e; injection e with e; have := hO1a.lt hb; have := (HO1.out.below hb3).lt hb; omega)
            have HR4 := Aside0.mk hrun4
            clear hrun4 hO4 hg4 hX4 hZ4 hB4 hb3 hat4 hO1a
            go_wp2_with (first | ((with_reducible refine gate_builtin (b := .append) (xs := #[.tmp 131, .tmp 133]) rfl ?_); at_builtin; refine app_list rfl (.tmp 131) (.tmp 133) rfl rfl rfl HR4.out ?_))
            go_roundg (m - (j + 1))
            case measure => omega
            case rel => exact ⟨j + 1, A4, c4, by omega, by go_num, HX5, HO1', HO5, HAP5, HZ5, HB5⟩
          · obtain rfl : j = m := by omega
            have HO2 := Aside0.mk (show Own (Value.int .u8) wr w.heap.size 5 (.slice none 0 0) (odR l a K S) by rw [HR1.out]; exact Own.nil _ _ _ _)
            rw [← HI1.out] at HO3
            have HRB := Aside0.mk (show isB (odR l a K S) by rw [odR]; split <;> first | exact rawAt_isB HIB.out _ _ | exact oB_nil)
            have HIW := Aside0.mk (show isW (odI l a K S) by rw [odI]; split <;> first | exact wordsAt_isW _ HIB.out _ _ | exact (fun x hx => by simp at hx))
            have z0 := blk_cell HX.out 0
            have z1 := blk_cell HX.out 1
            have z2 := blk_cell HX.out 2
            have z3 := blk_cell HX.out 3
            have HN1 := Aside0.mk (show ∀ b, (.slice A1 k d1 : Value).ownBlock = some b → ¬ (b = w.heap.size) from fun b hb e => HO1.out.ne HZ.out (by decide) (by rw [hb, e]))
            have HN2 := Aside0.mk (show ∀ b, (.slice none 0 0 : Value).ownBlock = some b → ¬ (b = w.heap.size) from fun b hb e => HO2.out.ne HZ.out (by decide) (by rw [hb, e]))
            have HN3 := Aside0.mk (show ∀ b, (.slice A3 j d3 : Value).ownBlock = some b → ¬ (b = w.heap.size) from fun b hb e => HO3.out.ne HZ.out (by decide) (by rw [hb, e]))
            have HT := Aside0.mk (show rdT l a K S = (oR K k 0 j && decide (((objZ K (odW l a K) (odR l a K S) (odI l a K S)).length : Int) ≤ l.length - a) && decide (objZ K (odW l a K) (odR l a K S) (odI l a K S) = (l.drop a.toNat).take (objZ K (odW l a K) (odR l a K S) (odI l a K S)).length)) by rw [rdT, HLR.out, HLI.out, HW.out, wordsAt_len])
            obtain ⟨b, hbq⟩ : ∃ b, oR K k 0 j = b := ⟨_, rfl⟩
            rw [hbq] at HT
            have HBQ := Aside0.mk hbq
            clear hbq
            cases b with
            | false =>
              have HF := Aside0.mk (show rdT l a K S = false by rw [HT.out]; rfl)
              go_wp2_with fail
              refine (ref_oEncode_no K k 0 j A1 none A3 d1 0 d3 _ (by omega) (by omega) (by omega) HBQ.out).mono ?_
              rintro e w3 ⟨rfl, hb3⟩
              have HB6 := Aside0.mk (below_step HB.out hb3)
              have HK6 := Aside0.mk (Kp.of_below hb3 (fun b => b = w.heap.size))
              have H0 := blk_below HZ.out hb3
              have r0 := blk_cell H0 0
              have r1 := blk_cell H0 1
              have r2 := blk_cell H0 2
              have r3 := blk_cell H0 3
              have f0 := blk_frozen H0 0
              have f1 := blk_frozen H0 1
              have f2 := blk_frozen H0 2
              have f3 := blk_frozen H0 3
              clear H0 hb3 z0 z1 z2 z3
              go_wp2_with fail
              refine bodyPost_ret (v := .tuple #[.agg #[.int .i64 0, .slice none 0 0, .slice none 0 0, .slice none 0 0], .int .i64 0, .bool false]) (by simp [results, Try.results47, go_sem, r0, r1, r2, r3]) rfl ⟨⟨.slice A1 k d1, .slice none 0 0, .slice A3 j d3, by rw [HF.out]; rfl, ?_, ?_, ?_⟩, below_set4 HB6.out (Nat.le_refl _) _ _ _ _⟩
              · exact rd_end HO1.out (kp_set4 HK6.out rfl _ _ _ _) HN1.out HW.out
              · exact rd_end HO2.out (kp_set4 HK6.out rfl _ _ _ _) HN2.out rfl
              · exact rd_end HO3.out (kp_set4 HK6.out rfl _ _ _ _) HN3.out rfl
            | true =>
              go_wp2_with fail
              refine (ref_oEncode_yes' K (odW l a K) (odR l a K S) (odI l a K S) k 0 j (by rw [HW.out]; exact wordsAt_len _ _ _) HLR.out HLI.out A1 none A3 d1 0 d3 _ (Own.rd HO1.out |> fun h => by rw [HW.out]; exact h) (Own.rd HO2.out) (Own.rd HO3.out) (by rw [HW.out]; exact wordsAt_isW _ HIB.out _ _) HRB.out HIW.out HBQ.out).mono ?_
              rintro e w3 ⟨v3, rfl, ho3, hb3⟩
              have HB6 := Aside0.mk (below_step HB.out hb3)
              have HK6 := Aside0.mk (Kp.of_below hb3 (fun b => b = w.heap.size))
              have HZ6 := Aside0.mk (blk_below HZ.out hb3)
              have HX6 := Aside0.mk (blk_below HX.out hb3)
              obtain ⟨A6, d6, e6⟩ := own_slice ho3
              have hN0 : 16 ≤ (objZ K (odW l a K) (odR l a K S) (odI l a K S)).length := by rw [objZ, List.length_append, objB_len]; omega
              have hN1 : (objZ K (odW l a K) (odR l a K S) (odI l a K S)).length ≤ 2000000 := by rw [objZ, List.length_append, List.length_replicate]; have := padN_le ((objB K (odW l a K) (odR l a K S) (odI l a K S)).length : Int) 8; have h2 := objB_len K (odW l a K) (odR l a K S) (odI l a K S); rw [HLR.out, HLI.out, HW.out, wordsAt_len] at h2; rw [HW.out] at this ⊢; omega
              have HRX := Aside0.mk (Own.rd ho3)
              obtain ⟨Z, hZ⟩ : ∃ Z, objZ K (odW l a K) (odR l a K S) (odI l a K S) = Z := ⟨_, rfl⟩
              have HZB := Aside0.mk (show isB Z by rw [← hZ]; exact objZ_isB K HRB.out)
              rw [hZ] at HT HRX e6 hN0 hN1
              obtain ⟨N, hN⟩ : ∃ N, Z.length = N := ⟨_, rfl⟩
              rw [hN] at HT e6 hN0 hN1
              have HN := Aside0.mk hN
              have HEQ := Aside0.mk (show (objZ K (odW l a K) (odR l a K S) (odI l a K S)).length = N by rw [hZ, hN])
              clear hN hZ ho3 hb3 z0 z1 z2 z3
              subst e6
              have H0 := HZ6.out
              have r0 := blk_cell H0 0
              have r1 := blk_cell H0 1
              have r2 := blk_cell H0 2
              have r3 := blk_cell H0 3
              have f0 := blk_frozen H0 0
              have f1 := blk_frozen H0 1
              have f2 := blk_frozen H0 2
              have f3 := blk_frozen H0 3
              clear H0
              have y0 := blk_cell HX6.out 0
              have y1 := blk_cell HX6.out 1
              have y2 := blk_cell HX6.out 2
              have y3 := blk_cell HX6.out 3
              by_cases cN : (N : Int) ≤ l.length - a
              rotate_left
              · have HF := Aside0.mk (show rdT l a K S = false by rw [HT.out, decide_eq_false cN]; rfl)
                go_wp2_with fail
                refine bodyPost_ret (v := .tuple #[.agg #[.int .i64 0, .slice none 0 0, .slice none 0 0, .slice none 0 0], .int .i64 0, .bool false]) (by simp [results, Try.results47, go_sem, r0, r1, r2, r3]) rfl ⟨⟨.slice A1 k d1, .slice none 0 0, .slice A3 j d3, by rw [HF.out]; rfl, ?_, ?_, ?_⟩, below_set4 HB6.out (Nat.le_refl _) _ _ _ _⟩
                · exact rd_end HO1.out (kp_set4 HK6.out rfl _ _ _ _) HN1.out HW.out
                · exact rd_end HO2.out (kp_set4 HK6.out rfl _ _ _ _) HN2.out rfl
                · exact rd_end HO3.out (kp_set4 HK6.out rfl _ _ _ _) HN3.out rfl
              have t1 : ((N : Int) == 0) = false := by simp; omega
              have t2 : decide ((l.length : Int) - a < (N : Int)) = false := by simp; omega
              obtain ⟨i5, hi5, hz5⟩ := infoU8'
              obtain ⟨v', hcut, hrd⟩ := Rd.cut 30 5 Try.underlying30 hi5 hz5 HV.out a (a + (N : Int)) a0 (by omega) (by omega)
              have hdt : (l.take (a + (N : Int)).toNat).drop a.toNat = (l.drop a.toNat).take N := by rw [List.drop_take]; congr 1; omega
              rw [hdt] at hrd
              have HRD := Aside0.mk (show ∀ w1 : World, Rd w1 .u8 (.slice A l.length c) l → Rd w1 .u8 v' ((l.drop a.toNat).take N) from hrd)
              obtain ⟨b2, hb2q⟩ : ∃ b2, decide (Z = (l.drop a.toNat).take N) = b2 := ⟨_, rfl⟩
              rw [hb2q, decide_eq_true cN] at HT
              have HBQ2 := Aside0.mk hb2q
              clear hrd hi5 hz5 hdt hb2q
              go_wp2_with fail
              refine (Same_calls _ v' Z ((l.drop a.toNat).take N) _ HRX.out (HRD.out _ (HV.out.below HB6.out)) HZB.out ((HIB.out.drop _).take _)).mono ?_
              rintro e w4 ⟨rfl, hb4⟩
              rw [HBQ2.out]
              have HB7 := Aside0.mk (below_step HB6.out hb4)
              have HK7 := Aside0.mk (HK6.out.below hb4)
              have H0 := blk_below HZ6.out hb4
              have H1 := blk_below HX6.out hb4
              clear hb4 r0 r1 r2 r3 f0 f1 f2 f3 y0 y1 y2 y3
              have r0 := blk_cell H0 0
              have r1 := blk_cell H0 1
              have r2 := blk_cell H0 2
              have r3 := blk_cell H0 3
              have f0 := blk_frozen H0 0
              have f1 := blk_frozen H0 1
              have f2 := blk_frozen H0 2
              have f3 := blk_frozen H0 3
              have y0 := blk_cell H1 0
              have y1 := blk_cell H1 1
              have y2 := blk_cell H1 2
              have y3 := blk_cell H1 3
              clear H0 H1
              cases b2 with
              | false =>
                have HF := Aside0.mk (show rdT l a K S = false by rw [HT.out]; rfl)
                go_wp2_with fail
                refine bodyPost_ret (v := .tuple #[.agg #[.int .i64 0, .slice none 0 0, .slice none 0 0, .slice none 0 0], .int .i64 0, .bool false]) (by simp [results, Try.results47, go_sem, r0, r1, r2, r3]) rfl ⟨⟨.slice A1 k d1, .slice none 0 0, .slice A3 j d3, by rw [HF.out]; rfl, ?_, ?_, ?_⟩, below_set4 HB7.out (Nat.le_refl _) _ _ _ _⟩
                · exact rd_end HO1.out (kp_set4 HK7.out rfl _ _ _ _) HN1.out HW.out
                · exact rd_end HO2.out (kp_set4 HK7.out rfl _ _ _ _) HN2.out rfl
                · exact rd_end HO3.out (kp_set4 HK7.out rfl _ _ _ _) HN3.out rfl
              | true =>
                have HF := Aside0.mk (show rdT l a K S = true by rw [HT.out]; rfl)
                go_wp2_with fail
                refine bodyPost_ret (v := .tuple #[.agg #[.int .i64 K, .slice A1 k d1, .slice none 0 0, .slice A3 j d3], .int .i64 (a + (N : Int)), .bool true]) (by simp [results, Try.results47, go_sem, r0, r1, r2, r3]) rfl ⟨⟨.slice A1 k d1, .slice none 0 0, .slice A3 j d3, by rw [HF.out, HEQ.out]; rfl, ?_, ?_, ?_⟩, below_set4 HB7.out (Nat.le_refl _) _ _ _ _⟩
                · exact rd_end HO1.out (kp_set4 HK7.out rfl _ _ _ _) HN1.out HW.out
                · exact rd_end HO2.out (kp_set4 HK7.out rfl _ _ _ _) HN2.out rfl
                · exact rd_end HO3.out (kp_set4 HK7.out rfl _ _ _ _) HN3.out rfl

end Go.Proofs.Ytdleajnecohacaa
