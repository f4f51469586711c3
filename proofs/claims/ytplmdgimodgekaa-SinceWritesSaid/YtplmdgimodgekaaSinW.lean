/- SinceWrites: the program's Text, the reference's, the law. -/
import Derived.Test.YtplmdgimodgekaaSinT
import Derived.Test.YtplmdgimodgekaaSinA
import Derived.Test.YtplmdgimodgekaaBld
namespace Go.Proofs.Ytplmdgimodgekaa
open Go.RowKit Go.Proofs.YtplmdgimodgekaaW.PrintWords Go.Proofs.YtplmdgimodgekaaW.PrintLast Go.Proofs.YtplmdgimodgekaaW.PrintMore
attribute [local go_sem] max2_int min2_int max_two min_two max_three min_three max_four min_four   -- for this text's walks alone
set_option linter.unusedVariables false
set_option linter.unusedSimpArgs false

def utN (k : Nat) : List Int := (uts.getD k ([], 1)).1
def utV (k : Nat) : Int := (uts.getD k ([], 1)).2
theorem ut_at : ∀ k : Nat, k < 7 → unitQ (utN k) = utV k ∧ unitP (utN k) = utV k ∧ isB (utN k) ∧ 1 ≤ utV k ∧ utV k ≤ 604800000000 ∧ (utN k).length ≤ 3 ∧ uts.drop k = (utN k, utV k) :: uts.drop (k + 1) := fun k hk => by
  have : ∀ k : Fin 7, unitQ (utN k.val) = utV k.val ∧ unitP (utN k.val) = utV k.val ∧ (utN k.val).all (fun x => decide (0 ≤ x ∧ x ≤ 255)) = true ∧ 1 ≤ utV k.val ∧ utV k.val ≤ 604800000000 ∧ (utN k.val).length ≤ 3 ∧ uts.drop k.val = (utN k.val, utV k.val) :: uts.drop (k.val + 1) := by decide
  have h := this ⟨k, hk⟩
  exact ⟨h.1, h.2.1, fun x hx => of_decide_eq_true (List.all_eq_true.1 h.2.2.1 x hx), h.2.2.2⟩
theorem ut_cells : ∀ k : Nat, k < 7 → (#[.string ⟨#[119]⟩, .string ⟨#[100]⟩, .string ⟨#[104]⟩, .string ⟨#[109, 105, 110]⟩, .string ⟨#[115]⟩, .string ⟨#[109, 115]⟩, .string ⟨#[117, 115]⟩] : Array Value)[k]? = some (.string (strOfNums (utN k))) := fun k hk => by
  match k, hk with
  | 0, _ => rfl
  | 1, _ => rfl
  | 2, _ => rfl
  | 3, _ => rfl
  | 4, _ => rfl
  | 5, _ => rfl
  | 6, _ => rfl
theorem txF_step {k : Nat} (hk : k < 7) (m : Int) : txF (uts.drop k) m = prtP (utN k) (m / utV k) ++ txF (uts.drop (k + 1)) (m % utV k) := by rw [(ut_at k hk).2.2.2.2.2.2]; rfl
theorem pow20 : (18446744073709551615 : Int) < 10 ^ (19 + 1) := by decide
set_option maxHeartbeats 8000000 in
set_option maxRecDepth 100000 in
theorem Text_calls (n : Int) (w : World) (n0 : 0 ≤ n) (n1 : n ≤ 18446744073709551615) : Calls Try.prog 43 #[.int .u64 n] w fun e w' => e = .returned (.string (strOfNums (textP n))) ∧ Below w.heap.size w w' := by
  by_cases c0 : n = 0
  · subst c0
    rw [show strOfNums (textP 0) = (⟨#[48]⟩ : ByteArray) from rfl]
    go_enter Try.func43, Try.ntmps43
    go_wp2_with fail
    go_ret
    exact ⟨rfl, Below.refl _ _⟩
  · have HT := Aside0.mk (show textP n = txF uts n from by rw [textP, if_neg c0])
    obtain ⟨R, hR⟩ : ∃ R, textP n = R := ⟨_, rfl⟩
    rw [hR] at HT ⊢
    clear hR
    have hb0 : (n == 0) = false := by rw [beq_eq_false_iff_ne]; exact c0
    have HN := Aside0.mk n1
    clear c0 n1
    have HBL0 := Aside0.mk ((bld_fresh w).below (below_alloc (Below.refl _ _) (.cells #[.string ⟨#[119]⟩, .string ⟨#[100]⟩, .string ⟨#[104]⟩, .string ⟨#[109, 105, 110]⟩, .string ⟨#[115]⟩, .string ⟨#[109, 115]⟩, .string ⟨#[117, 115]⟩] 9)))
    have HNM0 := Aside0.mk (show ((w.alloc (.cells #[.pointer none, .slice none 0 0] 117)).alloc (.cells #[.string ⟨#[119]⟩, .string ⟨#[100]⟩, .string ⟨#[104]⟩, .string ⟨#[109, 105, 110]⟩, .string ⟨#[115]⟩, .string ⟨#[109, 115]⟩, .string ⟨#[117, 115]⟩] 9)).heap[w.heap.size + 1]? = some (.cells #[.string ⟨#[119]⟩, .string ⟨#[100]⟩, .string ⟨#[104]⟩, .string ⟨#[109, 105, 110]⟩, .string ⟨#[115]⟩, .string ⟨#[109, 115]⟩, .string ⟨#[117, 115]⟩] 9 (0, 0)) by have := blk_new (w.alloc (.cells #[.pointer none, .slice none 0 0] 117)) (.cells #[.string ⟨#[119]⟩, .string ⟨#[100]⟩, .string ⟨#[104]⟩, .string ⟨#[109, 105, 110]⟩, .string ⟨#[115]⟩, .string ⟨#[109, 115]⟩, .string ⟨#[117, 115]⟩] 9); simpa using this)
    go_enter Try.func43, Try.ntmps43
    go_wp2_with fail
    go_loopw [0, 11] (fun v0 v11 w' => ∃ (k : Nat) (m : Int) (P : List Int), k ≤ 7 ∧ 0 ≤ m ∧ v11 = .int .i64 k ∧ v0 = .int .u64 m ∧ Aside0 (m ≤ 18446744073709551615) ∧ Aside0 (isB P) ∧ Aside0 (P.length ≤ 30 * k) ∧ Aside0 (P ++ txF (uts.drop k) m = R) ∧ Aside0 (BldS w' w.heap.size w.heap.size (strOfNums P)) ∧ Aside0 (w'.heap[w.heap.size + 1]? = some (.cells #[.string ⟨#[119]⟩, .string ⟨#[100]⟩, .string ⟨#[104]⟩, .string ⟨#[109, 105, 110]⟩, .string ⟨#[115]⟩, .string ⟨#[109, 115]⟩, .string ⟨#[117, 115]⟩] 9 (0, 0))) ∧ Aside0 (Below w.heap.size w w')) (fun v0 v11 _ => 7 - (intOf v11).toNat)
    case atStart => exact ⟨0, n, [], by omega, n0, rfl, rfl, HN, ⟨fun x hx => by cases hx⟩, ⟨by simp⟩, ⟨HT.out.symm⟩, HBL0, HNM0, ⟨below_alloc (below_alloc (Below.refl _ _) _) _⟩⟩
    case round =>
      obtain ⟨k, m, P, hk, m0, rfl, rfl, HM, HP, HPL, HE, HBL, HNM, HB⟩ := hrel
      by_cases c1 : k < 7
      · have g1 := (blk_cell HNM.out k).trans (ut_cells k c1)
        obtain ⟨u1, -, u3, u4, u5, u6, -⟩ := ut_at k c1
        have HE2 := Aside0.mk ((congrArg (P ++ ·) (txF_step c1 m)).symm.trans HE.out)
        have HUQ := Aside0.mk u1
        have HUB := Aside0.mk u3
        have HUL := Aside0.mk u6
        have CU := Aside0.mk (fun w => unit_calls (utN k) w u3)
        rw [u1] at CU
        obtain ⟨U, hU⟩ : ∃ U, utN k = U := ⟨_, rfl⟩
        obtain ⟨V, hV⟩ : ∃ V, utV k = V := ⟨_, rfl⟩
        rw [hU] at g1 HUB HUL CU HE2
        rw [hV] at u4 u5 CU HE2
        clear hU hV u1 u3 u6 HUQ
        obtain ⟨T, hT⟩ : ∃ T, strOfNums U = T := ⟨_, rfl⟩
        have HTU := Aside0.mk hT
        rw [hT] at g1 CU
        clear hT
        obtain ⟨q, hq⟩ : ∃ q, m / V = q := ⟨_, rfl⟩
        obtain ⟨r, hr⟩ : ∃ r, m % V = r := ⟨_, rfl⟩
        have hq0 : 0 ≤ q := by rw [← hq]; exact Int.ediv_nonneg m0 (by omega)
        have hr0 : 0 ≤ r := by rw [← hr]; exact Int.emod_nonneg m (by omega)
        have hqm : q ≤ m := by rw [← hq]; exact Int.ediv_le_self _ m0
        have hrm : r ≤ m := (by rw [← hr]; have := Int.ediv_mul_add_emod m V; have := Int.mul_nonneg (Int.ediv_nonneg m0 (show 0 ≤ V by omega)) (show 0 ≤ V by omega); omega)
        have hq2 : m.tdiv V = q := by rw [Int.tdiv_eq_ediv_of_nonneg m0]; exact hq
        have hr2 : m.tmod V = r := by rw [Int.tmod_eq_emod_of_nonneg m0]; exact hr
        rw [hq, hr] at HE2
        have HQ := Aside0.mk (show q ≤ 18446744073709551615 from Int.le_trans hqm HM.out)
        have HR := Aside0.mk (show r ≤ 18446744073709551615 from Int.le_trans hrm HM.out)
        have hwq : IntKind.u64.wrap q = q := by rw [IntKind.wrap_u64]; have := HQ.out; omega
        have hwr : IntKind.u64.wrap r = r := by rw [IntKind.wrap_u64]; have := HR.out; omega
        have hv0 : (V == 0) = false := by rw [beq_eq_false_iff_ne]; omega
        have hv1 : V ≠ 0 := by omega
        have HQR := Aside0.mk (show q * V + r = m by rw [← hq, ← hr]; exact Int.ediv_mul_add_emod m V)
        clear hqm hrm hq hr
        go_wp2_with fail
        refine (CU.out _).mono ?_
        rintro _ wu ⟨rfl, rfl⟩
        by_cases c2 : 0 < q
        · have HE3 := Aside0.mk (show (P ++ (decD 20 q ++ U)) ++ txF (uts.drop (k + 1)) r = R by have := HE2.out; rw [prtP, if_pos c2] at this; rw [List.append_assoc]; exact this)
          have HD := Aside0.mk (decD_isB 20 q hq0)
          have HDL := Aside0.mk (decD_len 19 q).1
          rw [show 19 + 1 = 20 from rfl] at HDL
          have CD := Aside0.mk (fun w => Decimal_calls 19 q w (by omega) hq0 (Int.lt_of_le_of_lt HQ.out pow20) HQ.out)
          rw [show 19 + 1 = 20 from rfl] at CD
          obtain ⟨D, hD⟩ : ∃ D, decD 20 q = D := ⟨_, rfl⟩
          rw [hD] at HE3 HD HDL CD
          clear hD
          have hsz1 := strOf_size D
          have hsz2 := strOf_size U
          have hsz3 := strOf_size P
          have hcat : strOfNums D ++ T = strOfNums (D ++ U) := by rw [← HTU.out, strOf_append]
          rw [HTU.out] at hsz2
          obtain ⟨X, hX⟩ : ∃ X, strOfNums D = X := ⟨_, rfl⟩
          obtain ⟨Y, hY⟩ : ∃ X, strOfNums (D ++ U) = X := ⟨_, rfl⟩
          rw [hX] at CD hcat hsz1
          rw [hY] at hcat
          have HY := Aside0.mk hY
          have HYS := Aside0.mk (show Y.size = D.length + U.length by rw [← hY, strOf_size, List.length_append])
          have hov : (9223372036854775807 < X.size + T.size) = False := by
            have := HDL.out; have := HUL.out
            simp; omega
          have HPS := Aside0.mk hsz3
          clear hX hY hsz1 hsz2 hsz3
          go_wp2_with fail
          refine (CD.out _).mono ?_
          rintro _ wd ⟨rfl, hb⟩
          have HB1 := Aside0.mk (below_step HB.out hb)
          have HBL1 := Aside0.mk (HBL.out.below hb)
          have HNM1 := Aside0.mk (blk_below HNM.out hb)
          clear hb
          go_wp2_with fail
          refine (WriteString_calls w.heap.size w.heap.size (strOfNums P) Y _ HBL1.out (by have := HYS.out; have := HPS.out; have := HPL.out; have := HDL.out; have := HUL.out; omega) HB1.out.size).mono ?_
          rintro _ ww ⟨rfl, hbl, hb, hk⟩
          have HB2 := Aside0.mk (HB1.out.trans hb)
          have HBL2 := Aside0.mk (show BldS ww w.heap.size w.heap.size (strOfNums (P ++ (D ++ U))) by rw [← strOf_append, HY.out]; exact hbl)
          have HNM2 := Aside0.mk (hk _ _ HNM1.out (by simp) (by intro c fz e; injection e with _ e2; exact absurd e2 (by decide)))
          have g2 := (blk_cell HNM2.out k).trans (ut_cells k c1)
          clear hb hk hbl
          go_wp2_with fail
          refine (CU.out _).mono ?_
          rintro _ wu ⟨rfl, rfl⟩
          go_wp2_with fail
          go_roundw
          case rel => exact ⟨k + 1, r, P ++ (D ++ U), by omega, hr0, by go_num, rfl, HR, ⟨HP.out.app (HD.out.app HUB.out)⟩, ⟨by have := HPL.out; have := HDL.out; have := HUL.out; simp only [List.length_append]; omega⟩, HE3, HBL2, HNM2, HB2⟩
          case measure => simp [intOf] <;> omega
        · have hq00 : q = 0 := by omega
          have HMR := Aside0.mk (show m = r by have := HQR.out; rw [hq00, Int.zero_mul, Int.zero_add] at this; exact this.symm)
          have HE3 := Aside0.mk (show P ++ txF (uts.drop (k + 1)) r = R by have := HE2.out; rw [prtP, if_neg c2] at this; exact this)
          subst hq00
          go_wp2_with fail
          go_roundw
          case rel => exact ⟨k + 1, m, P, by omega, m0, by go_num, rfl, HM, HP, ⟨by have := HPL.out; omega⟩, ⟨by rw [HMR.out]; exact HE3.out⟩, HBL, HNM, HB⟩
          case measure => simp [intOf] <;> omega
      · obtain rfl : k = 7 := by omega
        have HEP := Aside0.mk (show P = R from by have := HE.out; rwa [show uts.drop 7 = [] from rfl, txF, List.append_nil] at this)
        go_wp2_with fail
        refine (BString_calls _ _ _ _ HBL.out (by have := HB.out.size; omega)).mono ?_
        rintro _ w9 ⟨rfl, hb⟩
        have HB9 := Aside0.mk (HB.out.trans hb)
        go_wp2_with fail
        go_ret
        exact ⟨by rw [HEP.out]; rfl, HB9.out⟩
theorem prt_nil {nm : List Int} {k : Int} (h : prtP nm k = []) : ¬ 0 < k := fun hk => by
  rw [prtP, if_pos hk] at h
  have := decD_len 19 k
  rw [show 19 + 1 = 20 from rfl] at this
  have h2 := congrArg List.length h
  rw [List.length_append, List.length_nil] at h2; omega
theorem tx_nil : ∀ (r : List (List Int × Int)) (n : Int), 0 ≤ n → (∀ x ∈ r, 1 ≤ x.2) → txF r n = [] → ∀ x ∈ r, n < x.2
  | [], _, _, _, _ => fun x hx => by cases hx
  | y :: r, n, h0, h1, h => by
    rw [txF, List.append_eq_nil_iff] at h
    have hy := h1 y (by simp)
    have hq := prt_nil h.1
    have hd := Int.ediv_mul_add_emod n y.2
    have hm := Int.emod_lt_of_pos n (show 0 < y.2 by omega)
    have hq0 := Int.ediv_nonneg h0 (show 0 ≤ y.2 by omega)
    have hz : n / y.2 = 0 := by omega
    rw [hz, Int.zero_mul, Int.zero_add] at hd
    have ih := tx_nil r (n % y.2) (by omega) (fun x hx => h1 x (List.mem_cons_of_mem _ hx)) h.2
    rw [hd] at ih
    intro x hx
    rcases List.mem_cons.1 hx with rfl | hx
    · omega
    · exact ih x hx
theorem textP_ref (n : Int) (h0 : 0 ≤ n) : textP n = if txF uts n = [] then [48] else txF uts n := by
  rw [textP]
  by_cases c : n = 0
  · rw [if_pos c, c, if_pos (by decide)]
  · rw [if_neg c, if_neg]
    intro h
    have := tx_nil uts n h0 (by decide) h ([117, 115], 1) (by decide)
    simp only at this; omega
set_option maxHeartbeats 8000000 in
set_option maxRecDepth 100000 in
theorem ref_SText_calls (n : Int) (w : World) (n0 : 0 ≤ n) (n1 : n ≤ 18446744073709551615) : Calls Try.prog 44 #[.int .u64 n] w fun e w' => e = .returned (.string (strOfNums (textP n))) ∧ Below w.heap.size w w' := by
  have HT := Aside0.mk (textP_ref n n0)
  obtain ⟨G, hG⟩ : ∃ G, textP n = G := ⟨_, rfl⟩
  obtain ⟨R, hR⟩ : ∃ R, txF uts n = R := ⟨_, rfl⟩
  rw [hG, hR] at HT
  rw [hG]
  have HRR := Aside0.mk hR
  have HN := Aside0.mk n1
  clear hG hR n1
  have HNM0 := Aside0.mk (blk_new w (.cells #[.string ⟨#[119]⟩, .string ⟨#[100]⟩, .string ⟨#[104]⟩, .string ⟨#[109, 105, 110]⟩, .string ⟨#[115]⟩, .string ⟨#[109, 115]⟩, .string ⟨#[117, 115]⟩] 9))
  go_enter Try.func44, Try.ntmps44
  go_wp2_with fail
  go_loopw [0, 4, 5] (fun v0 v4 v5 w' => ∃ (k : Nat) (m : Int) (P : List Int), k ≤ 7 ∧ 0 ≤ m ∧ v5 = .int .i64 k ∧ v0 = .int .u64 m ∧ v4 = .string (strOfNums P) ∧ Aside0 (m ≤ 18446744073709551615) ∧ Aside0 (isB P) ∧ Aside0 (P.length ≤ 30 * k) ∧ Aside0 (P ++ txF (uts.drop k) m = R) ∧ Aside0 (w'.heap[w.heap.size]? = some (.cells #[.string ⟨#[119]⟩, .string ⟨#[100]⟩, .string ⟨#[104]⟩, .string ⟨#[109, 105, 110]⟩, .string ⟨#[115]⟩, .string ⟨#[109, 115]⟩, .string ⟨#[117, 115]⟩] 9 (0, 0))) ∧ Aside0 (Below w.heap.size w w')) (fun v0 v4 v5 _ => 7 - (intOf v5).toNat)
  case atStart => exact ⟨0, n, [], by omega, n0, rfl, rfl, rfl, HN, ⟨fun x hx => by cases hx⟩, ⟨by simp⟩, ⟨HRR.out⟩, HNM0, ⟨below_alloc (Below.refl _ _) _⟩⟩
  case round =>
    obtain ⟨k, m, P, hk, m0, rfl, rfl, rfl, HM, HP, HPL, HE, HNM, HB⟩ := hrel
    by_cases c1 : k < 7
    · have g1 := (blk_cell HNM.out k).trans (ut_cells k c1)
      obtain ⟨-, u1, u3, u4, u5, u6, -⟩ := ut_at k c1
      have HE2 := Aside0.mk ((congrArg (P ++ ·) (txF_step c1 m)).symm.trans HE.out)
      have HUB := Aside0.mk u3
      have HUL := Aside0.mk u6
      have CU := Aside0.mk (fun w => ref_unit_calls (utN k) w u3)
      rw [u1] at CU
      have HUC := Aside0.mk (ut_cells k c1)
      obtain ⟨U, hU⟩ : ∃ U, utN k = U := ⟨_, rfl⟩
      obtain ⟨V, hV⟩ : ∃ V, utV k = V := ⟨_, rfl⟩
      rw [hU] at g1 HUB HUL CU HE2 HUC
      rw [hV] at u4 u5 CU HE2
      clear hU hV u1 u3 u6
      obtain ⟨T, hT⟩ : ∃ T, strOfNums U = T := ⟨_, rfl⟩
      have HTU := Aside0.mk hT
      rw [hT] at g1 CU HUC
      clear hT
      obtain ⟨q, hq⟩ : ∃ q, m / V = q := ⟨_, rfl⟩
      obtain ⟨r, hr⟩ : ∃ r, m % V = r := ⟨_, rfl⟩
      have hq0 : 0 ≤ q := by rw [← hq]; exact Int.ediv_nonneg m0 (by omega)
      have hr0 : 0 ≤ r := by rw [← hr]; exact Int.emod_nonneg m (by omega)
      have hrV : r < V := by rw [← hr]; exact Int.emod_lt_of_pos m (by omega)
      have hqm : q ≤ m := by rw [← hq]; exact Int.ediv_le_self _ m0
      have hrm : r ≤ m := (by rw [← hr]; have := Int.ediv_mul_add_emod m V; have := Int.mul_nonneg (Int.ediv_nonneg m0 (show 0 ≤ V by omega)) (show 0 ≤ V by omega); omega)
      have hq2 : m.tdiv V = q := by rw [Int.tdiv_eq_ediv_of_nonneg m0]; exact hq
      have hr2 : m.tmod V = r := by rw [Int.tmod_eq_emod_of_nonneg m0]; exact hr
      have hq3 := hq
      have hr3 := hr
      rw [hq, hr] at HE2
      have HQ := Aside0.mk (show q ≤ 18446744073709551615 from Int.le_trans hqm HM.out)
      have HR := Aside0.mk (show r ≤ 18446744073709551615 from Int.le_trans hrm HM.out)
      have hwq : IntKind.u64.wrap q = q := by rw [IntKind.wrap_u64]; have := HQ.out; omega
      have hwr : IntKind.u64.wrap r = r := by rw [IntKind.wrap_u64]; have := HR.out; omega
      have hv0 : (V == 0) = false := by rw [beq_eq_false_iff_ne]; omega
      have hv1 : V ≠ 0 := by omega
      have hge : 0 < q ↔ V ≤ m := by
        rw [← hq]
        constructor
        · intro h; have := (Int.le_ediv_iff_mul_le (show 0 < V by omega)).1 (show 1 ≤ m / V by omega); omega
        · intro h; have := (Int.le_ediv_iff_mul_le (show 0 < V by omega)).2 (show 1 * V ≤ m by omega); omega
      have HQR := Aside0.mk (show q * V + r = m by rw [← hq, ← hr]; exact Int.ediv_mul_add_emod m V)
      have HGE := Aside0.mk hge
      clear hqm hrm hq hr hge
      go_wp2_with fail
      refine (CU.out _).mono ?_
      rintro _ wu ⟨rfl, hb⟩
      have HBU := Aside0.mk (below_step HB.out hb)
      have HNMU := Aside0.mk (blk_below HNM.out hb)
      have gu := (blk_cell HNMU.out k).trans HUC.out
      clear hb
      by_cases c2 : V ≤ m
      · have c3 : 0 < q := HGE.out.2 c2
        have HE3 := Aside0.mk (show (P ++ (decD 20 q ++ U)) ++ txF (uts.drop (k + 1)) r = R by have := HE2.out; rw [prtP, if_pos c3] at this; rw [List.append_assoc]; exact this)
        have HD := Aside0.mk (decD_isB 20 q hq0)
        have HDL := Aside0.mk (decD_len 19 q).1
        rw [show 19 + 1 = 20 from rfl] at HDL
        have CD := Aside0.mk (fun w => ref_Decimal_calls 19 q w (by omega) hq0 (Int.lt_of_le_of_lt HQ.out pow20) HQ.out)
        rw [show 19 + 1 = 20 from rfl] at CD
        obtain ⟨D, hD⟩ : ∃ D, decD 20 q = D := ⟨_, rfl⟩
        rw [hD] at HE3 HD HDL CD
        clear hD
        have hsz1 := strOf_size D
        have hsz2 := strOf_size U
        have hsz3 := strOf_size P
        have HCAT := Aside0.mk (show (strOfNums P ++ strOfNums D) ++ T = strOfNums (P ++ (D ++ U)) by rw [← HTU.out, strOf_append, strOf_append, List.append_assoc])
        rw [HTU.out] at hsz2
        obtain ⟨X, hX⟩ : ∃ X, strOfNums D = X := ⟨_, rfl⟩
        obtain ⟨Y, hY⟩ : ∃ X, strOfNums P = X := ⟨_, rfl⟩
        rw [hX] at CD HCAT hsz1
        rw [hY] at HCAT hsz3 ⊢
        have hov : (9223372036854775807 < Y.size + X.size) = False := by
          have := HDL.out; have := HPL.out
          simp; omega
        have hov2 : (9223372036854775807 < Y.size + X.size + T.size) = False := by
          have := HDL.out; have := HUL.out; have := HPL.out
          simp; omega
        have hov3 : (9223372036854775807 < (Y ++ X).size + T.size) = False := by rw [ByteArray.size_append]; exact hov2
        clear hX hY hsz1 hsz2 hsz3
        go_wp2_with fail
        refine start_ (n := 12) (S := fun w' => w'.cell? ⟨w.heap.size, k, none⟩ = some (.string T)) (ds := []) #[false, false, false, false, false, false, false, false, false, false, false, false] (by kernel_rfl) rfl rfl (gu) (fun hHeld => ?_)
        refine pure_ (i := 0) (N := some 22) (v := ?_) (a' := ?_) #[true, false, false, false, false, false, false, false, false, false, false, false] rfl rfl (by kernel_rfl) (fun _ _ _ h => h) (Or.inl ⟨by rfl, ?_⟩) ?_ ?_
        rotate_left
        · intro w'
          go_simp
          with_reducible rfl
        rotate_left
        · simp only [Act.put, List.setIfInBounds_toArray, List.set_cons_zero, List.set_cons_succ, i64_w, i32_w]
          rfl
        refine pure_ (i := 1) (N := some 23) (v := ?_) (a' := ?_) #[true, true, false, false, false, false, false, false, false, false, false, false] rfl rfl (by kernel_rfl) (fun _ _ _ h => h) (Or.inl ⟨by rfl, ?_⟩) ?_ ?_
        rotate_left
        · intro w'
          go_simp
          with_reducible rfl
        rotate_left
        · simp only [Act.put, List.setIfInBounds_toArray, List.set_cons_zero, List.set_cons_succ, i64_w, i32_w]
          rfl
        refine pure_ (i := 2) (N := some 24) (v := ?_) (a' := ?_) #[true, true, true, false, false, false, false, false, false, false, false, false] rfl rfl (by kernel_rfl) (fun _ _ _ h => h) (Or.inl ⟨by rfl, ?_⟩) ?_ ?_
        rotate_left
        · intro w'
          go_simp
          with_reducible rfl
        rotate_left
        · simp only [Act.put, List.setIfInBounds_toArray, List.set_cons_zero, List.set_cons_succ, i64_w, i32_w]
          rfl
        refine pure_ (i := 3) (N := some 25) (v := ?_) (a' := ?_) #[true, true, true, true, false, false, false, false, false, false, false, false] rfl rfl (by kernel_rfl) (fun _ _ _ h => h) (Or.inl ⟨by rfl, ?_⟩) ?_ ?_
        rotate_left
        · intro w'
          go_simp
          with_reducible rfl
        rotate_left
        · simp only [Act.put, List.setIfInBounds_toArray, List.set_cons_zero, List.set_cons_succ, i64_w, i32_w]
          rfl
        refine pure_ (i := 6) (N := some 28) (v := ?_) (a' := ?_) #[true, true, true, true, false, false, true, false, false, false, false, false] rfl rfl (by kernel_rfl) (fun _ _ _ h => h) (Or.inl ⟨by rfl, ?_⟩) ?_ ?_
        rotate_left
        · intro w'
          go_simp
          with_reducible rfl
        rotate_left
        · simp only [Act.put, List.setIfInBounds_toArray, List.set_cons_zero, List.set_cons_succ, i64_w, i32_w]
          rfl
        refine pure_ (i := 7) (N := some 29) (v := ?_) (a' := ?_) #[true, true, true, true, false, false, true, true, false, false, false, false] rfl rfl (by kernel_rfl) (fun _ _ _ h => h) (Or.inl ⟨by rfl, ?_⟩) ?_ ?_
        rotate_left
        · intro w'
          go_simp
          with_reducible rfl
        rotate_left
        · simp only [Act.put, List.setIfInBounds_toArray, List.set_cons_zero, List.set_cons_succ, i64_w, i32_w]
          rfl
        refine pure_ (i := 8) (N := some 30) (v := ?_) (a' := ?_) #[true, true, true, true, false, false, true, true, true, false, false, false] rfl rfl (by kernel_rfl) (fun _ _ _ h => h) (Or.inl ⟨by rfl, ?_⟩) ?_ ?_
        rotate_left
        · intro w'
          go_simp
          with_reducible rfl
        rotate_left
        · simp only [Act.put, List.setIfInBounds_toArray, List.set_cons_zero, List.set_cons_succ, i64_w, i32_w]
          rfl
        refine take_ (i := 9) (N := some 31) (v := ?_) (a' := ?_) #[true, true, true, true, false, false, true, true, true, true, false, false] rfl rfl (by kernel_rfl) (fun _ _ _ h => h) (Or.inl ⟨by rfl, ?_⟩) hHeld ?_ ?_
        rotate_left
        · intro w' s0
          go_simp
          with_reducible rfl
        rotate_left
        · simp only [Act.put, List.setIfInBounds_toArray, List.set_cons_zero, List.set_cons_succ, i64_w, i32_w]
          rfl
        refine one_ (i := 4) (N := some 26) #[true, true, true, true, true, false, true, true, true, true, false, false] rfl rfl (by kernel_rfl) (by decide) (fun K hK => ?_)
        refine goes_ Try.func82 (by kernel_rfl) rfl #[.int .u64 q] (by rfl) rfl rfl (by (try simp only [List.map_toArray, List.map_cons, List.map_nil]); first | done | rfl) ?_
        with_reducible refine (CD.out _).mono ?_
        rintro e wd ⟨rfl, hb⟩
        refine ⟨_, rfl, ?_⟩
        refine hK.out _ _ ((pw_cell_below hb hHeld)) (fun hHeld => ?_)
        clear hK K
        refine norm_ (a' := ?_) ?_ ?_
        rotate_left
        · show Act.put _ (some 26) _ = _
          simp only [Act.put, List.setIfInBounds_toArray, List.set_cons_zero, List.set_cons_succ, i64_w, i32_w]
          rfl
        refine pure_ (i := 5) (N := some 27) (v := ?_) (a' := ?_) #[true, true, true, true, true, true, true, true, true, true, false, false] rfl rfl (by kernel_rfl) (fun _ _ _ h => h) (Or.inl ⟨by rfl, ?_⟩) ?_ ?_
        rotate_left
        · intro w'
          go_simp
          with_reducible rfl
        rotate_left
        · simp only [Act.put, List.setIfInBounds_toArray, List.set_cons_zero, List.set_cons_succ, i64_w, i32_w]
          rfl
        refine pure_ (i := 10) (N := some 32) (v := ?_) (a' := ?_) #[true, true, true, true, true, true, true, true, true, true, true, false] rfl rfl (by kernel_rfl) (fun _ _ _ h => h) (Or.inl ⟨by rfl, ?_⟩) ?_ ?_
        rotate_left
        · intro w'
          go_simp
          with_reducible rfl
        rotate_left
        · simp only [Act.put, List.setIfInBounds_toArray, List.set_cons_zero, List.set_cons_succ, i64_w, i32_w]
          rfl
        refine pure_ (i := 11) (N := some 4) (v := ?_) (a' := ?_) #[true, true, true, true, true, true, true, true, true, true, true, true] rfl rfl (by kernel_rfl) (fun _ _ _ h => h) (Or.inl ⟨by rfl, ?_⟩) ?_ ?_
        rotate_left
        · intro w'
          go_simp
          with_reducible rfl
        rotate_left
        · simp only [Act.put, List.setIfInBounds_toArray, List.set_cons_zero, List.set_cons_succ, i64_w, i32_w]
          rfl
        refine done_ (by kernel_rfl) ?_
        have HB2 := Aside0.mk (below_step (below_drew HBU.out) hb)
        have HNM2 := Aside0.mk (blk_below (blk_drew HNMU.out) hb)
        clear hb
        go_wp2_with fail
        go_roundw
        case rel => exact ⟨k + 1, r, P ++ (D ++ U), by omega, hr0, by go_num, rfl, by rw [HCAT.out], HR, ⟨HP.out.app (HD.out.app HUB.out)⟩, ⟨by have := HPL.out; have := HDL.out; have := HUL.out; simp only [List.length_append]; omega⟩, HE3, HNM2, HB2⟩
        case measure => simp [intOf] <;> omega
      · have c3 : ¬ 0 < q := fun h => c2 (HGE.out.1 h)
        have HE3 := Aside0.mk (show P ++ txF (uts.drop (k + 1)) r = R by have := HE2.out; rw [prtP, if_neg c3] at this; exact this)
        clear c3
        go_wp2_with fail
        go_roundw
        case rel => exact ⟨k + 1, r, P, by omega, hr0, by go_num, rfl, rfl, HR, HP, ⟨by have := HPL.out; omega⟩, HE3, HNMU, HBU⟩
        case measure => simp [intOf] <;> omega
    · obtain rfl : k = 7 := by omega
      have hEP : P = R := by have := HE.out; rwa [show uts.drop 7 = [] from rfl, txF, List.append_nil] at this
      subst hEP
      by_cases hP : P = []
      · have HF := Aside0.mk (show G = [48] from by have := HT.out; rwa [if_pos hP] at this)
        subst hP
        rw [show strOfNums [] = (⟨#[]⟩ : ByteArray) from rfl]
        go_wp2_with fail
        go_ret
        exact ⟨by rw [HF.out]; rfl, HB.out⟩
      · have HF := Aside0.mk (show G = P from by have := HT.out; rwa [if_neg hP] at this)
        obtain ⟨e0, e1⟩ := str_ne (l := P) hP
        go_wp2_with fail
        go_ret
        exact ⟨by rw [HF.out]; rfl, HB.out⟩
theorem tx_bd : ∀ (r : List (List Int × Int)) (n : Int), (∀ x ∈ r, isB x.1 ∧ x.1.length ≤ 3) → isB (txF r n) ∧ (txF r n).length ≤ 23 * r.length
  | [], _, _ => ⟨(fun x hx => by cases hx), by simp [txF]⟩
  | y :: r, n, h => by
    have ih := tx_bd r (n % y.2) (fun x hx => h x (List.mem_cons_of_mem _ hx))
    have hy := h y (by simp)
    have := prt_len y.1 (n / y.2)
    rw [txF]
    refine ⟨(prt_isB y.1 _ hy.1).app ih.1, ?_⟩
    rw [List.length_append, List.length_cons]
    omega
theorem textP_bd (n : Int) : isB (textP n) ∧ (textP n).length ≤ 161 := by
  rw [textP]
  split
  · exact ⟨fun x hx => by simp at hx; omega, by simp⟩
  · have hu : ∀ x ∈ uts, isB x.1 ∧ x.1.length ≤ 3 := by
      have : ∀ x ∈ uts, x.1.all (fun x => decide (0 ≤ x ∧ x ≤ 255)) = true ∧ x.1.length ≤ 3 := by decide
      exact fun x hx => ⟨fun y hy => of_decide_eq_true (List.all_eq_true.1 (this x hx).1 y hy), (this x hx).2⟩
    have := tx_bd uts n hu
    rw [show uts.length = 7 from rfl] at this
    exact ⟨this.1, by omega⟩

set_option maxHeartbeats 8000000 in
set_option maxRecDepth 100000 in
theorem SinceWrites_calls (n : Int) (w : World) (n0 : 0 ≤ n) (n1 : n ≤ 18446744073709551615) :
    Calls Try.prog 12 #[.int .u64 n] w fun e w' => e = .returned (.bool true) ∧ Below w.heap.size w w' := by
  have CT := Aside0.mk (fun w => Text_calls n w n0 n1)
  have CR := Aside0.mk (fun w => ref_SText_calls n w n0 n1)
  have hbd := textP_bd n
  have CS := Aside0.mk (fun w => Span_calls (textP n) w hbd.1 (by have := hbd.2; omega))
  rw [spV] at CS
  have HBK := Aside0.mk (fun h => text_back n n0 h)
  obtain ⟨G, hG⟩ : ∃ G, textP n = G := ⟨_, rfl⟩
  rw [hG] at CT CR CS HBK
  obtain ⟨S, hS⟩ : ∃ S, strOfNums G = S := ⟨_, rfl⟩
  rw [hS] at CT CR CS
  have hss : (S.toList == S.toList) = true := by simp
  clear hbd hG hS n1
  by_cases c : n ≤ 1152921504606846976
  · have h := HBK.out c
    rw [h] at CS
    dsimp only [Option.getD_some, Option.isSome_some] at CS
    have hnn : (n != n) = false := by simp
    clear h
    go_enter Try.func12, Try.ntmps12
    go_wp2_with fail
    refine (CT.out _).mono ?_
    rintro _ wz ⟨rfl, hb⟩
    have HB := Aside0.mk hb
    clear hb
    go_wp2_with fail
    refine (CS.out _).mono ?_
    rintro _ wz ⟨rfl, hb⟩
    replace HB := Aside0.mk (below_step HB.out hb)
    clear hb
    go_wp2_with fail
    refine (CT.out _).mono ?_
    rintro _ wz ⟨rfl, hb⟩
    replace HB := Aside0.mk (below_step HB.out hb)
    clear hb
    go_wp2_with fail
    refine (CR.out _).mono ?_
    rintro _ wz ⟨rfl, hb⟩
    replace HB := Aside0.mk (below_step HB.out hb)
    clear hb
    go_wp2_with fail
    refine (since_awake _).mono ?_
    rintro _ wz ⟨rfl, hb⟩
    replace HB := Aside0.mk (below_step HB.out hb)
    clear hb
    go_wp2_with fail
    go_ret
    exact ⟨rfl, HB.out⟩

  · obtain ⟨x, ex⟩ : ∃ x, (spanP G).getD 0 = x := ⟨_, rfl⟩
    obtain ⟨b, eb⟩ : ∃ x, (spanP G).isSome = x := ⟨_, rfl⟩
    rw [ex, eb] at CS
    clear ex eb
    go_enter Try.func12, Try.ntmps12
    go_wp2_with fail
    refine (CT.out _).mono ?_
    rintro _ wz ⟨rfl, hb⟩
    have HB := Aside0.mk hb
    clear hb
    go_wp2_with fail
    refine (CS.out _).mono ?_
    rintro _ wz ⟨rfl, hb⟩
    replace HB := Aside0.mk (below_step HB.out hb)
    clear hb
    go_wp2_with fail
    refine (CT.out _).mono ?_
    rintro _ wz ⟨rfl, hb⟩
    replace HB := Aside0.mk (below_step HB.out hb)
    clear hb
    go_wp2_with fail
    refine (CR.out _).mono ?_
    rintro _ wz ⟨rfl, hb⟩
    replace HB := Aside0.mk (below_step HB.out hb)
    clear hb
    go_wp2_with fail
    refine (since_awake _).mono ?_
    rintro _ wz ⟨rfl, hb⟩
    replace HB := Aside0.mk (below_step HB.out hb)
    clear hb
    go_wp2_with fail
    go_ret
    exact ⟨rfl, HB.out⟩

theorem SinceWrites_walk (a0 : Int) (w : World) (w0 : (Lit.int .u64 a0).wf = true) :
    Calls Try.prog 12 #[.int .u64 a0] w fun e w' => e = .returned (.bool true) ∧ Below w.heap.size w w' := by
  exact SinceWrites_calls a0 w (bounds_u64 w0).1 (bounds_u64 w0).2
end Go.Proofs.Ytplmdgimodgekaa
