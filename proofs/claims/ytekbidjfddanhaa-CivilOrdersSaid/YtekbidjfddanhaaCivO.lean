/- CivilOrders: the plain law, the walk. -/
import Derived.Test.YtekbidjfddanhaaCivT
import Derived.Test.YtekbidjfddanhaaCiv4
import Derived.Test.YtekbidjfddanhaaCivR
import Derived.Test.YtekbidjfddanhaaArr
namespace Go.Proofs.Ytekbidjfddanhaa
open Go.RowKit Go.Proofs.YtekbidjfddanhaaW.PrintWords Go.Proofs.YtekbidjfddanhaaW.PrintLast Go.Proofs.YtekbidjfddanhaaW.PrintMore
attribute [local go_sem] max2_int min2_int max_two min_two max_three min_three max_four min_four   -- for this text's walks alone
set_option linter.unusedVariables false
set_option linter.unusedSimpArgs false

def lexL : List Int → List Int → Bool
  | x :: xs, y :: ys => decide (x < y) || (decide (x = y) && lexL xs ys)
  | _, _ => false
theorem lexL_drop {a b : List Int} {n : Nat} (ha : n < a.length) (hb : n < b.length) : lexL (a.drop n) (b.drop n) = (decide (a.getD n 0 < b.getD n 0) || (decide (a.getD n 0 = b.getD n 0) && lexL (a.drop (n + 1)) (b.drop (n + 1)))) := by
  rw [List.drop_eq_getElem_cons ha, List.drop_eq_getElem_cons hb, lexL, List.getD_eq_getElem?_getD, List.getElem?_eq_getElem ha, List.getD_eq_getElem?_getD, List.getElem?_eq_getElem hb]
  rfl
theorem u8L_app (a b : List Int) : u8L (a ++ b) = u8L a ++ u8L b := by simp [u8L]
theorem dI_step {k : Nat} {x y : Int} (x0 : 0 ≤ x) (x1 : x < 10 ^ k) (y0 : 0 ≤ y) (y1 : y < 10 ^ k) (S T : List Int) :
    Op.bytesLess (u8L (dI k x ++ S)) (u8L (dI k y ++ T)) = (decide (x < y) || (decide (x = y) && Op.bytesLess (u8L S) (u8L T))) := by
  obtain ⟨h1, h2⟩ := dI_less k x y
  rw [Int.emod_eq_of_lt x0 x1, Int.emod_eq_of_lt y0 y1] at h1 h2
  rw [u8L_app, u8L_app, bl_parts _ _ _ _ (by simp [u8L, dI_len]), h1, decide_eq_decide.2 h2]
theorem one_step (c : Int) (S T : List Int) : Op.bytesLess (u8L ([c] ++ S)) (u8L ([c] ++ T)) = Op.bytesLess (u8L S) (u8L T) := by
  rw [u8L_app, u8L_app, bl_front10]
theorem textS_less {y m d h i s u y' m' d' h' i' s' u' : Int} (hr : rightB y m d h i s u = true) (hr' : rightB y' m' d' h' i' s' u' = true) :
    Op.bytesLess (textS y m d h i s u).toList (textS y' m' d' h' i' s' u').toList = lexL [y, m, d, h, i, s, u] [y', m', d', h', i', s', u'] := by
  obtain ⟨⟨y0, y1⟩, ⟨m0, m1⟩, ⟨d0, d1⟩, ⟨h0, h1⟩, ⟨i0, i1⟩, ⟨s0, s1⟩, ⟨u0, u1⟩⟩ := rightB_yes hr
  obtain ⟨⟨y0', y1'⟩, ⟨m0', m1'⟩, ⟨d0', d1'⟩, ⟨h0', h1'⟩, ⟨i0', i1'⟩, ⟨s0', s1'⟩, ⟨u0', u1'⟩⟩ := rightB_yes hr'
  have d2 := (dimZ_bd y m).2
  have d2' := (dimZ_bd y' m').2
  have e : ∀ l, (strOfNums l).toList = u8L l := fun l => strOfNums_toList' l
  rw [textS, textS, e, e, textL, textL]
  simp only [List.append_assoc]
  rw [dI_step (by omega) (by omega) (by omega) (by omega), one_step, dI_step (by omega) (by omega) (by omega) (by omega), one_step, dI_step (by omega) (by omega) (by omega) (by omega), one_step, dI_step (by omega) (by omega) (by omega) (by omega), one_step, dI_step (by omega) (by omega) (by omega) (by omega), one_step, dI_step (by omega) (by omega) (by omega) (by omega), one_step]
  have hu := dI_step (k := 6) (x := u) (y := u') (by omega) (by omega) (by omega) (by omega) [] []
  rw [List.append_nil, List.append_nil] at hu
  rw [hu]
  rfl
theorem micros_lt {y m d h i s u y' m' d' h' i' s' u' : Int} (hr : rightB y m d h i s u = true) (hr' : rightB y' m' d' h' i' s' u' = true)
    (hl : y < y' ∨ y = y' ∧ (m < m' ∨ m = m' ∧ (d < d' ∨ d = d' ∧ (h < h' ∨ h = h' ∧ (i < i' ∨ i = i' ∧ (s < s' ∨ s = s' ∧ u < u')))))) : microsZ y m d h i s u < microsZ y' m' d' h' i' s' u' := by
  obtain ⟨⟨y0, y1⟩, ⟨m0, m1⟩, ⟨d0, d1⟩, ⟨h0, h1⟩, ⟨i0, i1⟩, ⟨s0, s1⟩, ⟨u0, u1⟩⟩ := rightB_yes hr
  obtain ⟨⟨y0', y1'⟩, ⟨m0', m1'⟩, ⟨d0', d1'⟩, ⟨h0', h1'⟩, ⟨i0', i1'⟩, ⟨s0', s1'⟩, ⟨u0', u1'⟩⟩ := rightB_yes hr'
  unfold microsZ
  by_cases c : y < y' ∨ y = y' ∧ (m < m' ∨ m = m' ∧ d < d')
  · have := dayZ_lt ⟨m0, m1, d0, d1⟩ ⟨m0', m1', d0', d1'⟩ c
    omega
  · obtain ⟨rfl, rfl, rfl⟩ : y = y' ∧ m = m' ∧ d = d' := by omega
    omega
theorem lexL_iff (y m d h i s u y' m' d' h' i' s' u' : Int) : lexL [y, m, d, h, i, s, u] [y', m', d', h', i', s', u'] = true ↔ (y < y' ∨ y = y' ∧ (m < m' ∨ m = m' ∧ (d < d' ∨ d = d' ∧ (h < h' ∨ h = h' ∧ (i < i' ∨ i = i' ∧ (s < s' ∨ s = s' ∧ u < u')))))) := by
  simp [lexL]
theorem micros_less {y m d h i s u y' m' d' h' i' s' u' : Int} (hr : rightB y m d h i s u = true) (hr' : rightB y' m' d' h' i' s' u' = true) :
    decide (microsZ y m d h i s u < microsZ y' m' d' h' i' s' u') = lexL [y, m, d, h, i, s, u] [y', m', d', h', i', s', u'] := by
  rw [Bool.eq_iff_iff, decide_eq_true_eq, lexL_iff]
  constructor
  · intro hlt
    apply Classical.byContradiction
    intro hn
    by_cases e : y = y' ∧ m = m' ∧ d = d' ∧ h = h' ∧ i = i' ∧ s = s' ∧ u = u'
    · obtain ⟨rfl, rfl, rfl, rfl, rfl, rfl, rfl⟩ := e; omega
    · have := micros_lt hr' hr (by omega)
      omega
  · exact micros_lt hr hr'
theorem arr7_get (y m d h i s u : Int) (n : Nat) (hn : n < 7) : (#[.int .i64 y, .int .i64 m, .int .i64 d, .int .i64 h, .int .i64 i, .int .i64 s, .int .i64 u] : Array Value)[n]? = some (.int .i64 ([y, m, d, h, i, s, u].getD n 0)) := by
  match n, hn with
  | 0, _ => rfl
  | 1, _ => rfl
  | 2, _ => rfl
  | 3, _ => rfl
  | 4, _ => rfl
  | 5, _ => rfl
  | 6, _ => rfl

set_option maxHeartbeats 8000000 in
set_option maxRecDepth 100000 in
theorem CivilOrders_true (y m d h i s u y' m' d' h' i' s' u' : Int) (w : World) (hr : rightB y m d h i s u = true) (hr' : rightB y' m' d' h' i' s' u' = true) (hl : lexL [y, m, d, h, i, s, u] [y', m', d', h', i', s', u'] = true) :
    Calls Try.prog 6 #[.agg #[.int .i64 y, .int .i64 m, .int .i64 d, .int .i64 h, .int .i64 i, .int .i64 s, .int .i64 u], .agg #[.int .i64 y', .int .i64 m', .int .i64 d', .int .i64 h', .int .i64 i', .int .i64 s', .int .i64 u']] w fun e w' => e = .returned (.bool true) ∧ Below w.heap.size w w' := by
  have HR := Aside0.mk hr
  have HR' := Aside0.mk hr'
  have HTL := Aside0.mk ((textS_less hr hr').trans hl)
  have HML := Aside0.mk ((micros_less hr hr').trans hl)
  have HLL := Aside0.mk hl
  obtain ⟨la, hla⟩ : ∃ l, [y, m, d, h, i, s, u] = l := ⟨_, rfl⟩
  obtain ⟨lb, hlb⟩ : ∃ l, [y', m', d', h', i', s', u'] = l := ⟨_, rfl⟩
  have HLA := Aside0.mk (show la.length = 7 by rw [← hla]; rfl)
  have HLB := Aside0.mk (show lb.length = 7 by rw [← hlb]; rfl)
  have HGA := Aside0.mk (show ∀ n, n < 7 → (#[.int .i64 y, .int .i64 m, .int .i64 d, .int .i64 h, .int .i64 i, .int .i64 s, .int .i64 u] : Array Value)[n]? = some (.int .i64 (la.getD n 0)) by intro n hn; rw [← hla]; exact arr7_get _ _ _ _ _ _ _ n hn)
  have HGB := Aside0.mk (show ∀ n, n < 7 → (#[.int .i64 y', .int .i64 m', .int .i64 d', .int .i64 h', .int .i64 i', .int .i64 s', .int .i64 u'] : Array Value)[n]? = some (.int .i64 (lb.getD n 0)) by intro n hn; rw [← hlb]; exact arr7_get _ _ _ _ _ _ _ n hn)
  rw [hla, hlb] at HLL
  clear hr hr' hl hla hlb
  have HX0 := Aside0.mk (blk_below (blk_new w (.cells #[.int .i64 y, .int .i64 m, .int .i64 d, .int .i64 h, .int .i64 i, .int .i64 s, .int .i64 u] 31)) (below_alloc (Below.refl _ _) (.cells #[.int .i64 y', .int .i64 m', .int .i64 d', .int .i64 h', .int .i64 i', .int .i64 s', .int .i64 u'] 31)))
  have HY0 := Aside0.mk (blk_new (w.alloc (.cells #[.int .i64 y, .int .i64 m, .int .i64 d, .int .i64 h, .int .i64 i, .int .i64 s, .int .i64 u] 31)) (.cells #[.int .i64 y', .int .i64 m', .int .i64 d', .int .i64 h', .int .i64 i', .int .i64 s', .int .i64 u'] 31))
  rw [show (w.alloc (.cells #[.int .i64 y, .int .i64 m, .int .i64 d, .int .i64 h, .int .i64 i, .int .i64 s, .int .i64 u] 31)).heap.size = w.heap.size + 1 from Array.size_push _] at HY0
  have HB0 := Aside0.mk (below_alloc (below_alloc (Below.refl w.heap.size w) (.cells #[.int .i64 y, .int .i64 m, .int .i64 d, .int .i64 h, .int .i64 i, .int .i64 s, .int .i64 u] 31)) (.cells #[.int .i64 y', .int .i64 m', .int .i64 d', .int .i64 h', .int .i64 i', .int .i64 s', .int .i64 u'] 31))
  have z0 : ((w.alloc (.cells #[.int .i64 y, .int .i64 m, .int .i64 d, .int .i64 h, .int .i64 i, .int .i64 s, .int .i64 u] 31)).alloc (.cells #[.int .i64 y', .int .i64 m', .int .i64 d', .int .i64 h', .int .i64 i', .int .i64 s', .int .i64 u'] 31)).cell? ⟨w.heap.size, 0, none⟩ = some (.int .i64 y) := blk_cell HX0.out 0
  have z1 : ((w.alloc (.cells #[.int .i64 y, .int .i64 m, .int .i64 d, .int .i64 h, .int .i64 i, .int .i64 s, .int .i64 u] 31)).alloc (.cells #[.int .i64 y', .int .i64 m', .int .i64 d', .int .i64 h', .int .i64 i', .int .i64 s', .int .i64 u'] 31)).cell? ⟨w.heap.size, 1, none⟩ = some (.int .i64 m) := blk_cell HX0.out 1
  have z2 : ((w.alloc (.cells #[.int .i64 y, .int .i64 m, .int .i64 d, .int .i64 h, .int .i64 i, .int .i64 s, .int .i64 u] 31)).alloc (.cells #[.int .i64 y', .int .i64 m', .int .i64 d', .int .i64 h', .int .i64 i', .int .i64 s', .int .i64 u'] 31)).cell? ⟨w.heap.size, 2, none⟩ = some (.int .i64 d) := blk_cell HX0.out 2
  have z3 : ((w.alloc (.cells #[.int .i64 y, .int .i64 m, .int .i64 d, .int .i64 h, .int .i64 i, .int .i64 s, .int .i64 u] 31)).alloc (.cells #[.int .i64 y', .int .i64 m', .int .i64 d', .int .i64 h', .int .i64 i', .int .i64 s', .int .i64 u'] 31)).cell? ⟨w.heap.size, 3, none⟩ = some (.int .i64 h) := blk_cell HX0.out 3
  have z4 : ((w.alloc (.cells #[.int .i64 y, .int .i64 m, .int .i64 d, .int .i64 h, .int .i64 i, .int .i64 s, .int .i64 u] 31)).alloc (.cells #[.int .i64 y', .int .i64 m', .int .i64 d', .int .i64 h', .int .i64 i', .int .i64 s', .int .i64 u'] 31)).cell? ⟨w.heap.size, 4, none⟩ = some (.int .i64 i) := blk_cell HX0.out 4
  have z5 : ((w.alloc (.cells #[.int .i64 y, .int .i64 m, .int .i64 d, .int .i64 h, .int .i64 i, .int .i64 s, .int .i64 u] 31)).alloc (.cells #[.int .i64 y', .int .i64 m', .int .i64 d', .int .i64 h', .int .i64 i', .int .i64 s', .int .i64 u'] 31)).cell? ⟨w.heap.size, 5, none⟩ = some (.int .i64 s) := blk_cell HX0.out 5
  have z6 : ((w.alloc (.cells #[.int .i64 y, .int .i64 m, .int .i64 d, .int .i64 h, .int .i64 i, .int .i64 s, .int .i64 u] 31)).alloc (.cells #[.int .i64 y', .int .i64 m', .int .i64 d', .int .i64 h', .int .i64 i', .int .i64 s', .int .i64 u'] 31)).cell? ⟨w.heap.size, 6, none⟩ = some (.int .i64 u) := blk_cell HX0.out 6
  have q0 : ((w.alloc (.cells #[.int .i64 y, .int .i64 m, .int .i64 d, .int .i64 h, .int .i64 i, .int .i64 s, .int .i64 u] 31)).alloc (.cells #[.int .i64 y', .int .i64 m', .int .i64 d', .int .i64 h', .int .i64 i', .int .i64 s', .int .i64 u'] 31)).cell? ⟨w.heap.size + 1, 0, none⟩ = some (.int .i64 y') := blk_cell HY0.out 0
  have q1 : ((w.alloc (.cells #[.int .i64 y, .int .i64 m, .int .i64 d, .int .i64 h, .int .i64 i, .int .i64 s, .int .i64 u] 31)).alloc (.cells #[.int .i64 y', .int .i64 m', .int .i64 d', .int .i64 h', .int .i64 i', .int .i64 s', .int .i64 u'] 31)).cell? ⟨w.heap.size + 1, 1, none⟩ = some (.int .i64 m') := blk_cell HY0.out 1
  have q2 : ((w.alloc (.cells #[.int .i64 y, .int .i64 m, .int .i64 d, .int .i64 h, .int .i64 i, .int .i64 s, .int .i64 u] 31)).alloc (.cells #[.int .i64 y', .int .i64 m', .int .i64 d', .int .i64 h', .int .i64 i', .int .i64 s', .int .i64 u'] 31)).cell? ⟨w.heap.size + 1, 2, none⟩ = some (.int .i64 d') := blk_cell HY0.out 2
  have q3 : ((w.alloc (.cells #[.int .i64 y, .int .i64 m, .int .i64 d, .int .i64 h, .int .i64 i, .int .i64 s, .int .i64 u] 31)).alloc (.cells #[.int .i64 y', .int .i64 m', .int .i64 d', .int .i64 h', .int .i64 i', .int .i64 s', .int .i64 u'] 31)).cell? ⟨w.heap.size + 1, 3, none⟩ = some (.int .i64 h') := blk_cell HY0.out 3
  have q4 : ((w.alloc (.cells #[.int .i64 y, .int .i64 m, .int .i64 d, .int .i64 h, .int .i64 i, .int .i64 s, .int .i64 u] 31)).alloc (.cells #[.int .i64 y', .int .i64 m', .int .i64 d', .int .i64 h', .int .i64 i', .int .i64 s', .int .i64 u'] 31)).cell? ⟨w.heap.size + 1, 4, none⟩ = some (.int .i64 i') := blk_cell HY0.out 4
  have q5 : ((w.alloc (.cells #[.int .i64 y, .int .i64 m, .int .i64 d, .int .i64 h, .int .i64 i, .int .i64 s, .int .i64 u] 31)).alloc (.cells #[.int .i64 y', .int .i64 m', .int .i64 d', .int .i64 h', .int .i64 i', .int .i64 s', .int .i64 u'] 31)).cell? ⟨w.heap.size + 1, 5, none⟩ = some (.int .i64 s') := blk_cell HY0.out 5
  have q6 : ((w.alloc (.cells #[.int .i64 y, .int .i64 m, .int .i64 d, .int .i64 h, .int .i64 i, .int .i64 s, .int .i64 u] 31)).alloc (.cells #[.int .i64 y', .int .i64 m', .int .i64 d', .int .i64 h', .int .i64 i', .int .i64 s', .int .i64 u'] 31)).cell? ⟨w.heap.size + 1, 6, none⟩ = some (.int .i64 u') := blk_cell HY0.out 6
  go_enter Try.func6, Try.ntmps6
  go_wp2_with fail
  refine (ref_Right_calls y m d h i s u _).mono ?_
  rintro e w1 ⟨rfl, hb⟩
  have HB1 := Aside0.mk (below_step HB0.out hb)
  have HX1 := Aside0.mk (blk_below HX0.out hb)
  have HY1 := Aside0.mk (blk_below HY0.out hb)
  clear hb z0 z1 z2 z3 z4 z5 z6 q0 q1 q2 q3 q4 q5 q6
  rw [HR.out]
  have z0 : (w1).cell? ⟨w.heap.size, 0, none⟩ = some (.int .i64 y) := blk_cell HX1.out 0
  have z1 : (w1).cell? ⟨w.heap.size, 1, none⟩ = some (.int .i64 m) := blk_cell HX1.out 1
  have z2 : (w1).cell? ⟨w.heap.size, 2, none⟩ = some (.int .i64 d) := blk_cell HX1.out 2
  have z3 : (w1).cell? ⟨w.heap.size, 3, none⟩ = some (.int .i64 h) := blk_cell HX1.out 3
  have z4 : (w1).cell? ⟨w.heap.size, 4, none⟩ = some (.int .i64 i) := blk_cell HX1.out 4
  have z5 : (w1).cell? ⟨w.heap.size, 5, none⟩ = some (.int .i64 s) := blk_cell HX1.out 5
  have z6 : (w1).cell? ⟨w.heap.size, 6, none⟩ = some (.int .i64 u) := blk_cell HX1.out 6
  have q0 : (w1).cell? ⟨w.heap.size + 1, 0, none⟩ = some (.int .i64 y') := blk_cell HY1.out 0
  have q1 : (w1).cell? ⟨w.heap.size + 1, 1, none⟩ = some (.int .i64 m') := blk_cell HY1.out 1
  have q2 : (w1).cell? ⟨w.heap.size + 1, 2, none⟩ = some (.int .i64 d') := blk_cell HY1.out 2
  have q3 : (w1).cell? ⟨w.heap.size + 1, 3, none⟩ = some (.int .i64 h') := blk_cell HY1.out 3
  have q4 : (w1).cell? ⟨w.heap.size + 1, 4, none⟩ = some (.int .i64 i') := blk_cell HY1.out 4
  have q5 : (w1).cell? ⟨w.heap.size + 1, 5, none⟩ = some (.int .i64 s') := blk_cell HY1.out 5
  have q6 : (w1).cell? ⟨w.heap.size + 1, 6, none⟩ = some (.int .i64 u') := blk_cell HY1.out 6
  go_wp2_with fail
  refine (ref_Right_calls y' m' d' h' i' s' u' _).mono ?_
  rintro e w2 ⟨rfl, hb⟩
  have HB2 := Aside0.mk (below_step HB1.out hb)
  have HX2 := Aside0.mk (blk_below HX1.out hb)
  have HY2 := Aside0.mk (blk_below HY1.out hb)
  clear hb z0 z1 z2 z3 z4 z5 z6 q0 q1 q2 q3 q4 q5 q6
  rw [HR'.out]
  have z0 : (w2).cell? ⟨w.heap.size, 0, none⟩ = some (.int .i64 y) := blk_cell HX2.out 0
  have z1 : (w2).cell? ⟨w.heap.size, 1, none⟩ = some (.int .i64 m) := blk_cell HX2.out 1
  have z2 : (w2).cell? ⟨w.heap.size, 2, none⟩ = some (.int .i64 d) := blk_cell HX2.out 2
  have z3 : (w2).cell? ⟨w.heap.size, 3, none⟩ = some (.int .i64 h) := blk_cell HX2.out 3
  have z4 : (w2).cell? ⟨w.heap.size, 4, none⟩ = some (.int .i64 i) := blk_cell HX2.out 4
  have z5 : (w2).cell? ⟨w.heap.size, 5, none⟩ = some (.int .i64 s) := blk_cell HX2.out 5
  have z6 : (w2).cell? ⟨w.heap.size, 6, none⟩ = some (.int .i64 u) := blk_cell HX2.out 6
  have q0 : (w2).cell? ⟨w.heap.size + 1, 0, none⟩ = some (.int .i64 y') := blk_cell HY2.out 0
  have q1 : (w2).cell? ⟨w.heap.size + 1, 1, none⟩ = some (.int .i64 m') := blk_cell HY2.out 1
  have q2 : (w2).cell? ⟨w.heap.size + 1, 2, none⟩ = some (.int .i64 d') := blk_cell HY2.out 2
  have q3 : (w2).cell? ⟨w.heap.size + 1, 3, none⟩ = some (.int .i64 h') := blk_cell HY2.out 3
  have q4 : (w2).cell? ⟨w.heap.size + 1, 4, none⟩ = some (.int .i64 i') := blk_cell HY2.out 4
  have q5 : (w2).cell? ⟨w.heap.size + 1, 5, none⟩ = some (.int .i64 s') := blk_cell HY2.out 5
  have q6 : (w2).cell? ⟨w.heap.size + 1, 6, none⟩ = some (.int .i64 u') := blk_cell HY2.out 6
  go_wp2_with fail
  refine (civ_to_calls y m d h i s u _).mono ?_
  rintro e w3 ⟨rfl, hb⟩
  have HB3 := Aside0.mk (below_step HB2.out hb)
  have HX3 := Aside0.mk (blk_below HX2.out hb)
  have HY3 := Aside0.mk (blk_below HY2.out hb)
  clear hb z0 z1 z2 z3 z4 z5 z6 q0 q1 q2 q3 q4 q5 q6
  have z0 : (w3).cell? ⟨w.heap.size, 0, none⟩ = some (.int .i64 y) := blk_cell HX3.out 0
  have z1 : (w3).cell? ⟨w.heap.size, 1, none⟩ = some (.int .i64 m) := blk_cell HX3.out 1
  have z2 : (w3).cell? ⟨w.heap.size, 2, none⟩ = some (.int .i64 d) := blk_cell HX3.out 2
  have z3 : (w3).cell? ⟨w.heap.size, 3, none⟩ = some (.int .i64 h) := blk_cell HX3.out 3
  have z4 : (w3).cell? ⟨w.heap.size, 4, none⟩ = some (.int .i64 i) := blk_cell HX3.out 4
  have z5 : (w3).cell? ⟨w.heap.size, 5, none⟩ = some (.int .i64 s) := blk_cell HX3.out 5
  have z6 : (w3).cell? ⟨w.heap.size, 6, none⟩ = some (.int .i64 u) := blk_cell HX3.out 6
  have q0 : (w3).cell? ⟨w.heap.size + 1, 0, none⟩ = some (.int .i64 y') := blk_cell HY3.out 0
  have q1 : (w3).cell? ⟨w.heap.size + 1, 1, none⟩ = some (.int .i64 m') := blk_cell HY3.out 1
  have q2 : (w3).cell? ⟨w.heap.size + 1, 2, none⟩ = some (.int .i64 d') := blk_cell HY3.out 2
  have q3 : (w3).cell? ⟨w.heap.size + 1, 3, none⟩ = some (.int .i64 h') := blk_cell HY3.out 3
  have q4 : (w3).cell? ⟨w.heap.size + 1, 4, none⟩ = some (.int .i64 i') := blk_cell HY3.out 4
  have q5 : (w3).cell? ⟨w.heap.size + 1, 5, none⟩ = some (.int .i64 s') := blk_cell HY3.out 5
  have q6 : (w3).cell? ⟨w.heap.size + 1, 6, none⟩ = some (.int .i64 u') := blk_cell HY3.out 6
  go_wp2_with fail
  refine (civil_Micros_yes y m d h i s u _ HR.out).mono ?_
  rintro e w4 ⟨rfl, hb⟩
  have HB4 := Aside0.mk (below_step HB3.out hb)
  have HX4 := Aside0.mk (blk_below HX3.out hb)
  have HY4 := Aside0.mk (blk_below HY3.out hb)
  obtain ⟨M, hM⟩ : ∃ M, microsZ y m d h i s u = M := ⟨_, rfl⟩
  rw [hM] at HML ⊢
  clear hM
  clear hb z0 z1 z2 z3 z4 z5 z6 q0 q1 q2 q3 q4 q5 q6
  have z0 : (w4).cell? ⟨w.heap.size, 0, none⟩ = some (.int .i64 y) := blk_cell HX4.out 0
  have z1 : (w4).cell? ⟨w.heap.size, 1, none⟩ = some (.int .i64 m) := blk_cell HX4.out 1
  have z2 : (w4).cell? ⟨w.heap.size, 2, none⟩ = some (.int .i64 d) := blk_cell HX4.out 2
  have z3 : (w4).cell? ⟨w.heap.size, 3, none⟩ = some (.int .i64 h) := blk_cell HX4.out 3
  have z4 : (w4).cell? ⟨w.heap.size, 4, none⟩ = some (.int .i64 i) := blk_cell HX4.out 4
  have z5 : (w4).cell? ⟨w.heap.size, 5, none⟩ = some (.int .i64 s) := blk_cell HX4.out 5
  have z6 : (w4).cell? ⟨w.heap.size, 6, none⟩ = some (.int .i64 u) := blk_cell HX4.out 6
  have q0 : (w4).cell? ⟨w.heap.size + 1, 0, none⟩ = some (.int .i64 y') := blk_cell HY4.out 0
  have q1 : (w4).cell? ⟨w.heap.size + 1, 1, none⟩ = some (.int .i64 m') := blk_cell HY4.out 1
  have q2 : (w4).cell? ⟨w.heap.size + 1, 2, none⟩ = some (.int .i64 d') := blk_cell HY4.out 2
  have q3 : (w4).cell? ⟨w.heap.size + 1, 3, none⟩ = some (.int .i64 h') := blk_cell HY4.out 3
  have q4 : (w4).cell? ⟨w.heap.size + 1, 4, none⟩ = some (.int .i64 i') := blk_cell HY4.out 4
  have q5 : (w4).cell? ⟨w.heap.size + 1, 5, none⟩ = some (.int .i64 s') := blk_cell HY4.out 5
  have q6 : (w4).cell? ⟨w.heap.size + 1, 6, none⟩ = some (.int .i64 u') := blk_cell HY4.out 6
  go_wp2_with fail
  refine (civ_to_calls y' m' d' h' i' s' u' _).mono ?_
  rintro e w5 ⟨rfl, hb⟩
  have HB5 := Aside0.mk (below_step HB4.out hb)
  have HX5 := Aside0.mk (blk_below HX4.out hb)
  have HY5 := Aside0.mk (blk_below HY4.out hb)
  clear hb z0 z1 z2 z3 z4 z5 z6 q0 q1 q2 q3 q4 q5 q6
  have z0 : (w5).cell? ⟨w.heap.size, 0, none⟩ = some (.int .i64 y) := blk_cell HX5.out 0
  have z1 : (w5).cell? ⟨w.heap.size, 1, none⟩ = some (.int .i64 m) := blk_cell HX5.out 1
  have z2 : (w5).cell? ⟨w.heap.size, 2, none⟩ = some (.int .i64 d) := blk_cell HX5.out 2
  have z3 : (w5).cell? ⟨w.heap.size, 3, none⟩ = some (.int .i64 h) := blk_cell HX5.out 3
  have z4 : (w5).cell? ⟨w.heap.size, 4, none⟩ = some (.int .i64 i) := blk_cell HX5.out 4
  have z5 : (w5).cell? ⟨w.heap.size, 5, none⟩ = some (.int .i64 s) := blk_cell HX5.out 5
  have z6 : (w5).cell? ⟨w.heap.size, 6, none⟩ = some (.int .i64 u) := blk_cell HX5.out 6
  have q0 : (w5).cell? ⟨w.heap.size + 1, 0, none⟩ = some (.int .i64 y') := blk_cell HY5.out 0
  have q1 : (w5).cell? ⟨w.heap.size + 1, 1, none⟩ = some (.int .i64 m') := blk_cell HY5.out 1
  have q2 : (w5).cell? ⟨w.heap.size + 1, 2, none⟩ = some (.int .i64 d') := blk_cell HY5.out 2
  have q3 : (w5).cell? ⟨w.heap.size + 1, 3, none⟩ = some (.int .i64 h') := blk_cell HY5.out 3
  have q4 : (w5).cell? ⟨w.heap.size + 1, 4, none⟩ = some (.int .i64 i') := blk_cell HY5.out 4
  have q5 : (w5).cell? ⟨w.heap.size + 1, 5, none⟩ = some (.int .i64 s') := blk_cell HY5.out 5
  have q6 : (w5).cell? ⟨w.heap.size + 1, 6, none⟩ = some (.int .i64 u') := blk_cell HY5.out 6
  go_wp2_with fail
  refine (civil_Micros_yes y' m' d' h' i' s' u' _ HR'.out).mono ?_
  rintro e w6 ⟨rfl, hb⟩
  have HB6 := Aside0.mk (below_step HB5.out hb)
  have HX6 := Aside0.mk (blk_below HX5.out hb)
  have HY6 := Aside0.mk (blk_below HY5.out hb)
  obtain ⟨N, hN⟩ : ∃ N, microsZ y' m' d' h' i' s' u' = N := ⟨_, rfl⟩
  rw [hN] at HML ⊢
  clear hN
  clear hb z0 z1 z2 z3 z4 z5 z6 q0 q1 q2 q3 q4 q5 q6
  have z0 : (w6).cell? ⟨w.heap.size, 0, none⟩ = some (.int .i64 y) := blk_cell HX6.out 0
  have z1 : (w6).cell? ⟨w.heap.size, 1, none⟩ = some (.int .i64 m) := blk_cell HX6.out 1
  have z2 : (w6).cell? ⟨w.heap.size, 2, none⟩ = some (.int .i64 d) := blk_cell HX6.out 2
  have z3 : (w6).cell? ⟨w.heap.size, 3, none⟩ = some (.int .i64 h) := blk_cell HX6.out 3
  have z4 : (w6).cell? ⟨w.heap.size, 4, none⟩ = some (.int .i64 i) := blk_cell HX6.out 4
  have z5 : (w6).cell? ⟨w.heap.size, 5, none⟩ = some (.int .i64 s) := blk_cell HX6.out 5
  have z6 : (w6).cell? ⟨w.heap.size, 6, none⟩ = some (.int .i64 u) := blk_cell HX6.out 6
  have q0 : (w6).cell? ⟨w.heap.size + 1, 0, none⟩ = some (.int .i64 y') := blk_cell HY6.out 0
  have q1 : (w6).cell? ⟨w.heap.size + 1, 1, none⟩ = some (.int .i64 m') := blk_cell HY6.out 1
  have q2 : (w6).cell? ⟨w.heap.size + 1, 2, none⟩ = some (.int .i64 d') := blk_cell HY6.out 2
  have q3 : (w6).cell? ⟨w.heap.size + 1, 3, none⟩ = some (.int .i64 h') := blk_cell HY6.out 3
  have q4 : (w6).cell? ⟨w.heap.size + 1, 4, none⟩ = some (.int .i64 i') := blk_cell HY6.out 4
  have q5 : (w6).cell? ⟨w.heap.size + 1, 5, none⟩ = some (.int .i64 s') := blk_cell HY6.out 5
  have q6 : (w6).cell? ⟨w.heap.size + 1, 6, none⟩ = some (.int .i64 u') := blk_cell HY6.out 6
  go_wp2_with fail
  clear z0 z1 z2 z3 z4 z5 z6 q0 q1 q2 q3 q4 q5 q6
  go_loopw [9, 10] (fun v9 v10 w' => ∃ k : Int, -1 ≤ k ∧ k ≤ 6 ∧ v10 = .int .i64 k ∧ v9 = .bool (lexL (la.drop (k + 1).toNat) (lb.drop (k + 1).toNat)) ∧ Aside0 (w'.heap[w.heap.size]? = some (.cells #[.int .i64 y, .int .i64 m, .int .i64 d, .int .i64 h, .int .i64 i, .int .i64 s, .int .i64 u] 31 (0, 0))) ∧ Aside0 (w'.heap[w.heap.size + 1]? = some (.cells #[.int .i64 y', .int .i64 m', .int .i64 d', .int .i64 h', .int .i64 i', .int .i64 s', .int .i64 u'] 31 (0, 0))) ∧ Aside0 (Below w.heap.size w w')) (fun _ v10 _ => (intOf v10 + 1).toNat)
  case atStart => exact ⟨6, by omega, by omega, rfl, by rw [List.drop_eq_nil_of_le (by have := HLA.out; omega)]; rfl, HX6, HY6, HB6⟩
  case round =>
    clear HX6 HY6 HB6
    obtain ⟨k, k0, k1, rfl, rfl, HX, HY, HB⟩ := hrel
    by_cases c : 0 ≤ k
    · obtain ⟨n, rfl⟩ := Int.eq_ofNat_of_zero_le c
      have hn7 : n < 7 := by omega
      have HD := Aside0.mk (lexL_drop (a := la) (b := lb) (n := n) (by rw [HLA.out]; omega) (by rw [HLB.out]; omega))
      have z1 := (blk_cell HX.out n).trans (HGA.out n hn7)
      have z2 := (blk_cell HY.out n).trans (HGB.out n hn7)
      obtain ⟨x, hx⟩ : ∃ x, la.getD n 0 = x := ⟨_, rfl⟩
      obtain ⟨x', hx'⟩ : ∃ x, lb.getD n 0 = x := ⟨_, rfl⟩
      rw [hx] at z1 HD
      rw [hx'] at z2 HD
      obtain ⟨L, hL⟩ : ∃ L, lexL (la.drop ((n : Int) + 1).toNat) (lb.drop ((n : Int) + 1).toNat) = L := ⟨_, rfl⟩
      rw [show n + 1 = ((n : Int) + 1).toNat by omega, hL] at HD
      rw [hL]
      have HN := Aside0.mk (show ((n : Int) - 1 + 1).toNat = n by omega)
      clear hx hx' hL
      rcases Int.lt_trichotomy x x' with hlt | heq | hgt
      · have HE := Aside0.mk (show lexL (la.drop n) (lb.drop n) = true by rw [HD.out, decide_eq_true hlt]; rfl)
        have t1 : decide (x < x') = true := decide_eq_true hlt
        clear hlt
        go_wp2_with fail
        go_quiet (fail)
        go_wp2_with fail
        go_roundw
        case rel => exact ⟨(n : Int) - 1, by omega, by omega, by first | rfl | go_num, by rw [HN.out, HE.out], ⟨by simpa using HX.out⟩, ⟨by simpa using HY.out⟩, ⟨pw_below_drewN HB.out _⟩⟩
        case measure => simp [intOf] <;> omega
      · have HE := Aside0.mk (show lexL (la.drop n) (lb.drop n) = L by rw [HD.out, decide_eq_false (show ¬ x < x' by omega), decide_eq_true heq]; simp)
        have t1 : decide (x < x') = false := by simp; omega
        have t2 : (x == x') = true := by simpa using heq
        clear heq
        go_wp2_with fail
        go_quiet (fail)
        go_wp2_with fail
        go_roundw
        case rel => exact ⟨(n : Int) - 1, by omega, by omega, by first | rfl | go_num, by rw [HN.out, HE.out], ⟨by simpa using HX.out⟩, ⟨by simpa using HY.out⟩, ⟨pw_below_drewN HB.out _⟩⟩
        case measure => simp [intOf] <;> omega
      · have HE := Aside0.mk (show lexL (la.drop n) (lb.drop n) = false by rw [HD.out, decide_eq_false (show ¬ x < x' by omega), decide_eq_false (show ¬ x = x' by omega)]; rfl)
        have t1 : decide (x < x') = false := by simp; omega
        have t2 : (x == x') = false := by rw [beq_eq_false_iff_ne]; omega
        clear hgt
        go_wp2_with fail
        go_quiet (fail)
        go_wp2_with fail
        go_roundw
        case rel => exact ⟨(n : Int) - 1, by omega, by omega, by first | rfl | go_num, by rw [HN.out, HE.out], ⟨by simpa using HX.out⟩, ⟨by simpa using HY.out⟩, ⟨pw_below_drewN HB.out _⟩⟩
        case measure => simp [intOf] <;> omega
    · obtain rfl : k = -1 := by omega
      rw [show ((-1 : Int) + 1).toNat = 0 from rfl, List.drop_zero, List.drop_zero, HLL.out]
      have t1 := HML.out
      have t2 := HTL.out
      obtain ⟨S1, hS1⟩ : ∃ S1, textS y m d h i s u = S1 := ⟨_, rfl⟩
      obtain ⟨S2, hS2⟩ : ∃ S2, textS y' m' d' h' i' s' u' = S2 := ⟨_, rfl⟩
      rw [hS1, hS2] at t2
      have HS1 := Aside0.mk hS1
      have HS2 := Aside0.mk hS2
      clear hS1 hS2
      go_wp2_with fail
      have z0 : (wr).cell? ⟨w.heap.size, 0, none⟩ = some (.int .i64 y) := blk_cell HX.out 0
      have z1 : (wr).cell? ⟨w.heap.size, 1, none⟩ = some (.int .i64 m) := blk_cell HX.out 1
      have z2 : (wr).cell? ⟨w.heap.size, 2, none⟩ = some (.int .i64 d) := blk_cell HX.out 2
      have z3 : (wr).cell? ⟨w.heap.size, 3, none⟩ = some (.int .i64 h) := blk_cell HX.out 3
      have z4 : (wr).cell? ⟨w.heap.size, 4, none⟩ = some (.int .i64 i) := blk_cell HX.out 4
      have z5 : (wr).cell? ⟨w.heap.size, 5, none⟩ = some (.int .i64 s) := blk_cell HX.out 5
      have z6 : (wr).cell? ⟨w.heap.size, 6, none⟩ = some (.int .i64 u) := blk_cell HX.out 6
      have q0 : (wr).cell? ⟨w.heap.size + 1, 0, none⟩ = some (.int .i64 y') := blk_cell HY.out 0
      have q1 : (wr).cell? ⟨w.heap.size + 1, 1, none⟩ = some (.int .i64 m') := blk_cell HY.out 1
      have q2 : (wr).cell? ⟨w.heap.size + 1, 2, none⟩ = some (.int .i64 d') := blk_cell HY.out 2
      have q3 : (wr).cell? ⟨w.heap.size + 1, 3, none⟩ = some (.int .i64 h') := blk_cell HY.out 3
      have q4 : (wr).cell? ⟨w.heap.size + 1, 4, none⟩ = some (.int .i64 i') := blk_cell HY.out 4
      have q5 : (wr).cell? ⟨w.heap.size + 1, 5, none⟩ = some (.int .i64 s') := blk_cell HY.out 5
      have q6 : (wr).cell? ⟨w.heap.size + 1, 6, none⟩ = some (.int .i64 u') := blk_cell HY.out 6
      refine start_ (n := 20) (S := fun w' => w'.cell? ⟨w.heap.size, 0, none⟩ = some (.int .i64 y) ∧ w'.cell? ⟨w.heap.size, 1, none⟩ = some (.int .i64 m) ∧ w'.cell? ⟨w.heap.size, 2, none⟩ = some (.int .i64 d) ∧ w'.cell? ⟨w.heap.size, 3, none⟩ = some (.int .i64 h) ∧ w'.cell? ⟨w.heap.size, 4, none⟩ = some (.int .i64 i) ∧ w'.cell? ⟨w.heap.size, 5, none⟩ = some (.int .i64 s) ∧ w'.cell? ⟨w.heap.size, 6, none⟩ = some (.int .i64 u) ∧ w'.cell? ⟨w.heap.size + 1, 0, none⟩ = some (.int .i64 y') ∧ w'.cell? ⟨w.heap.size + 1, 1, none⟩ = some (.int .i64 m') ∧ w'.cell? ⟨w.heap.size + 1, 2, none⟩ = some (.int .i64 d') ∧ w'.cell? ⟨w.heap.size + 1, 3, none⟩ = some (.int .i64 h') ∧ w'.cell? ⟨w.heap.size + 1, 4, none⟩ = some (.int .i64 i') ∧ w'.cell? ⟨w.heap.size + 1, 5, none⟩ = some (.int .i64 s') ∧ w'.cell? ⟨w.heap.size + 1, 6, none⟩ = some (.int .i64 u')) (ds := []) #[false, false, false, false, false, false, false, false, false, false, false, false, false, false, false, false, false, false, false, false] (by kernel_rfl) rfl rfl ⟨z0, z1, z2, z3, z4, z5, z6, q0, q1, q2, q3, q4, q5, q6⟩ (fun hHeld => ?_)
      refine pure_ (i := 0) (N := some 55) (v := ?_) (a' := ?_) #[true, false, false, false, false, false, false, false, false, false, false, false, false, false, false, false, false, false, false, false] rfl rfl (by kernel_rfl) (fun _ _ _ h => h) (Or.inl ⟨by rfl, ?_⟩) ?_ ?_
      rotate_left
      · intro w'
        go_simp
        with_reducible rfl
      rotate_left
      · simp only [Act.put, List.setIfInBounds_toArray, List.set_cons_zero, List.set_cons_succ, i64_w, i32_w]
        rfl
      refine pure_ (i := 1) (N := some 56) (v := ?_) (a' := ?_) #[true, true, false, false, false, false, false, false, false, false, false, false, false, false, false, false, false, false, false, false] rfl rfl (by kernel_rfl) (fun _ _ _ h => h) (Or.inl ⟨by rfl, ?_⟩) ?_ ?_
      rotate_left
      · intro w'
        go_simp
        with_reducible rfl
      rotate_left
      · simp only [Act.put, List.setIfInBounds_toArray, List.set_cons_zero, List.set_cons_succ, i64_w, i32_w]
        rfl
      refine pure_ (i := 2) (N := some 57) (v := ?_) (a' := ?_) #[true, true, true, false, false, false, false, false, false, false, false, false, false, false, false, false, false, false, false, false] rfl rfl (by kernel_rfl) (fun _ _ _ h => h) (Or.inl ⟨by rfl, ?_⟩) ?_ ?_
      rotate_left
      · intro w'
        go_simp
        with_reducible rfl
      rotate_left
      · simp only [Act.put, List.setIfInBounds_toArray, List.set_cons_zero, List.set_cons_succ, i64_w, i32_w]
        rfl
      refine pure_ (i := 3) (N := some 58) (v := ?_) (a' := ?_) #[true, true, true, true, false, false, false, false, false, false, false, false, false, false, false, false, false, false, false, false] rfl rfl (by kernel_rfl) (fun _ _ _ h => h) (Or.inl ⟨by rfl, ?_⟩) ?_ ?_
      rotate_left
      · intro w'
        go_simp
        with_reducible rfl
      rotate_left
      · simp only [Act.put, List.setIfInBounds_toArray, List.set_cons_zero, List.set_cons_succ, i64_w, i32_w]
        rfl
      refine pure_ (i := 4) (N := some 59) (v := ?_) (a' := ?_) #[true, true, true, true, true, false, false, false, false, false, false, false, false, false, false, false, false, false, false, false] rfl rfl (by kernel_rfl) (fun _ _ _ h => h) (Or.inl ⟨by rfl, ?_⟩) ?_ ?_
      rotate_left
      · intro w'
        go_simp
        with_reducible rfl
      rotate_left
      · simp only [Act.put, List.setIfInBounds_toArray, List.set_cons_zero, List.set_cons_succ, i64_w, i32_w]
        rfl
      refine pure_ (i := 5) (N := some 60) (v := ?_) (a' := ?_) #[true, true, true, true, true, true, false, false, false, false, false, false, false, false, false, false, false, false, false, false] rfl rfl (by kernel_rfl) (fun _ _ _ h => h) (Or.inl ⟨by rfl, ?_⟩) ?_ ?_
      rotate_left
      · intro w'
        go_simp
        with_reducible rfl
      rotate_left
      · simp only [Act.put, List.setIfInBounds_toArray, List.set_cons_zero, List.set_cons_succ, i64_w, i32_w]
        rfl
      refine pure_ (i := 13) (N := some 68) (v := ?_) (a' := ?_) #[true, true, true, true, true, true, false, false, false, false, false, false, false, true, false, false, false, false, false, false] rfl rfl (by kernel_rfl) (fun _ _ _ h => h) (Or.inl ⟨by rfl, ?_⟩) ?_ ?_
      rotate_left
      · intro w'
        go_simp
        with_reducible rfl
      rotate_left
      · simp only [Act.put, List.setIfInBounds_toArray, List.set_cons_zero, List.set_cons_succ, i64_w, i32_w]
        rfl
      refine take_ (i := 6) (N := some 61) (v := ?_) (a' := ?_) #[true, true, true, true, true, true, true, false, false, false, false, false, false, true, false, false, false, false, false, false] rfl rfl (by kernel_rfl) (fun _ _ _ h => h) (Or.inl ⟨by rfl, ?_⟩) hHeld ?_ ?_
      rotate_left
      · rintro w' ⟨s0, s1, s2, s3, s4, s5, s6, s7, s8, s9, s10, s11, s12, s13⟩
        go_simp
        with_reducible rfl
      rotate_left
      · simp only [Act.put, List.setIfInBounds_toArray, List.set_cons_zero, List.set_cons_succ, i64_w, i32_w]
        rfl
      refine take_ (i := 9) (N := some 64) (v := ?_) (a' := ?_) #[true, true, true, true, true, true, true, false, false, true, false, false, false, true, false, false, false, false, false, false] rfl rfl (by kernel_rfl) (fun _ _ _ h => h) (Or.inl ⟨by rfl, ?_⟩) hHeld ?_ ?_
      rotate_left
      · rintro w' ⟨s0, s1, s2, s3, s4, s5, s6, s7, s8, s9, s10, s11, s12, s13⟩
        go_simp
        with_reducible rfl
      rotate_left
      · simp only [Act.put, List.setIfInBounds_toArray, List.set_cons_zero, List.set_cons_succ, i64_w, i32_w]
        rfl
      refine one_ (i := 7) (N := some 62) #[true, true, true, true, true, true, true, true, false, true, false, false, false, true, false, false, false, false, false, false] rfl rfl (by kernel_rfl) (by decide) (fun K hK => ?_)
      refine goes_ Try.func22 (by kernel_rfl) rfl #[.agg #[.int .i64 y, .int .i64 m, .int .i64 d, .int .i64 h, .int .i64 i, .int .i64 s, .int .i64 u]] (by rfl) rfl rfl (by (try simp only [List.map_toArray, List.map_cons, List.map_nil]); first | done | rfl) ?_
      with_reducible refine (civ_to_calls y m d h i s u _).mono ?_
      rintro e u1 ⟨rfl, hb1⟩
      refine ⟨_, rfl, ?_⟩
      refine hK.out _ _ ⟨(pw_cell_below hb1 hHeld.1), (pw_cell_below hb1 hHeld.2.1), (pw_cell_below hb1 hHeld.2.2.1), (pw_cell_below hb1 hHeld.2.2.2.1), (pw_cell_below hb1 hHeld.2.2.2.2.1), (pw_cell_below hb1 hHeld.2.2.2.2.2.1), (pw_cell_below hb1 hHeld.2.2.2.2.2.2.1), (pw_cell_below hb1 hHeld.2.2.2.2.2.2.2.1), (pw_cell_below hb1 hHeld.2.2.2.2.2.2.2.2.1), (pw_cell_below hb1 hHeld.2.2.2.2.2.2.2.2.2.1), (pw_cell_below hb1 hHeld.2.2.2.2.2.2.2.2.2.2.1), (pw_cell_below hb1 hHeld.2.2.2.2.2.2.2.2.2.2.2.1), (pw_cell_below hb1 hHeld.2.2.2.2.2.2.2.2.2.2.2.2.1), (pw_cell_below hb1 hHeld.2.2.2.2.2.2.2.2.2.2.2.2.2)⟩ (fun hHeld => ?_)
      clear hK K
      refine norm_ (a' := ?_) ?_ ?_
      rotate_left
      · show Act.put _ (some 62) _ = _
        simp only [Act.put, List.setIfInBounds_toArray, List.set_cons_zero, List.set_cons_succ, i64_w, i32_w]
        rfl
      refine one_ (i := 8) (N := some 63) #[true, true, true, true, true, true, true, true, true, true, false, false, false, true, false, false, false, false, false, false] rfl rfl (by kernel_rfl) (by decide) (fun K hK => ?_)
      refine goes_ Try.func29 (by kernel_rfl) rfl #[.agg #[.int .i64 y, .int .i64 m, .int .i64 d, .int .i64 h, .int .i64 i, .int .i64 s, .int .i64 u]] (by rfl) rfl rfl (by (try simp only [List.map_toArray, List.map_cons, List.map_nil]); first | done | rfl) ?_
      with_reducible refine (civil_Text_calls y m d h i s u _ HR.out).mono ?_
      rintro e u2 ⟨rfl, hb2⟩
      refine ⟨_, rfl, ?_⟩
      rw [HS1.out]
      refine hK.out _ _ ⟨(pw_cell_below hb2 hHeld.1), (pw_cell_below hb2 hHeld.2.1), (pw_cell_below hb2 hHeld.2.2.1), (pw_cell_below hb2 hHeld.2.2.2.1), (pw_cell_below hb2 hHeld.2.2.2.2.1), (pw_cell_below hb2 hHeld.2.2.2.2.2.1), (pw_cell_below hb2 hHeld.2.2.2.2.2.2.1), (pw_cell_below hb2 hHeld.2.2.2.2.2.2.2.1), (pw_cell_below hb2 hHeld.2.2.2.2.2.2.2.2.1), (pw_cell_below hb2 hHeld.2.2.2.2.2.2.2.2.2.1), (pw_cell_below hb2 hHeld.2.2.2.2.2.2.2.2.2.2.1), (pw_cell_below hb2 hHeld.2.2.2.2.2.2.2.2.2.2.2.1), (pw_cell_below hb2 hHeld.2.2.2.2.2.2.2.2.2.2.2.2.1), (pw_cell_below hb2 hHeld.2.2.2.2.2.2.2.2.2.2.2.2.2)⟩ (fun hHeld => ?_)
      clear hK K
      refine norm_ (a' := ?_) ?_ ?_
      rotate_left
      · show Act.put _ (some 63) _ = _
        simp only [Act.put, List.setIfInBounds_toArray, List.set_cons_zero, List.set_cons_succ, i64_w, i32_w]
        rfl
      refine one_ (i := 10) (N := some 65) #[true, true, true, true, true, true, true, true, true, true, true, false, false, true, false, false, false, false, false, false] rfl rfl (by kernel_rfl) (by decide) (fun K hK => ?_)
      refine goes_ Try.func22 (by kernel_rfl) rfl #[.agg #[.int .i64 y', .int .i64 m', .int .i64 d', .int .i64 h', .int .i64 i', .int .i64 s', .int .i64 u']] (by rfl) rfl rfl (by (try simp only [List.map_toArray, List.map_cons, List.map_nil]); first | done | rfl) ?_
      with_reducible refine (civ_to_calls y' m' d' h' i' s' u' _).mono ?_
      rintro e u3 ⟨rfl, hb3⟩
      refine ⟨_, rfl, ?_⟩
      refine hK.out _ _ ⟨(pw_cell_below hb3 hHeld.1), (pw_cell_below hb3 hHeld.2.1), (pw_cell_below hb3 hHeld.2.2.1), (pw_cell_below hb3 hHeld.2.2.2.1), (pw_cell_below hb3 hHeld.2.2.2.2.1), (pw_cell_below hb3 hHeld.2.2.2.2.2.1), (pw_cell_below hb3 hHeld.2.2.2.2.2.2.1), (pw_cell_below hb3 hHeld.2.2.2.2.2.2.2.1), (pw_cell_below hb3 hHeld.2.2.2.2.2.2.2.2.1), (pw_cell_below hb3 hHeld.2.2.2.2.2.2.2.2.2.1), (pw_cell_below hb3 hHeld.2.2.2.2.2.2.2.2.2.2.1), (pw_cell_below hb3 hHeld.2.2.2.2.2.2.2.2.2.2.2.1), (pw_cell_below hb3 hHeld.2.2.2.2.2.2.2.2.2.2.2.2.1), (pw_cell_below hb3 hHeld.2.2.2.2.2.2.2.2.2.2.2.2.2)⟩ (fun hHeld => ?_)
      clear hK K
      refine norm_ (a' := ?_) ?_ ?_
      rotate_left
      · show Act.put _ (some 65) _ = _
        simp only [Act.put, List.setIfInBounds_toArray, List.set_cons_zero, List.set_cons_succ, i64_w, i32_w]
        rfl
      refine one_ (i := 11) (N := some 66) #[true, true, true, true, true, true, true, true, true, true, true, true, false, true, false, false, false, false, false, false] rfl rfl (by kernel_rfl) (by decide) (fun K hK => ?_)
      refine goes_ Try.func29 (by kernel_rfl) rfl #[.agg #[.int .i64 y', .int .i64 m', .int .i64 d', .int .i64 h', .int .i64 i', .int .i64 s', .int .i64 u']] (by rfl) rfl rfl (by (try simp only [List.map_toArray, List.map_cons, List.map_nil]); first | done | rfl) ?_
      with_reducible refine (civil_Text_calls y' m' d' h' i' s' u' _ HR'.out).mono ?_
      rintro e u4 ⟨rfl, hb4⟩
      refine ⟨_, rfl, ?_⟩
      rw [HS2.out]
      refine hK.out _ _ ⟨(pw_cell_below hb4 hHeld.1), (pw_cell_below hb4 hHeld.2.1), (pw_cell_below hb4 hHeld.2.2.1), (pw_cell_below hb4 hHeld.2.2.2.1), (pw_cell_below hb4 hHeld.2.2.2.2.1), (pw_cell_below hb4 hHeld.2.2.2.2.2.1), (pw_cell_below hb4 hHeld.2.2.2.2.2.2.1), (pw_cell_below hb4 hHeld.2.2.2.2.2.2.2.1), (pw_cell_below hb4 hHeld.2.2.2.2.2.2.2.2.1), (pw_cell_below hb4 hHeld.2.2.2.2.2.2.2.2.2.1), (pw_cell_below hb4 hHeld.2.2.2.2.2.2.2.2.2.2.1), (pw_cell_below hb4 hHeld.2.2.2.2.2.2.2.2.2.2.2.1), (pw_cell_below hb4 hHeld.2.2.2.2.2.2.2.2.2.2.2.2.1), (pw_cell_below hb4 hHeld.2.2.2.2.2.2.2.2.2.2.2.2.2)⟩ (fun hHeld => ?_)
      clear hK K
      refine norm_ (a' := ?_) ?_ ?_
      rotate_left
      · show Act.put _ (some 66) _ = _
        simp only [Act.put, List.setIfInBounds_toArray, List.set_cons_zero, List.set_cons_succ, i64_w, i32_w]
        rfl
      refine pure_ (i := 12) (N := some 67) (v := ?_) (a' := ?_) #[true, true, true, true, true, true, true, true, true, true, true, true, true, true, false, false, false, false, false, false] rfl rfl (by kernel_rfl) (fun _ _ _ h => h) (Or.inl ⟨by rfl, ?_⟩) ?_ ?_
      rotate_left
      · intro w'
        go_simp
        with_reducible rfl
      rotate_left
      · simp only [Act.put, List.setIfInBounds_toArray, List.set_cons_zero, List.set_cons_succ, i64_w, i32_w]
        rfl
      refine pure_ (i := 14) (N := some 69) (v := ?_) (a' := ?_) #[true, true, true, true, true, true, true, true, true, true, true, true, true, true, true, false, false, false, false, false] rfl rfl (by kernel_rfl) (fun _ _ _ h => h) (Or.inl ⟨by rfl, ?_⟩) ?_ ?_
      rotate_left
      · intro w'
        go_simp
        with_reducible rfl
      rotate_left
      · simp only [Act.put, List.setIfInBounds_toArray, List.set_cons_zero, List.set_cons_succ, i64_w, i32_w]
        rfl
      refine pure_ (i := 15) (N := some 70) (v := ?_) (a' := ?_) #[true, true, true, true, true, true, true, true, true, true, true, true, true, true, true, true, false, false, false, false] rfl rfl (by kernel_rfl) (fun _ _ _ h => h) (Or.inl ⟨by rfl, ?_⟩) ?_ ?_
      rotate_left
      · intro w'
        go_simp
        with_reducible rfl
      rotate_left
      · simp only [Act.put, List.setIfInBounds_toArray, List.set_cons_zero, List.set_cons_succ, i64_w, i32_w]
        rfl
      refine pure_ (i := 16) (N := some 71) (v := ?_) (a' := ?_) #[true, true, true, true, true, true, true, true, true, true, true, true, true, true, true, true, true, false, false, false] rfl rfl (by kernel_rfl) (fun _ _ _ h => h) (Or.inl ⟨by rfl, ?_⟩) ?_ ?_
      rotate_left
      · intro w'
        go_simp
        with_reducible rfl
      rotate_left
      · simp only [Act.put, List.setIfInBounds_toArray, List.set_cons_zero, List.set_cons_succ, i64_w, i32_w]
        rfl
      refine one_ (i := 17) (N := some 72) #[true, true, true, true, true, true, true, true, true, true, true, true, true, true, true, true, true, true, false, false] rfl rfl (by kernel_rfl) (by decide) (fun K hK => ?_)
      refine goes_ Try.func19 (by kernel_rfl) rfl #[] (by rfl) rfl rfl (by (try simp only [List.map_toArray, List.map_cons, List.map_nil]); first | done | rfl) ?_
      with_reducible refine (civ_awake_calls _).mono ?_
      rintro e u5 ⟨rfl, hb5⟩
      refine ⟨_, rfl, ?_⟩
      refine hK.out _ _ ⟨(pw_cell_below hb5 hHeld.1), (pw_cell_below hb5 hHeld.2.1), (pw_cell_below hb5 hHeld.2.2.1), (pw_cell_below hb5 hHeld.2.2.2.1), (pw_cell_below hb5 hHeld.2.2.2.2.1), (pw_cell_below hb5 hHeld.2.2.2.2.2.1), (pw_cell_below hb5 hHeld.2.2.2.2.2.2.1), (pw_cell_below hb5 hHeld.2.2.2.2.2.2.2.1), (pw_cell_below hb5 hHeld.2.2.2.2.2.2.2.2.1), (pw_cell_below hb5 hHeld.2.2.2.2.2.2.2.2.2.1), (pw_cell_below hb5 hHeld.2.2.2.2.2.2.2.2.2.2.1), (pw_cell_below hb5 hHeld.2.2.2.2.2.2.2.2.2.2.2.1), (pw_cell_below hb5 hHeld.2.2.2.2.2.2.2.2.2.2.2.2.1), (pw_cell_below hb5 hHeld.2.2.2.2.2.2.2.2.2.2.2.2.2)⟩ (fun hHeld => ?_)
      clear hK K
      refine norm_ (a' := ?_) ?_ ?_
      rotate_left
      · show Act.put _ (some 72) _ = _
        simp only [Act.put, List.setIfInBounds_toArray, List.set_cons_zero, List.set_cons_succ, i64_w, i32_w]
        rfl
      refine pure_ (i := 18) (N := some 73) (v := ?_) (a' := ?_) #[true, true, true, true, true, true, true, true, true, true, true, true, true, true, true, true, true, true, true, false] rfl rfl (by kernel_rfl) (fun _ _ _ h => h) (Or.inl ⟨by rfl, ?_⟩) ?_ ?_
      rotate_left
      · intro w'
        go_simp
        with_reducible rfl
      rotate_left
      · simp only [Act.put, List.setIfInBounds_toArray, List.set_cons_zero, List.set_cons_succ, i64_w, i32_w]
        rfl
      refine pure_ (i := 19) (N := some 4) (v := ?_) (a' := ?_) #[true, true, true, true, true, true, true, true, true, true, true, true, true, true, true, true, true, true, true, true] rfl rfl (by kernel_rfl) (fun _ _ _ h => h) (Or.inl ⟨by rfl, ?_⟩) ?_ ?_
      rotate_left
      · intro w'
        go_simp
        with_reducible rfl
      rotate_left
      · simp only [Act.put, List.setIfInBounds_toArray, List.set_cons_zero, List.set_cons_succ, i64_w, i32_w]
        rfl
      refine done_ (by kernel_rfl) ?_
      have HBE := Aside0.mk (below_step (below_step (below_step (below_step (below_step (below_drew HB.out) hb1) hb2) hb3) hb4) hb5)
      clear hb1 hb2 hb3 hb4 hb5 z0 z1 z2 z3 z4 z5 z6 q0 q1 q2 q3 q4 q5 q6
      go_wp2_with fail
      go_ret
      exact ⟨rfl, HBE.out⟩
set_option maxHeartbeats 8000000 in
set_option maxRecDepth 100000 in
theorem CivilOrders_false (y m d h i s u y' m' d' h' i' s' u' : Int) (w : World) (hr : rightB y m d h i s u = true) (hr' : rightB y' m' d' h' i' s' u' = true) (hl : lexL [y, m, d, h, i, s, u] [y', m', d', h', i', s', u'] = false) :
    Calls Try.prog 6 #[.agg #[.int .i64 y, .int .i64 m, .int .i64 d, .int .i64 h, .int .i64 i, .int .i64 s, .int .i64 u], .agg #[.int .i64 y', .int .i64 m', .int .i64 d', .int .i64 h', .int .i64 i', .int .i64 s', .int .i64 u']] w fun e w' => e = .returned (.bool true) ∧ Below w.heap.size w w' := by
  have HR := Aside0.mk hr
  have HR' := Aside0.mk hr'
  have HTL := Aside0.mk ((textS_less hr hr').trans hl)
  have HML := Aside0.mk ((micros_less hr hr').trans hl)
  have HLL := Aside0.mk hl
  obtain ⟨la, hla⟩ : ∃ l, [y, m, d, h, i, s, u] = l := ⟨_, rfl⟩
  obtain ⟨lb, hlb⟩ : ∃ l, [y', m', d', h', i', s', u'] = l := ⟨_, rfl⟩
  have HLA := Aside0.mk (show la.length = 7 by rw [← hla]; rfl)
  have HLB := Aside0.mk (show lb.length = 7 by rw [← hlb]; rfl)
  have HGA := Aside0.mk (show ∀ n, n < 7 → (#[.int .i64 y, .int .i64 m, .int .i64 d, .int .i64 h, .int .i64 i, .int .i64 s, .int .i64 u] : Array Value)[n]? = some (.int .i64 (la.getD n 0)) by intro n hn; rw [← hla]; exact arr7_get _ _ _ _ _ _ _ n hn)
  have HGB := Aside0.mk (show ∀ n, n < 7 → (#[.int .i64 y', .int .i64 m', .int .i64 d', .int .i64 h', .int .i64 i', .int .i64 s', .int .i64 u'] : Array Value)[n]? = some (.int .i64 (lb.getD n 0)) by intro n hn; rw [← hlb]; exact arr7_get _ _ _ _ _ _ _ n hn)
  rw [hla, hlb] at HLL
  clear hr hr' hl hla hlb
  have HX0 := Aside0.mk (blk_below (blk_new w (.cells #[.int .i64 y, .int .i64 m, .int .i64 d, .int .i64 h, .int .i64 i, .int .i64 s, .int .i64 u] 31)) (below_alloc (Below.refl _ _) (.cells #[.int .i64 y', .int .i64 m', .int .i64 d', .int .i64 h', .int .i64 i', .int .i64 s', .int .i64 u'] 31)))
  have HY0 := Aside0.mk (blk_new (w.alloc (.cells #[.int .i64 y, .int .i64 m, .int .i64 d, .int .i64 h, .int .i64 i, .int .i64 s, .int .i64 u] 31)) (.cells #[.int .i64 y', .int .i64 m', .int .i64 d', .int .i64 h', .int .i64 i', .int .i64 s', .int .i64 u'] 31))
  rw [show (w.alloc (.cells #[.int .i64 y, .int .i64 m, .int .i64 d, .int .i64 h, .int .i64 i, .int .i64 s, .int .i64 u] 31)).heap.size = w.heap.size + 1 from Array.size_push _] at HY0
  have HB0 := Aside0.mk (below_alloc (below_alloc (Below.refl w.heap.size w) (.cells #[.int .i64 y, .int .i64 m, .int .i64 d, .int .i64 h, .int .i64 i, .int .i64 s, .int .i64 u] 31)) (.cells #[.int .i64 y', .int .i64 m', .int .i64 d', .int .i64 h', .int .i64 i', .int .i64 s', .int .i64 u'] 31))
  have z0 : ((w.alloc (.cells #[.int .i64 y, .int .i64 m, .int .i64 d, .int .i64 h, .int .i64 i, .int .i64 s, .int .i64 u] 31)).alloc (.cells #[.int .i64 y', .int .i64 m', .int .i64 d', .int .i64 h', .int .i64 i', .int .i64 s', .int .i64 u'] 31)).cell? ⟨w.heap.size, 0, none⟩ = some (.int .i64 y) := blk_cell HX0.out 0
  have z1 : ((w.alloc (.cells #[.int .i64 y, .int .i64 m, .int .i64 d, .int .i64 h, .int .i64 i, .int .i64 s, .int .i64 u] 31)).alloc (.cells #[.int .i64 y', .int .i64 m', .int .i64 d', .int .i64 h', .int .i64 i', .int .i64 s', .int .i64 u'] 31)).cell? ⟨w.heap.size, 1, none⟩ = some (.int .i64 m) := blk_cell HX0.out 1
  have z2 : ((w.alloc (.cells #[.int .i64 y, .int .i64 m, .int .i64 d, .int .i64 h, .int .i64 i, .int .i64 s, .int .i64 u] 31)).alloc (.cells #[.int .i64 y', .int .i64 m', .int .i64 d', .int .i64 h', .int .i64 i', .int .i64 s', .int .i64 u'] 31)).cell? ⟨w.heap.size, 2, none⟩ = some (.int .i64 d) := blk_cell HX0.out 2
  have z3 : ((w.alloc (.cells #[.int .i64 y, .int .i64 m, .int .i64 d, .int .i64 h, .int .i64 i, .int .i64 s, .int .i64 u] 31)).alloc (.cells #[.int .i64 y', .int .i64 m', .int .i64 d', .int .i64 h', .int .i64 i', .int .i64 s', .int .i64 u'] 31)).cell? ⟨w.heap.size, 3, none⟩ = some (.int .i64 h) := blk_cell HX0.out 3
  have z4 : ((w.alloc (.cells #[.int .i64 y, .int .i64 m, .int .i64 d, .int .i64 h, .int .i64 i, .int .i64 s, .int .i64 u] 31)).alloc (.cells #[.int .i64 y', .int .i64 m', .int .i64 d', .int .i64 h', .int .i64 i', .int .i64 s', .int .i64 u'] 31)).cell? ⟨w.heap.size, 4, none⟩ = some (.int .i64 i) := blk_cell HX0.out 4
  have z5 : ((w.alloc (.cells #[.int .i64 y, .int .i64 m, .int .i64 d, .int .i64 h, .int .i64 i, .int .i64 s, .int .i64 u] 31)).alloc (.cells #[.int .i64 y', .int .i64 m', .int .i64 d', .int .i64 h', .int .i64 i', .int .i64 s', .int .i64 u'] 31)).cell? ⟨w.heap.size, 5, none⟩ = some (.int .i64 s) := blk_cell HX0.out 5
  have z6 : ((w.alloc (.cells #[.int .i64 y, .int .i64 m, .int .i64 d, .int .i64 h, .int .i64 i, .int .i64 s, .int .i64 u] 31)).alloc (.cells #[.int .i64 y', .int .i64 m', .int .i64 d', .int .i64 h', .int .i64 i', .int .i64 s', .int .i64 u'] 31)).cell? ⟨w.heap.size, 6, none⟩ = some (.int .i64 u) := blk_cell HX0.out 6
  have q0 : ((w.alloc (.cells #[.int .i64 y, .int .i64 m, .int .i64 d, .int .i64 h, .int .i64 i, .int .i64 s, .int .i64 u] 31)).alloc (.cells #[.int .i64 y', .int .i64 m', .int .i64 d', .int .i64 h', .int .i64 i', .int .i64 s', .int .i64 u'] 31)).cell? ⟨w.heap.size + 1, 0, none⟩ = some (.int .i64 y') := blk_cell HY0.out 0
  have q1 : ((w.alloc (.cells #[.int .i64 y, .int .i64 m, .int .i64 d, .int .i64 h, .int .i64 i, .int .i64 s, .int .i64 u] 31)).alloc (.cells #[.int .i64 y', .int .i64 m', .int .i64 d', .int .i64 h', .int .i64 i', .int .i64 s', .int .i64 u'] 31)).cell? ⟨w.heap.size + 1, 1, none⟩ = some (.int .i64 m') := blk_cell HY0.out 1
  have q2 : ((w.alloc (.cells #[.int .i64 y, .int .i64 m, .int .i64 d, .int .i64 h, .int .i64 i, .int .i64 s, .int .i64 u] 31)).alloc (.cells #[.int .i64 y', .int .i64 m', .int .i64 d', .int .i64 h', .int .i64 i', .int .i64 s', .int .i64 u'] 31)).cell? ⟨w.heap.size + 1, 2, none⟩ = some (.int .i64 d') := blk_cell HY0.out 2
  have q3 : ((w.alloc (.cells #[.int .i64 y, .int .i64 m, .int .i64 d, .int .i64 h, .int .i64 i, .int .i64 s, .int .i64 u] 31)).alloc (.cells #[.int .i64 y', .int .i64 m', .int .i64 d', .int .i64 h', .int .i64 i', .int .i64 s', .int .i64 u'] 31)).cell? ⟨w.heap.size + 1, 3, none⟩ = some (.int .i64 h') := blk_cell HY0.out 3
  have q4 : ((w.alloc (.cells #[.int .i64 y, .int .i64 m, .int .i64 d, .int .i64 h, .int .i64 i, .int .i64 s, .int .i64 u] 31)).alloc (.cells #[.int .i64 y', .int .i64 m', .int .i64 d', .int .i64 h', .int .i64 i', .int .i64 s', .int .i64 u'] 31)).cell? ⟨w.heap.size + 1, 4, none⟩ = some (.int .i64 i') := blk_cell HY0.out 4
  have q5 : ((w.alloc (.cells #[.int .i64 y, .int .i64 m, .int .i64 d, .int .i64 h, .int .i64 i, .int .i64 s, .int .i64 u] 31)).alloc (.cells #[.int .i64 y', .int .i64 m', .int .i64 d', .int .i64 h', .int .i64 i', .int .i64 s', .int .i64 u'] 31)).cell? ⟨w.heap.size + 1, 5, none⟩ = some (.int .i64 s') := blk_cell HY0.out 5
  have q6 : ((w.alloc (.cells #[.int .i64 y, .int .i64 m, .int .i64 d, .int .i64 h, .int .i64 i, .int .i64 s, .int .i64 u] 31)).alloc (.cells #[.int .i64 y', .int .i64 m', .int .i64 d', .int .i64 h', .int .i64 i', .int .i64 s', .int .i64 u'] 31)).cell? ⟨w.heap.size + 1, 6, none⟩ = some (.int .i64 u') := blk_cell HY0.out 6
  go_enter Try.func6, Try.ntmps6
  go_wp2_with fail
  refine (ref_Right_calls y m d h i s u _).mono ?_
  rintro e w1 ⟨rfl, hb⟩
  have HB1 := Aside0.mk (below_step HB0.out hb)
  have HX1 := Aside0.mk (blk_below HX0.out hb)
  have HY1 := Aside0.mk (blk_below HY0.out hb)
  clear hb z0 z1 z2 z3 z4 z5 z6 q0 q1 q2 q3 q4 q5 q6
  rw [HR.out]
  have z0 : (w1).cell? ⟨w.heap.size, 0, none⟩ = some (.int .i64 y) := blk_cell HX1.out 0
  have z1 : (w1).cell? ⟨w.heap.size, 1, none⟩ = some (.int .i64 m) := blk_cell HX1.out 1
  have z2 : (w1).cell? ⟨w.heap.size, 2, none⟩ = some (.int .i64 d) := blk_cell HX1.out 2
  have z3 : (w1).cell? ⟨w.heap.size, 3, none⟩ = some (.int .i64 h) := blk_cell HX1.out 3
  have z4 : (w1).cell? ⟨w.heap.size, 4, none⟩ = some (.int .i64 i) := blk_cell HX1.out 4
  have z5 : (w1).cell? ⟨w.heap.size, 5, none⟩ = some (.int .i64 s) := blk_cell HX1.out 5
  have z6 : (w1).cell? ⟨w.heap.size, 6, none⟩ = some (.int .i64 u) := blk_cell HX1.out 6
  have q0 : (w1).cell? ⟨w.heap.size + 1, 0, none⟩ = some (.int .i64 y') := blk_cell HY1.out 0
  have q1 : (w1).cell? ⟨w.heap.size + 1, 1, none⟩ = some (.int .i64 m') := blk_cell HY1.out 1
  have q2 : (w1).cell? ⟨w.heap.size + 1, 2, none⟩ = some (.int .i64 d') := blk_cell HY1.out 2
  have q3 : (w1).cell? ⟨w.heap.size + 1, 3, none⟩ = some (.int .i64 h') := blk_cell HY1.out 3
  have q4 : (w1).cell? ⟨w.heap.size + 1, 4, none⟩ = some (.int .i64 i') := blk_cell HY1.out 4
  have q5 : (w1).cell? ⟨w.heap.size + 1, 5, none⟩ = some (.int .i64 s') := blk_cell HY1.out 5
  have q6 : (w1).cell? ⟨w.heap.size + 1, 6, none⟩ = some (.int .i64 u') := blk_cell HY1.out 6
  go_wp2_with fail
  refine (ref_Right_calls y' m' d' h' i' s' u' _).mono ?_
  rintro e w2 ⟨rfl, hb⟩
  have HB2 := Aside0.mk (below_step HB1.out hb)
  have HX2 := Aside0.mk (blk_below HX1.out hb)
  have HY2 := Aside0.mk (blk_below HY1.out hb)
  clear hb z0 z1 z2 z3 z4 z5 z6 q0 q1 q2 q3 q4 q5 q6
  rw [HR'.out]
  have z0 : (w2).cell? ⟨w.heap.size, 0, none⟩ = some (.int .i64 y) := blk_cell HX2.out 0
  have z1 : (w2).cell? ⟨w.heap.size, 1, none⟩ = some (.int .i64 m) := blk_cell HX2.out 1
  have z2 : (w2).cell? ⟨w.heap.size, 2, none⟩ = some (.int .i64 d) := blk_cell HX2.out 2
  have z3 : (w2).cell? ⟨w.heap.size, 3, none⟩ = some (.int .i64 h) := blk_cell HX2.out 3
  have z4 : (w2).cell? ⟨w.heap.size, 4, none⟩ = some (.int .i64 i) := blk_cell HX2.out 4
  have z5 : (w2).cell? ⟨w.heap.size, 5, none⟩ = some (.int .i64 s) := blk_cell HX2.out 5
  have z6 : (w2).cell? ⟨w.heap.size, 6, none⟩ = some (.int .i64 u) := blk_cell HX2.out 6
  have q0 : (w2).cell? ⟨w.heap.size + 1, 0, none⟩ = some (.int .i64 y') := blk_cell HY2.out 0
  have q1 : (w2).cell? ⟨w.heap.size + 1, 1, none⟩ = some (.int .i64 m') := blk_cell HY2.out 1
  have q2 : (w2).cell? ⟨w.heap.size + 1, 2, none⟩ = some (.int .i64 d') := blk_cell HY2.out 2
  have q3 : (w2).cell? ⟨w.heap.size + 1, 3, none⟩ = some (.int .i64 h') := blk_cell HY2.out 3
  have q4 : (w2).cell? ⟨w.heap.size + 1, 4, none⟩ = some (.int .i64 i') := blk_cell HY2.out 4
  have q5 : (w2).cell? ⟨w.heap.size + 1, 5, none⟩ = some (.int .i64 s') := blk_cell HY2.out 5
  have q6 : (w2).cell? ⟨w.heap.size + 1, 6, none⟩ = some (.int .i64 u') := blk_cell HY2.out 6
  go_wp2_with fail
  refine (civ_to_calls y m d h i s u _).mono ?_
  rintro e w3 ⟨rfl, hb⟩
  have HB3 := Aside0.mk (below_step HB2.out hb)
  have HX3 := Aside0.mk (blk_below HX2.out hb)
  have HY3 := Aside0.mk (blk_below HY2.out hb)
  clear hb z0 z1 z2 z3 z4 z5 z6 q0 q1 q2 q3 q4 q5 q6
  have z0 : (w3).cell? ⟨w.heap.size, 0, none⟩ = some (.int .i64 y) := blk_cell HX3.out 0
  have z1 : (w3).cell? ⟨w.heap.size, 1, none⟩ = some (.int .i64 m) := blk_cell HX3.out 1
  have z2 : (w3).cell? ⟨w.heap.size, 2, none⟩ = some (.int .i64 d) := blk_cell HX3.out 2
  have z3 : (w3).cell? ⟨w.heap.size, 3, none⟩ = some (.int .i64 h) := blk_cell HX3.out 3
  have z4 : (w3).cell? ⟨w.heap.size, 4, none⟩ = some (.int .i64 i) := blk_cell HX3.out 4
  have z5 : (w3).cell? ⟨w.heap.size, 5, none⟩ = some (.int .i64 s) := blk_cell HX3.out 5
  have z6 : (w3).cell? ⟨w.heap.size, 6, none⟩ = some (.int .i64 u) := blk_cell HX3.out 6
  have q0 : (w3).cell? ⟨w.heap.size + 1, 0, none⟩ = some (.int .i64 y') := blk_cell HY3.out 0
  have q1 : (w3).cell? ⟨w.heap.size + 1, 1, none⟩ = some (.int .i64 m') := blk_cell HY3.out 1
  have q2 : (w3).cell? ⟨w.heap.size + 1, 2, none⟩ = some (.int .i64 d') := blk_cell HY3.out 2
  have q3 : (w3).cell? ⟨w.heap.size + 1, 3, none⟩ = some (.int .i64 h') := blk_cell HY3.out 3
  have q4 : (w3).cell? ⟨w.heap.size + 1, 4, none⟩ = some (.int .i64 i') := blk_cell HY3.out 4
  have q5 : (w3).cell? ⟨w.heap.size + 1, 5, none⟩ = some (.int .i64 s') := blk_cell HY3.out 5
  have q6 : (w3).cell? ⟨w.heap.size + 1, 6, none⟩ = some (.int .i64 u') := blk_cell HY3.out 6
  go_wp2_with fail
  refine (civil_Micros_yes y m d h i s u _ HR.out).mono ?_
  rintro e w4 ⟨rfl, hb⟩
  have HB4 := Aside0.mk (below_step HB3.out hb)
  have HX4 := Aside0.mk (blk_below HX3.out hb)
  have HY4 := Aside0.mk (blk_below HY3.out hb)
  obtain ⟨M, hM⟩ : ∃ M, microsZ y m d h i s u = M := ⟨_, rfl⟩
  rw [hM] at HML ⊢
  clear hM
  clear hb z0 z1 z2 z3 z4 z5 z6 q0 q1 q2 q3 q4 q5 q6
  have z0 : (w4).cell? ⟨w.heap.size, 0, none⟩ = some (.int .i64 y) := blk_cell HX4.out 0
  have z1 : (w4).cell? ⟨w.heap.size, 1, none⟩ = some (.int .i64 m) := blk_cell HX4.out 1
  have z2 : (w4).cell? ⟨w.heap.size, 2, none⟩ = some (.int .i64 d) := blk_cell HX4.out 2
  have z3 : (w4).cell? ⟨w.heap.size, 3, none⟩ = some (.int .i64 h) := blk_cell HX4.out 3
  have z4 : (w4).cell? ⟨w.heap.size, 4, none⟩ = some (.int .i64 i) := blk_cell HX4.out 4
  have z5 : (w4).cell? ⟨w.heap.size, 5, none⟩ = some (.int .i64 s) := blk_cell HX4.out 5
  have z6 : (w4).cell? ⟨w.heap.size, 6, none⟩ = some (.int .i64 u) := blk_cell HX4.out 6
  have q0 : (w4).cell? ⟨w.heap.size + 1, 0, none⟩ = some (.int .i64 y') := blk_cell HY4.out 0
  have q1 : (w4).cell? ⟨w.heap.size + 1, 1, none⟩ = some (.int .i64 m') := blk_cell HY4.out 1
  have q2 : (w4).cell? ⟨w.heap.size + 1, 2, none⟩ = some (.int .i64 d') := blk_cell HY4.out 2
  have q3 : (w4).cell? ⟨w.heap.size + 1, 3, none⟩ = some (.int .i64 h') := blk_cell HY4.out 3
  have q4 : (w4).cell? ⟨w.heap.size + 1, 4, none⟩ = some (.int .i64 i') := blk_cell HY4.out 4
  have q5 : (w4).cell? ⟨w.heap.size + 1, 5, none⟩ = some (.int .i64 s') := blk_cell HY4.out 5
  have q6 : (w4).cell? ⟨w.heap.size + 1, 6, none⟩ = some (.int .i64 u') := blk_cell HY4.out 6
  go_wp2_with fail
  refine (civ_to_calls y' m' d' h' i' s' u' _).mono ?_
  rintro e w5 ⟨rfl, hb⟩
  have HB5 := Aside0.mk (below_step HB4.out hb)
  have HX5 := Aside0.mk (blk_below HX4.out hb)
  have HY5 := Aside0.mk (blk_below HY4.out hb)
  clear hb z0 z1 z2 z3 z4 z5 z6 q0 q1 q2 q3 q4 q5 q6
  have z0 : (w5).cell? ⟨w.heap.size, 0, none⟩ = some (.int .i64 y) := blk_cell HX5.out 0
  have z1 : (w5).cell? ⟨w.heap.size, 1, none⟩ = some (.int .i64 m) := blk_cell HX5.out 1
  have z2 : (w5).cell? ⟨w.heap.size, 2, none⟩ = some (.int .i64 d) := blk_cell HX5.out 2
  have z3 : (w5).cell? ⟨w.heap.size, 3, none⟩ = some (.int .i64 h) := blk_cell HX5.out 3
  have z4 : (w5).cell? ⟨w.heap.size, 4, none⟩ = some (.int .i64 i) := blk_cell HX5.out 4
  have z5 : (w5).cell? ⟨w.heap.size, 5, none⟩ = some (.int .i64 s) := blk_cell HX5.out 5
  have z6 : (w5).cell? ⟨w.heap.size, 6, none⟩ = some (.int .i64 u) := blk_cell HX5.out 6
  have q0 : (w5).cell? ⟨w.heap.size + 1, 0, none⟩ = some (.int .i64 y') := blk_cell HY5.out 0
  have q1 : (w5).cell? ⟨w.heap.size + 1, 1, none⟩ = some (.int .i64 m') := blk_cell HY5.out 1
  have q2 : (w5).cell? ⟨w.heap.size + 1, 2, none⟩ = some (.int .i64 d') := blk_cell HY5.out 2
  have q3 : (w5).cell? ⟨w.heap.size + 1, 3, none⟩ = some (.int .i64 h') := blk_cell HY5.out 3
  have q4 : (w5).cell? ⟨w.heap.size + 1, 4, none⟩ = some (.int .i64 i') := blk_cell HY5.out 4
  have q5 : (w5).cell? ⟨w.heap.size + 1, 5, none⟩ = some (.int .i64 s') := blk_cell HY5.out 5
  have q6 : (w5).cell? ⟨w.heap.size + 1, 6, none⟩ = some (.int .i64 u') := blk_cell HY5.out 6
  go_wp2_with fail
  refine (civil_Micros_yes y' m' d' h' i' s' u' _ HR'.out).mono ?_
  rintro e w6 ⟨rfl, hb⟩
  have HB6 := Aside0.mk (below_step HB5.out hb)
  have HX6 := Aside0.mk (blk_below HX5.out hb)
  have HY6 := Aside0.mk (blk_below HY5.out hb)
  obtain ⟨N, hN⟩ : ∃ N, microsZ y' m' d' h' i' s' u' = N := ⟨_, rfl⟩
  rw [hN] at HML ⊢
  clear hN
  clear hb z0 z1 z2 z3 z4 z5 z6 q0 q1 q2 q3 q4 q5 q6
  have z0 : (w6).cell? ⟨w.heap.size, 0, none⟩ = some (.int .i64 y) := blk_cell HX6.out 0
  have z1 : (w6).cell? ⟨w.heap.size, 1, none⟩ = some (.int .i64 m) := blk_cell HX6.out 1
  have z2 : (w6).cell? ⟨w.heap.size, 2, none⟩ = some (.int .i64 d) := blk_cell HX6.out 2
  have z3 : (w6).cell? ⟨w.heap.size, 3, none⟩ = some (.int .i64 h) := blk_cell HX6.out 3
  have z4 : (w6).cell? ⟨w.heap.size, 4, none⟩ = some (.int .i64 i) := blk_cell HX6.out 4
  have z5 : (w6).cell? ⟨w.heap.size, 5, none⟩ = some (.int .i64 s) := blk_cell HX6.out 5
  have z6 : (w6).cell? ⟨w.heap.size, 6, none⟩ = some (.int .i64 u) := blk_cell HX6.out 6
  have q0 : (w6).cell? ⟨w.heap.size + 1, 0, none⟩ = some (.int .i64 y') := blk_cell HY6.out 0
  have q1 : (w6).cell? ⟨w.heap.size + 1, 1, none⟩ = some (.int .i64 m') := blk_cell HY6.out 1
  have q2 : (w6).cell? ⟨w.heap.size + 1, 2, none⟩ = some (.int .i64 d') := blk_cell HY6.out 2
  have q3 : (w6).cell? ⟨w.heap.size + 1, 3, none⟩ = some (.int .i64 h') := blk_cell HY6.out 3
  have q4 : (w6).cell? ⟨w.heap.size + 1, 4, none⟩ = some (.int .i64 i') := blk_cell HY6.out 4
  have q5 : (w6).cell? ⟨w.heap.size + 1, 5, none⟩ = some (.int .i64 s') := blk_cell HY6.out 5
  have q6 : (w6).cell? ⟨w.heap.size + 1, 6, none⟩ = some (.int .i64 u') := blk_cell HY6.out 6
  go_wp2_with fail
  clear z0 z1 z2 z3 z4 z5 z6 q0 q1 q2 q3 q4 q5 q6
  go_loopw [9, 10] (fun v9 v10 w' => ∃ k : Int, -1 ≤ k ∧ k ≤ 6 ∧ v10 = .int .i64 k ∧ v9 = .bool (lexL (la.drop (k + 1).toNat) (lb.drop (k + 1).toNat)) ∧ Aside0 (w'.heap[w.heap.size]? = some (.cells #[.int .i64 y, .int .i64 m, .int .i64 d, .int .i64 h, .int .i64 i, .int .i64 s, .int .i64 u] 31 (0, 0))) ∧ Aside0 (w'.heap[w.heap.size + 1]? = some (.cells #[.int .i64 y', .int .i64 m', .int .i64 d', .int .i64 h', .int .i64 i', .int .i64 s', .int .i64 u'] 31 (0, 0))) ∧ Aside0 (Below w.heap.size w w')) (fun _ v10 _ => (intOf v10 + 1).toNat)
  case atStart => exact ⟨6, by omega, by omega, rfl, by rw [List.drop_eq_nil_of_le (by have := HLA.out; omega)]; rfl, HX6, HY6, HB6⟩
  case round =>
    clear HX6 HY6 HB6
    obtain ⟨k, k0, k1, rfl, rfl, HX, HY, HB⟩ := hrel
    by_cases c : 0 ≤ k
    · obtain ⟨n, rfl⟩ := Int.eq_ofNat_of_zero_le c
      have hn7 : n < 7 := by omega
      have HD := Aside0.mk (lexL_drop (a := la) (b := lb) (n := n) (by rw [HLA.out]; omega) (by rw [HLB.out]; omega))
      have z1 := (blk_cell HX.out n).trans (HGA.out n hn7)
      have z2 := (blk_cell HY.out n).trans (HGB.out n hn7)
      obtain ⟨x, hx⟩ : ∃ x, la.getD n 0 = x := ⟨_, rfl⟩
      obtain ⟨x', hx'⟩ : ∃ x, lb.getD n 0 = x := ⟨_, rfl⟩
      rw [hx] at z1 HD
      rw [hx'] at z2 HD
      obtain ⟨L, hL⟩ : ∃ L, lexL (la.drop ((n : Int) + 1).toNat) (lb.drop ((n : Int) + 1).toNat) = L := ⟨_, rfl⟩
      rw [show n + 1 = ((n : Int) + 1).toNat by omega, hL] at HD
      rw [hL]
      have HN := Aside0.mk (show ((n : Int) - 1 + 1).toNat = n by omega)
      clear hx hx' hL
      rcases Int.lt_trichotomy x x' with hlt | heq | hgt
      · have HE := Aside0.mk (show lexL (la.drop n) (lb.drop n) = true by rw [HD.out, decide_eq_true hlt]; rfl)
        have t1 : decide (x < x') = true := decide_eq_true hlt
        clear hlt
        go_wp2_with fail
        go_quiet (fail)
        go_wp2_with fail
        go_roundw
        case rel => exact ⟨(n : Int) - 1, by omega, by omega, by first | rfl | go_num, by rw [HN.out, HE.out], ⟨by simpa using HX.out⟩, ⟨by simpa using HY.out⟩, ⟨pw_below_drewN HB.out _⟩⟩
        case measure => simp [intOf] <;> omega
      · have HE := Aside0.mk (show lexL (la.drop n) (lb.drop n) = L by rw [HD.out, decide_eq_false (show ¬ x < x' by omega), decide_eq_true heq]; simp)
        have t1 : decide (x < x') = false := by simp; omega
        have t2 : (x == x') = true := by simpa using heq
        clear heq
        go_wp2_with fail
        go_quiet (fail)
        go_wp2_with fail
        go_roundw
        case rel => exact ⟨(n : Int) - 1, by omega, by omega, by first | rfl | go_num, by rw [HN.out, HE.out], ⟨by simpa using HX.out⟩, ⟨by simpa using HY.out⟩, ⟨pw_below_drewN HB.out _⟩⟩
        case measure => simp [intOf] <;> omega
      · have HE := Aside0.mk (show lexL (la.drop n) (lb.drop n) = false by rw [HD.out, decide_eq_false (show ¬ x < x' by omega), decide_eq_false (show ¬ x = x' by omega)]; rfl)
        have t1 : decide (x < x') = false := by simp; omega
        have t2 : (x == x') = false := by rw [beq_eq_false_iff_ne]; omega
        clear hgt
        go_wp2_with fail
        go_quiet (fail)
        go_wp2_with fail
        go_roundw
        case rel => exact ⟨(n : Int) - 1, by omega, by omega, by first | rfl | go_num, by rw [HN.out, HE.out], ⟨by simpa using HX.out⟩, ⟨by simpa using HY.out⟩, ⟨pw_below_drewN HB.out _⟩⟩
        case measure => simp [intOf] <;> omega
    · obtain rfl : k = -1 := by omega
      rw [show ((-1 : Int) + 1).toNat = 0 from rfl, List.drop_zero, List.drop_zero, HLL.out]
      have t1 := HML.out
      have t2 := HTL.out
      obtain ⟨S1, hS1⟩ : ∃ S1, textS y m d h i s u = S1 := ⟨_, rfl⟩
      obtain ⟨S2, hS2⟩ : ∃ S2, textS y' m' d' h' i' s' u' = S2 := ⟨_, rfl⟩
      rw [hS1, hS2] at t2
      have HS1 := Aside0.mk hS1
      have HS2 := Aside0.mk hS2
      clear hS1 hS2
      go_wp2_with fail
      have z0 : (wr).cell? ⟨w.heap.size, 0, none⟩ = some (.int .i64 y) := blk_cell HX.out 0
      have z1 : (wr).cell? ⟨w.heap.size, 1, none⟩ = some (.int .i64 m) := blk_cell HX.out 1
      have z2 : (wr).cell? ⟨w.heap.size, 2, none⟩ = some (.int .i64 d) := blk_cell HX.out 2
      have z3 : (wr).cell? ⟨w.heap.size, 3, none⟩ = some (.int .i64 h) := blk_cell HX.out 3
      have z4 : (wr).cell? ⟨w.heap.size, 4, none⟩ = some (.int .i64 i) := blk_cell HX.out 4
      have z5 : (wr).cell? ⟨w.heap.size, 5, none⟩ = some (.int .i64 s) := blk_cell HX.out 5
      have z6 : (wr).cell? ⟨w.heap.size, 6, none⟩ = some (.int .i64 u) := blk_cell HX.out 6
      have q0 : (wr).cell? ⟨w.heap.size + 1, 0, none⟩ = some (.int .i64 y') := blk_cell HY.out 0
      have q1 : (wr).cell? ⟨w.heap.size + 1, 1, none⟩ = some (.int .i64 m') := blk_cell HY.out 1
      have q2 : (wr).cell? ⟨w.heap.size + 1, 2, none⟩ = some (.int .i64 d') := blk_cell HY.out 2
      have q3 : (wr).cell? ⟨w.heap.size + 1, 3, none⟩ = some (.int .i64 h') := blk_cell HY.out 3
      have q4 : (wr).cell? ⟨w.heap.size + 1, 4, none⟩ = some (.int .i64 i') := blk_cell HY.out 4
      have q5 : (wr).cell? ⟨w.heap.size + 1, 5, none⟩ = some (.int .i64 s') := blk_cell HY.out 5
      have q6 : (wr).cell? ⟨w.heap.size + 1, 6, none⟩ = some (.int .i64 u') := blk_cell HY.out 6
      refine start_ (n := 20) (S := fun w' => w'.cell? ⟨w.heap.size, 0, none⟩ = some (.int .i64 y) ∧ w'.cell? ⟨w.heap.size, 1, none⟩ = some (.int .i64 m) ∧ w'.cell? ⟨w.heap.size, 2, none⟩ = some (.int .i64 d) ∧ w'.cell? ⟨w.heap.size, 3, none⟩ = some (.int .i64 h) ∧ w'.cell? ⟨w.heap.size, 4, none⟩ = some (.int .i64 i) ∧ w'.cell? ⟨w.heap.size, 5, none⟩ = some (.int .i64 s) ∧ w'.cell? ⟨w.heap.size, 6, none⟩ = some (.int .i64 u) ∧ w'.cell? ⟨w.heap.size + 1, 0, none⟩ = some (.int .i64 y') ∧ w'.cell? ⟨w.heap.size + 1, 1, none⟩ = some (.int .i64 m') ∧ w'.cell? ⟨w.heap.size + 1, 2, none⟩ = some (.int .i64 d') ∧ w'.cell? ⟨w.heap.size + 1, 3, none⟩ = some (.int .i64 h') ∧ w'.cell? ⟨w.heap.size + 1, 4, none⟩ = some (.int .i64 i') ∧ w'.cell? ⟨w.heap.size + 1, 5, none⟩ = some (.int .i64 s') ∧ w'.cell? ⟨w.heap.size + 1, 6, none⟩ = some (.int .i64 u')) (ds := []) #[false, false, false, false, false, false, false, false, false, false, false, false, false, false, false, false, false, false, false, false] (by kernel_rfl) rfl rfl ⟨z0, z1, z2, z3, z4, z5, z6, q0, q1, q2, q3, q4, q5, q6⟩ (fun hHeld => ?_)
      refine pure_ (i := 0) (N := some 55) (v := ?_) (a' := ?_) #[true, false, false, false, false, false, false, false, false, false, false, false, false, false, false, false, false, false, false, false] rfl rfl (by kernel_rfl) (fun _ _ _ h => h) (Or.inl ⟨by rfl, ?_⟩) ?_ ?_
      rotate_left
      · intro w'
        go_simp
        with_reducible rfl
      rotate_left
      · simp only [Act.put, List.setIfInBounds_toArray, List.set_cons_zero, List.set_cons_succ, i64_w, i32_w]
        rfl
      refine pure_ (i := 1) (N := some 56) (v := ?_) (a' := ?_) #[true, true, false, false, false, false, false, false, false, false, false, false, false, false, false, false, false, false, false, false] rfl rfl (by kernel_rfl) (fun _ _ _ h => h) (Or.inl ⟨by rfl, ?_⟩) ?_ ?_
      rotate_left
      · intro w'
        go_simp
        with_reducible rfl
      rotate_left
      · simp only [Act.put, List.setIfInBounds_toArray, List.set_cons_zero, List.set_cons_succ, i64_w, i32_w]
        rfl
      refine pure_ (i := 2) (N := some 57) (v := ?_) (a' := ?_) #[true, true, true, false, false, false, false, false, false, false, false, false, false, false, false, false, false, false, false, false] rfl rfl (by kernel_rfl) (fun _ _ _ h => h) (Or.inl ⟨by rfl, ?_⟩) ?_ ?_
      rotate_left
      · intro w'
        go_simp
        with_reducible rfl
      rotate_left
      · simp only [Act.put, List.setIfInBounds_toArray, List.set_cons_zero, List.set_cons_succ, i64_w, i32_w]
        rfl
      refine pure_ (i := 3) (N := some 58) (v := ?_) (a' := ?_) #[true, true, true, true, false, false, false, false, false, false, false, false, false, false, false, false, false, false, false, false] rfl rfl (by kernel_rfl) (fun _ _ _ h => h) (Or.inl ⟨by rfl, ?_⟩) ?_ ?_
      rotate_left
      · intro w'
        go_simp
        with_reducible rfl
      rotate_left
      · simp only [Act.put, List.setIfInBounds_toArray, List.set_cons_zero, List.set_cons_succ, i64_w, i32_w]
        rfl
      refine pure_ (i := 4) (N := some 59) (v := ?_) (a' := ?_) #[true, true, true, true, true, false, false, false, false, false, false, false, false, false, false, false, false, false, false, false] rfl rfl (by kernel_rfl) (fun _ _ _ h => h) (Or.inl ⟨by rfl, ?_⟩) ?_ ?_
      rotate_left
      · intro w'
        go_simp
        with_reducible rfl
      rotate_left
      · simp only [Act.put, List.setIfInBounds_toArray, List.set_cons_zero, List.set_cons_succ, i64_w, i32_w]
        rfl
      refine pure_ (i := 5) (N := some 60) (v := ?_) (a' := ?_) #[true, true, true, true, true, true, false, false, false, false, false, false, false, false, false, false, false, false, false, false] rfl rfl (by kernel_rfl) (fun _ _ _ h => h) (Or.inl ⟨by rfl, ?_⟩) ?_ ?_
      rotate_left
      · intro w'
        go_simp
        with_reducible rfl
      rotate_left
      · simp only [Act.put, List.setIfInBounds_toArray, List.set_cons_zero, List.set_cons_succ, i64_w, i32_w]
        rfl
      refine pure_ (i := 13) (N := some 68) (v := ?_) (a' := ?_) #[true, true, true, true, true, true, false, false, false, false, false, false, false, true, false, false, false, false, false, false] rfl rfl (by kernel_rfl) (fun _ _ _ h => h) (Or.inl ⟨by rfl, ?_⟩) ?_ ?_
      rotate_left
      · intro w'
        go_simp
        with_reducible rfl
      rotate_left
      · simp only [Act.put, List.setIfInBounds_toArray, List.set_cons_zero, List.set_cons_succ, i64_w, i32_w]
        rfl
      refine take_ (i := 6) (N := some 61) (v := ?_) (a' := ?_) #[true, true, true, true, true, true, true, false, false, false, false, false, false, true, false, false, false, false, false, false] rfl rfl (by kernel_rfl) (fun _ _ _ h => h) (Or.inl ⟨by rfl, ?_⟩) hHeld ?_ ?_
      rotate_left
      · rintro w' ⟨s0, s1, s2, s3, s4, s5, s6, s7, s8, s9, s10, s11, s12, s13⟩
        go_simp
        with_reducible rfl
      rotate_left
      · simp only [Act.put, List.setIfInBounds_toArray, List.set_cons_zero, List.set_cons_succ, i64_w, i32_w]
        rfl
      refine take_ (i := 9) (N := some 64) (v := ?_) (a' := ?_) #[true, true, true, true, true, true, true, false, false, true, false, false, false, true, false, false, false, false, false, false] rfl rfl (by kernel_rfl) (fun _ _ _ h => h) (Or.inl ⟨by rfl, ?_⟩) hHeld ?_ ?_
      rotate_left
      · rintro w' ⟨s0, s1, s2, s3, s4, s5, s6, s7, s8, s9, s10, s11, s12, s13⟩
        go_simp
        with_reducible rfl
      rotate_left
      · simp only [Act.put, List.setIfInBounds_toArray, List.set_cons_zero, List.set_cons_succ, i64_w, i32_w]
        rfl
      refine one_ (i := 7) (N := some 62) #[true, true, true, true, true, true, true, true, false, true, false, false, false, true, false, false, false, false, false, false] rfl rfl (by kernel_rfl) (by decide) (fun K hK => ?_)
      refine goes_ Try.func22 (by kernel_rfl) rfl #[.agg #[.int .i64 y, .int .i64 m, .int .i64 d, .int .i64 h, .int .i64 i, .int .i64 s, .int .i64 u]] (by rfl) rfl rfl (by (try simp only [List.map_toArray, List.map_cons, List.map_nil]); first | done | rfl) ?_
      with_reducible refine (civ_to_calls y m d h i s u _).mono ?_
      rintro e u1 ⟨rfl, hb1⟩
      refine ⟨_, rfl, ?_⟩
      refine hK.out _ _ ⟨(pw_cell_below hb1 hHeld.1), (pw_cell_below hb1 hHeld.2.1), (pw_cell_below hb1 hHeld.2.2.1), (pw_cell_below hb1 hHeld.2.2.2.1), (pw_cell_below hb1 hHeld.2.2.2.2.1), (pw_cell_below hb1 hHeld.2.2.2.2.2.1), (pw_cell_below hb1 hHeld.2.2.2.2.2.2.1), (pw_cell_below hb1 hHeld.2.2.2.2.2.2.2.1), (pw_cell_below hb1 hHeld.2.2.2.2.2.2.2.2.1), (pw_cell_below hb1 hHeld.2.2.2.2.2.2.2.2.2.1), (pw_cell_below hb1 hHeld.2.2.2.2.2.2.2.2.2.2.1), (pw_cell_below hb1 hHeld.2.2.2.2.2.2.2.2.2.2.2.1), (pw_cell_below hb1 hHeld.2.2.2.2.2.2.2.2.2.2.2.2.1), (pw_cell_below hb1 hHeld.2.2.2.2.2.2.2.2.2.2.2.2.2)⟩ (fun hHeld => ?_)
      clear hK K
      refine norm_ (a' := ?_) ?_ ?_
      rotate_left
      · show Act.put _ (some 62) _ = _
        simp only [Act.put, List.setIfInBounds_toArray, List.set_cons_zero, List.set_cons_succ, i64_w, i32_w]
        rfl
      refine one_ (i := 8) (N := some 63) #[true, true, true, true, true, true, true, true, true, true, false, false, false, true, false, false, false, false, false, false] rfl rfl (by kernel_rfl) (by decide) (fun K hK => ?_)
      refine goes_ Try.func29 (by kernel_rfl) rfl #[.agg #[.int .i64 y, .int .i64 m, .int .i64 d, .int .i64 h, .int .i64 i, .int .i64 s, .int .i64 u]] (by rfl) rfl rfl (by (try simp only [List.map_toArray, List.map_cons, List.map_nil]); first | done | rfl) ?_
      with_reducible refine (civil_Text_calls y m d h i s u _ HR.out).mono ?_
      rintro e u2 ⟨rfl, hb2⟩
      refine ⟨_, rfl, ?_⟩
      rw [HS1.out]
      refine hK.out _ _ ⟨(pw_cell_below hb2 hHeld.1), (pw_cell_below hb2 hHeld.2.1), (pw_cell_below hb2 hHeld.2.2.1), (pw_cell_below hb2 hHeld.2.2.2.1), (pw_cell_below hb2 hHeld.2.2.2.2.1), (pw_cell_below hb2 hHeld.2.2.2.2.2.1), (pw_cell_below hb2 hHeld.2.2.2.2.2.2.1), (pw_cell_below hb2 hHeld.2.2.2.2.2.2.2.1), (pw_cell_below hb2 hHeld.2.2.2.2.2.2.2.2.1), (pw_cell_below hb2 hHeld.2.2.2.2.2.2.2.2.2.1), (pw_cell_below hb2 hHeld.2.2.2.2.2.2.2.2.2.2.1), (pw_cell_below hb2 hHeld.2.2.2.2.2.2.2.2.2.2.2.1), (pw_cell_below hb2 hHeld.2.2.2.2.2.2.2.2.2.2.2.2.1), (pw_cell_below hb2 hHeld.2.2.2.2.2.2.2.2.2.2.2.2.2)⟩ (fun hHeld => ?_)
      clear hK K
      refine norm_ (a' := ?_) ?_ ?_
      rotate_left
      · show Act.put _ (some 63) _ = _
        simp only [Act.put, List.setIfInBounds_toArray, List.set_cons_zero, List.set_cons_succ, i64_w, i32_w]
        rfl
      refine one_ (i := 10) (N := some 65) #[true, true, true, true, true, true, true, true, true, true, true, false, false, true, false, false, false, false, false, false] rfl rfl (by kernel_rfl) (by decide) (fun K hK => ?_)
      refine goes_ Try.func22 (by kernel_rfl) rfl #[.agg #[.int .i64 y', .int .i64 m', .int .i64 d', .int .i64 h', .int .i64 i', .int .i64 s', .int .i64 u']] (by rfl) rfl rfl (by (try simp only [List.map_toArray, List.map_cons, List.map_nil]); first | done | rfl) ?_
      with_reducible refine (civ_to_calls y' m' d' h' i' s' u' _).mono ?_
      rintro e u3 ⟨rfl, hb3⟩
      refine ⟨_, rfl, ?_⟩
      refine hK.out _ _ ⟨(pw_cell_below hb3 hHeld.1), (pw_cell_below hb3 hHeld.2.1), (pw_cell_below hb3 hHeld.2.2.1), (pw_cell_below hb3 hHeld.2.2.2.1), (pw_cell_below hb3 hHeld.2.2.2.2.1), (pw_cell_below hb3 hHeld.2.2.2.2.2.1), (pw_cell_below hb3 hHeld.2.2.2.2.2.2.1), (pw_cell_below hb3 hHeld.2.2.2.2.2.2.2.1), (pw_cell_below hb3 hHeld.2.2.2.2.2.2.2.2.1), (pw_cell_below hb3 hHeld.2.2.2.2.2.2.2.2.2.1), (pw_cell_below hb3 hHeld.2.2.2.2.2.2.2.2.2.2.1), (pw_cell_below hb3 hHeld.2.2.2.2.2.2.2.2.2.2.2.1), (pw_cell_below hb3 hHeld.2.2.2.2.2.2.2.2.2.2.2.2.1), (pw_cell_below hb3 hHeld.2.2.2.2.2.2.2.2.2.2.2.2.2)⟩ (fun hHeld => ?_)
      clear hK K
      refine norm_ (a' := ?_) ?_ ?_
      rotate_left
      · show Act.put _ (some 65) _ = _
        simp only [Act.put, List.setIfInBounds_toArray, List.set_cons_zero, List.set_cons_succ, i64_w, i32_w]
        rfl
      refine one_ (i := 11) (N := some 66) #[true, true, true, true, true, true, true, true, true, true, true, true, false, true, false, false, false, false, false, false] rfl rfl (by kernel_rfl) (by decide) (fun K hK => ?_)
      refine goes_ Try.func29 (by kernel_rfl) rfl #[.agg #[.int .i64 y', .int .i64 m', .int .i64 d', .int .i64 h', .int .i64 i', .int .i64 s', .int .i64 u']] (by rfl) rfl rfl (by (try simp only [List.map_toArray, List.map_cons, List.map_nil]); first | done | rfl) ?_
      with_reducible refine (civil_Text_calls y' m' d' h' i' s' u' _ HR'.out).mono ?_
      rintro e u4 ⟨rfl, hb4⟩
      refine ⟨_, rfl, ?_⟩
      rw [HS2.out]
      refine hK.out _ _ ⟨(pw_cell_below hb4 hHeld.1), (pw_cell_below hb4 hHeld.2.1), (pw_cell_below hb4 hHeld.2.2.1), (pw_cell_below hb4 hHeld.2.2.2.1), (pw_cell_below hb4 hHeld.2.2.2.2.1), (pw_cell_below hb4 hHeld.2.2.2.2.2.1), (pw_cell_below hb4 hHeld.2.2.2.2.2.2.1), (pw_cell_below hb4 hHeld.2.2.2.2.2.2.2.1), (pw_cell_below hb4 hHeld.2.2.2.2.2.2.2.2.1), (pw_cell_below hb4 hHeld.2.2.2.2.2.2.2.2.2.1), (pw_cell_below hb4 hHeld.2.2.2.2.2.2.2.2.2.2.1), (pw_cell_below hb4 hHeld.2.2.2.2.2.2.2.2.2.2.2.1), (pw_cell_below hb4 hHeld.2.2.2.2.2.2.2.2.2.2.2.2.1), (pw_cell_below hb4 hHeld.2.2.2.2.2.2.2.2.2.2.2.2.2)⟩ (fun hHeld => ?_)
      clear hK K
      refine norm_ (a' := ?_) ?_ ?_
      rotate_left
      · show Act.put _ (some 66) _ = _
        simp only [Act.put, List.setIfInBounds_toArray, List.set_cons_zero, List.set_cons_succ, i64_w, i32_w]
        rfl
      refine pure_ (i := 12) (N := some 67) (v := ?_) (a' := ?_) #[true, true, true, true, true, true, true, true, true, true, true, true, true, true, false, false, false, false, false, false] rfl rfl (by kernel_rfl) (fun _ _ _ h => h) (Or.inl ⟨by rfl, ?_⟩) ?_ ?_
      rotate_left
      · intro w'
        go_simp
        with_reducible rfl
      rotate_left
      · simp only [Act.put, List.setIfInBounds_toArray, List.set_cons_zero, List.set_cons_succ, i64_w, i32_w]
        rfl
      refine pure_ (i := 14) (N := some 69) (v := ?_) (a' := ?_) #[true, true, true, true, true, true, true, true, true, true, true, true, true, true, true, false, false, false, false, false] rfl rfl (by kernel_rfl) (fun _ _ _ h => h) (Or.inl ⟨by rfl, ?_⟩) ?_ ?_
      rotate_left
      · intro w'
        go_simp
        with_reducible rfl
      rotate_left
      · simp only [Act.put, List.setIfInBounds_toArray, List.set_cons_zero, List.set_cons_succ, i64_w, i32_w]
        rfl
      refine pure_ (i := 15) (N := some 70) (v := ?_) (a' := ?_) #[true, true, true, true, true, true, true, true, true, true, true, true, true, true, true, true, false, false, false, false] rfl rfl (by kernel_rfl) (fun _ _ _ h => h) (Or.inl ⟨by rfl, ?_⟩) ?_ ?_
      rotate_left
      · intro w'
        go_simp
        with_reducible rfl
      rotate_left
      · simp only [Act.put, List.setIfInBounds_toArray, List.set_cons_zero, List.set_cons_succ, i64_w, i32_w]
        rfl
      refine pure_ (i := 16) (N := some 71) (v := ?_) (a' := ?_) #[true, true, true, true, true, true, true, true, true, true, true, true, true, true, true, true, true, false, false, false] rfl rfl (by kernel_rfl) (fun _ _ _ h => h) (Or.inl ⟨by rfl, ?_⟩) ?_ ?_
      rotate_left
      · intro w'
        go_simp
        with_reducible rfl
      rotate_left
      · simp only [Act.put, List.setIfInBounds_toArray, List.set_cons_zero, List.set_cons_succ, i64_w, i32_w]
        rfl
      refine one_ (i := 17) (N := some 72) #[true, true, true, true, true, true, true, true, true, true, true, true, true, true, true, true, true, true, false, false] rfl rfl (by kernel_rfl) (by decide) (fun K hK => ?_)
      refine goes_ Try.func19 (by kernel_rfl) rfl #[] (by rfl) rfl rfl (by (try simp only [List.map_toArray, List.map_cons, List.map_nil]); first | done | rfl) ?_
      with_reducible refine (civ_awake_calls _).mono ?_
      rintro e u5 ⟨rfl, hb5⟩
      refine ⟨_, rfl, ?_⟩
      refine hK.out _ _ ⟨(pw_cell_below hb5 hHeld.1), (pw_cell_below hb5 hHeld.2.1), (pw_cell_below hb5 hHeld.2.2.1), (pw_cell_below hb5 hHeld.2.2.2.1), (pw_cell_below hb5 hHeld.2.2.2.2.1), (pw_cell_below hb5 hHeld.2.2.2.2.2.1), (pw_cell_below hb5 hHeld.2.2.2.2.2.2.1), (pw_cell_below hb5 hHeld.2.2.2.2.2.2.2.1), (pw_cell_below hb5 hHeld.2.2.2.2.2.2.2.2.1), (pw_cell_below hb5 hHeld.2.2.2.2.2.2.2.2.2.1), (pw_cell_below hb5 hHeld.2.2.2.2.2.2.2.2.2.2.1), (pw_cell_below hb5 hHeld.2.2.2.2.2.2.2.2.2.2.2.1), (pw_cell_below hb5 hHeld.2.2.2.2.2.2.2.2.2.2.2.2.1), (pw_cell_below hb5 hHeld.2.2.2.2.2.2.2.2.2.2.2.2.2)⟩ (fun hHeld => ?_)
      clear hK K
      refine norm_ (a' := ?_) ?_ ?_
      rotate_left
      · show Act.put _ (some 72) _ = _
        simp only [Act.put, List.setIfInBounds_toArray, List.set_cons_zero, List.set_cons_succ, i64_w, i32_w]
        rfl
      refine pure_ (i := 18) (N := some 73) (v := ?_) (a' := ?_) #[true, true, true, true, true, true, true, true, true, true, true, true, true, true, true, true, true, true, true, false] rfl rfl (by kernel_rfl) (fun _ _ _ h => h) (Or.inl ⟨by rfl, ?_⟩) ?_ ?_
      rotate_left
      · intro w'
        go_simp
        with_reducible rfl
      rotate_left
      · simp only [Act.put, List.setIfInBounds_toArray, List.set_cons_zero, List.set_cons_succ, i64_w, i32_w]
        rfl
      refine pure_ (i := 19) (N := some 4) (v := ?_) (a' := ?_) #[true, true, true, true, true, true, true, true, true, true, true, true, true, true, true, true, true, true, true, true] rfl rfl (by kernel_rfl) (fun _ _ _ h => h) (Or.inl ⟨by rfl, ?_⟩) ?_ ?_
      rotate_left
      · intro w'
        go_simp
        with_reducible rfl
      rotate_left
      · simp only [Act.put, List.setIfInBounds_toArray, List.set_cons_zero, List.set_cons_succ, i64_w, i32_w]
        rfl
      refine done_ (by kernel_rfl) ?_
      have HBE := Aside0.mk (below_step (below_step (below_step (below_step (below_step (below_drew HB.out) hb1) hb2) hb3) hb4) hb5)
      clear hb1 hb2 hb3 hb4 hb5 z0 z1 z2 z3 z4 z5 z6 q0 q1 q2 q3 q4 q5 q6
      go_wp2_with fail
      go_ret
      exact ⟨rfl, HBE.out⟩
set_option maxHeartbeats 8000000 in
set_option maxRecDepth 100000 in
theorem CivilOrders_far1 (y m d h i s u y' m' d' h' i' s' u' : Int) (w : World) (hr : rightB y m d h i s u = false) : Calls Try.prog 6 #[.agg #[.int .i64 y, .int .i64 m, .int .i64 d, .int .i64 h, .int .i64 i, .int .i64 s, .int .i64 u], .agg #[.int .i64 y', .int .i64 m', .int .i64 d', .int .i64 h', .int .i64 i', .int .i64 s', .int .i64 u']] w fun e w' => e = .returned (.bool true) ∧ Below w.heap.size w w' := by
  have HR := Aside0.mk hr
  clear hr
  have HX0 := Aside0.mk (blk_below (blk_new w (.cells #[.int .i64 y, .int .i64 m, .int .i64 d, .int .i64 h, .int .i64 i, .int .i64 s, .int .i64 u] 31)) (below_alloc (Below.refl _ _) (.cells #[.int .i64 y', .int .i64 m', .int .i64 d', .int .i64 h', .int .i64 i', .int .i64 s', .int .i64 u'] 31)))
  have HY0 := Aside0.mk (blk_new (w.alloc (.cells #[.int .i64 y, .int .i64 m, .int .i64 d, .int .i64 h, .int .i64 i, .int .i64 s, .int .i64 u] 31)) (.cells #[.int .i64 y', .int .i64 m', .int .i64 d', .int .i64 h', .int .i64 i', .int .i64 s', .int .i64 u'] 31))
  rw [show (w.alloc (.cells #[.int .i64 y, .int .i64 m, .int .i64 d, .int .i64 h, .int .i64 i, .int .i64 s, .int .i64 u] 31)).heap.size = w.heap.size + 1 from Array.size_push _] at HY0
  have HB0 := Aside0.mk (below_alloc (below_alloc (Below.refl w.heap.size w) (.cells #[.int .i64 y, .int .i64 m, .int .i64 d, .int .i64 h, .int .i64 i, .int .i64 s, .int .i64 u] 31)) (.cells #[.int .i64 y', .int .i64 m', .int .i64 d', .int .i64 h', .int .i64 i', .int .i64 s', .int .i64 u'] 31))
  have z0 : ((w.alloc (.cells #[.int .i64 y, .int .i64 m, .int .i64 d, .int .i64 h, .int .i64 i, .int .i64 s, .int .i64 u] 31)).alloc (.cells #[.int .i64 y', .int .i64 m', .int .i64 d', .int .i64 h', .int .i64 i', .int .i64 s', .int .i64 u'] 31)).cell? ⟨w.heap.size, 0, none⟩ = some (.int .i64 y) := blk_cell HX0.out 0
  have z1 : ((w.alloc (.cells #[.int .i64 y, .int .i64 m, .int .i64 d, .int .i64 h, .int .i64 i, .int .i64 s, .int .i64 u] 31)).alloc (.cells #[.int .i64 y', .int .i64 m', .int .i64 d', .int .i64 h', .int .i64 i', .int .i64 s', .int .i64 u'] 31)).cell? ⟨w.heap.size, 1, none⟩ = some (.int .i64 m) := blk_cell HX0.out 1
  have z2 : ((w.alloc (.cells #[.int .i64 y, .int .i64 m, .int .i64 d, .int .i64 h, .int .i64 i, .int .i64 s, .int .i64 u] 31)).alloc (.cells #[.int .i64 y', .int .i64 m', .int .i64 d', .int .i64 h', .int .i64 i', .int .i64 s', .int .i64 u'] 31)).cell? ⟨w.heap.size, 2, none⟩ = some (.int .i64 d) := blk_cell HX0.out 2
  have z3 : ((w.alloc (.cells #[.int .i64 y, .int .i64 m, .int .i64 d, .int .i64 h, .int .i64 i, .int .i64 s, .int .i64 u] 31)).alloc (.cells #[.int .i64 y', .int .i64 m', .int .i64 d', .int .i64 h', .int .i64 i', .int .i64 s', .int .i64 u'] 31)).cell? ⟨w.heap.size, 3, none⟩ = some (.int .i64 h) := blk_cell HX0.out 3
  have z4 : ((w.alloc (.cells #[.int .i64 y, .int .i64 m, .int .i64 d, .int .i64 h, .int .i64 i, .int .i64 s, .int .i64 u] 31)).alloc (.cells #[.int .i64 y', .int .i64 m', .int .i64 d', .int .i64 h', .int .i64 i', .int .i64 s', .int .i64 u'] 31)).cell? ⟨w.heap.size, 4, none⟩ = some (.int .i64 i) := blk_cell HX0.out 4
  have z5 : ((w.alloc (.cells #[.int .i64 y, .int .i64 m, .int .i64 d, .int .i64 h, .int .i64 i, .int .i64 s, .int .i64 u] 31)).alloc (.cells #[.int .i64 y', .int .i64 m', .int .i64 d', .int .i64 h', .int .i64 i', .int .i64 s', .int .i64 u'] 31)).cell? ⟨w.heap.size, 5, none⟩ = some (.int .i64 s) := blk_cell HX0.out 5
  have z6 : ((w.alloc (.cells #[.int .i64 y, .int .i64 m, .int .i64 d, .int .i64 h, .int .i64 i, .int .i64 s, .int .i64 u] 31)).alloc (.cells #[.int .i64 y', .int .i64 m', .int .i64 d', .int .i64 h', .int .i64 i', .int .i64 s', .int .i64 u'] 31)).cell? ⟨w.heap.size, 6, none⟩ = some (.int .i64 u) := blk_cell HX0.out 6
  have q0 : ((w.alloc (.cells #[.int .i64 y, .int .i64 m, .int .i64 d, .int .i64 h, .int .i64 i, .int .i64 s, .int .i64 u] 31)).alloc (.cells #[.int .i64 y', .int .i64 m', .int .i64 d', .int .i64 h', .int .i64 i', .int .i64 s', .int .i64 u'] 31)).cell? ⟨w.heap.size + 1, 0, none⟩ = some (.int .i64 y') := blk_cell HY0.out 0
  have q1 : ((w.alloc (.cells #[.int .i64 y, .int .i64 m, .int .i64 d, .int .i64 h, .int .i64 i, .int .i64 s, .int .i64 u] 31)).alloc (.cells #[.int .i64 y', .int .i64 m', .int .i64 d', .int .i64 h', .int .i64 i', .int .i64 s', .int .i64 u'] 31)).cell? ⟨w.heap.size + 1, 1, none⟩ = some (.int .i64 m') := blk_cell HY0.out 1
  have q2 : ((w.alloc (.cells #[.int .i64 y, .int .i64 m, .int .i64 d, .int .i64 h, .int .i64 i, .int .i64 s, .int .i64 u] 31)).alloc (.cells #[.int .i64 y', .int .i64 m', .int .i64 d', .int .i64 h', .int .i64 i', .int .i64 s', .int .i64 u'] 31)).cell? ⟨w.heap.size + 1, 2, none⟩ = some (.int .i64 d') := blk_cell HY0.out 2
  have q3 : ((w.alloc (.cells #[.int .i64 y, .int .i64 m, .int .i64 d, .int .i64 h, .int .i64 i, .int .i64 s, .int .i64 u] 31)).alloc (.cells #[.int .i64 y', .int .i64 m', .int .i64 d', .int .i64 h', .int .i64 i', .int .i64 s', .int .i64 u'] 31)).cell? ⟨w.heap.size + 1, 3, none⟩ = some (.int .i64 h') := blk_cell HY0.out 3
  have q4 : ((w.alloc (.cells #[.int .i64 y, .int .i64 m, .int .i64 d, .int .i64 h, .int .i64 i, .int .i64 s, .int .i64 u] 31)).alloc (.cells #[.int .i64 y', .int .i64 m', .int .i64 d', .int .i64 h', .int .i64 i', .int .i64 s', .int .i64 u'] 31)).cell? ⟨w.heap.size + 1, 4, none⟩ = some (.int .i64 i') := blk_cell HY0.out 4
  have q5 : ((w.alloc (.cells #[.int .i64 y, .int .i64 m, .int .i64 d, .int .i64 h, .int .i64 i, .int .i64 s, .int .i64 u] 31)).alloc (.cells #[.int .i64 y', .int .i64 m', .int .i64 d', .int .i64 h', .int .i64 i', .int .i64 s', .int .i64 u'] 31)).cell? ⟨w.heap.size + 1, 5, none⟩ = some (.int .i64 s') := blk_cell HY0.out 5
  have q6 : ((w.alloc (.cells #[.int .i64 y, .int .i64 m, .int .i64 d, .int .i64 h, .int .i64 i, .int .i64 s, .int .i64 u] 31)).alloc (.cells #[.int .i64 y', .int .i64 m', .int .i64 d', .int .i64 h', .int .i64 i', .int .i64 s', .int .i64 u'] 31)).cell? ⟨w.heap.size + 1, 6, none⟩ = some (.int .i64 u') := blk_cell HY0.out 6
  go_enter Try.func6, Try.ntmps6
  go_wp2_with fail
  refine (ref_Right_calls y m d h i s u _).mono ?_
  rintro e w1 ⟨rfl, hb⟩
  have HB1 := Aside0.mk (below_step HB0.out hb)
  have HX1 := Aside0.mk (blk_below HX0.out hb)
  have HY1 := Aside0.mk (blk_below HY0.out hb)
  clear hb z0 z1 z2 z3 z4 z5 z6 q0 q1 q2 q3 q4 q5 q6
  rw [HR.out]
  have z0 : (w1).cell? ⟨w.heap.size, 0, none⟩ = some (.int .i64 y) := blk_cell HX1.out 0
  have z1 : (w1).cell? ⟨w.heap.size, 1, none⟩ = some (.int .i64 m) := blk_cell HX1.out 1
  have z2 : (w1).cell? ⟨w.heap.size, 2, none⟩ = some (.int .i64 d) := blk_cell HX1.out 2
  have z3 : (w1).cell? ⟨w.heap.size, 3, none⟩ = some (.int .i64 h) := blk_cell HX1.out 3
  have z4 : (w1).cell? ⟨w.heap.size, 4, none⟩ = some (.int .i64 i) := blk_cell HX1.out 4
  have z5 : (w1).cell? ⟨w.heap.size, 5, none⟩ = some (.int .i64 s) := blk_cell HX1.out 5
  have z6 : (w1).cell? ⟨w.heap.size, 6, none⟩ = some (.int .i64 u) := blk_cell HX1.out 6
  have q0 : (w1).cell? ⟨w.heap.size + 1, 0, none⟩ = some (.int .i64 y') := blk_cell HY1.out 0
  have q1 : (w1).cell? ⟨w.heap.size + 1, 1, none⟩ = some (.int .i64 m') := blk_cell HY1.out 1
  have q2 : (w1).cell? ⟨w.heap.size + 1, 2, none⟩ = some (.int .i64 d') := blk_cell HY1.out 2
  have q3 : (w1).cell? ⟨w.heap.size + 1, 3, none⟩ = some (.int .i64 h') := blk_cell HY1.out 3
  have q4 : (w1).cell? ⟨w.heap.size + 1, 4, none⟩ = some (.int .i64 i') := blk_cell HY1.out 4
  have q5 : (w1).cell? ⟨w.heap.size + 1, 5, none⟩ = some (.int .i64 s') := blk_cell HY1.out 5
  have q6 : (w1).cell? ⟨w.heap.size + 1, 6, none⟩ = some (.int .i64 u') := blk_cell HY1.out 6
  go_wp2_with fail
  refine (civ_awake_calls _).mono ?_
  rintro e w2 ⟨rfl, hb⟩
  have HB2 := Aside0.mk (below_step HB1.out hb)
  have HX2 := Aside0.mk (blk_below HX1.out hb)
  have HY2 := Aside0.mk (blk_below HY1.out hb)
  clear hb
  go_wp2_with fail
  go_ret
  exact ⟨rfl, HB2.out⟩
set_option maxHeartbeats 8000000 in
set_option maxRecDepth 100000 in
theorem CivilOrders_far2 (y m d h i s u y' m' d' h' i' s' u' : Int) (w : World) (hr : rightB y m d h i s u = true) (hr' : rightB y' m' d' h' i' s' u' = false) : Calls Try.prog 6 #[.agg #[.int .i64 y, .int .i64 m, .int .i64 d, .int .i64 h, .int .i64 i, .int .i64 s, .int .i64 u], .agg #[.int .i64 y', .int .i64 m', .int .i64 d', .int .i64 h', .int .i64 i', .int .i64 s', .int .i64 u']] w fun e w' => e = .returned (.bool true) ∧ Below w.heap.size w w' := by
  have HR := Aside0.mk hr
  have HR' := Aside0.mk hr'
  clear hr hr'
  have HX0 := Aside0.mk (blk_below (blk_new w (.cells #[.int .i64 y, .int .i64 m, .int .i64 d, .int .i64 h, .int .i64 i, .int .i64 s, .int .i64 u] 31)) (below_alloc (Below.refl _ _) (.cells #[.int .i64 y', .int .i64 m', .int .i64 d', .int .i64 h', .int .i64 i', .int .i64 s', .int .i64 u'] 31)))
  have HY0 := Aside0.mk (blk_new (w.alloc (.cells #[.int .i64 y, .int .i64 m, .int .i64 d, .int .i64 h, .int .i64 i, .int .i64 s, .int .i64 u] 31)) (.cells #[.int .i64 y', .int .i64 m', .int .i64 d', .int .i64 h', .int .i64 i', .int .i64 s', .int .i64 u'] 31))
  rw [show (w.alloc (.cells #[.int .i64 y, .int .i64 m, .int .i64 d, .int .i64 h, .int .i64 i, .int .i64 s, .int .i64 u] 31)).heap.size = w.heap.size + 1 from Array.size_push _] at HY0
  have HB0 := Aside0.mk (below_alloc (below_alloc (Below.refl w.heap.size w) (.cells #[.int .i64 y, .int .i64 m, .int .i64 d, .int .i64 h, .int .i64 i, .int .i64 s, .int .i64 u] 31)) (.cells #[.int .i64 y', .int .i64 m', .int .i64 d', .int .i64 h', .int .i64 i', .int .i64 s', .int .i64 u'] 31))
  have z0 : ((w.alloc (.cells #[.int .i64 y, .int .i64 m, .int .i64 d, .int .i64 h, .int .i64 i, .int .i64 s, .int .i64 u] 31)).alloc (.cells #[.int .i64 y', .int .i64 m', .int .i64 d', .int .i64 h', .int .i64 i', .int .i64 s', .int .i64 u'] 31)).cell? ⟨w.heap.size, 0, none⟩ = some (.int .i64 y) := blk_cell HX0.out 0
  have z1 : ((w.alloc (.cells #[.int .i64 y, .int .i64 m, .int .i64 d, .int .i64 h, .int .i64 i, .int .i64 s, .int .i64 u] 31)).alloc (.cells #[.int .i64 y', .int .i64 m', .int .i64 d', .int .i64 h', .int .i64 i', .int .i64 s', .int .i64 u'] 31)).cell? ⟨w.heap.size, 1, none⟩ = some (.int .i64 m) := blk_cell HX0.out 1
  have z2 : ((w.alloc (.cells #[.int .i64 y, .int .i64 m, .int .i64 d, .int .i64 h, .int .i64 i, .int .i64 s, .int .i64 u] 31)).alloc (.cells #[.int .i64 y', .int .i64 m', .int .i64 d', .int .i64 h', .int .i64 i', .int .i64 s', .int .i64 u'] 31)).cell? ⟨w.heap.size, 2, none⟩ = some (.int .i64 d) := blk_cell HX0.out 2
  have z3 : ((w.alloc (.cells #[.int .i64 y, .int .i64 m, .int .i64 d, .int .i64 h, .int .i64 i, .int .i64 s, .int .i64 u] 31)).alloc (.cells #[.int .i64 y', .int .i64 m', .int .i64 d', .int .i64 h', .int .i64 i', .int .i64 s', .int .i64 u'] 31)).cell? ⟨w.heap.size, 3, none⟩ = some (.int .i64 h) := blk_cell HX0.out 3
  have z4 : ((w.alloc (.cells #[.int .i64 y, .int .i64 m, .int .i64 d, .int .i64 h, .int .i64 i, .int .i64 s, .int .i64 u] 31)).alloc (.cells #[.int .i64 y', .int .i64 m', .int .i64 d', .int .i64 h', .int .i64 i', .int .i64 s', .int .i64 u'] 31)).cell? ⟨w.heap.size, 4, none⟩ = some (.int .i64 i) := blk_cell HX0.out 4
  have z5 : ((w.alloc (.cells #[.int .i64 y, .int .i64 m, .int .i64 d, .int .i64 h, .int .i64 i, .int .i64 s, .int .i64 u] 31)).alloc (.cells #[.int .i64 y', .int .i64 m', .int .i64 d', .int .i64 h', .int .i64 i', .int .i64 s', .int .i64 u'] 31)).cell? ⟨w.heap.size, 5, none⟩ = some (.int .i64 s) := blk_cell HX0.out 5
  have z6 : ((w.alloc (.cells #[.int .i64 y, .int .i64 m, .int .i64 d, .int .i64 h, .int .i64 i, .int .i64 s, .int .i64 u] 31)).alloc (.cells #[.int .i64 y', .int .i64 m', .int .i64 d', .int .i64 h', .int .i64 i', .int .i64 s', .int .i64 u'] 31)).cell? ⟨w.heap.size, 6, none⟩ = some (.int .i64 u) := blk_cell HX0.out 6
  have q0 : ((w.alloc (.cells #[.int .i64 y, .int .i64 m, .int .i64 d, .int .i64 h, .int .i64 i, .int .i64 s, .int .i64 u] 31)).alloc (.cells #[.int .i64 y', .int .i64 m', .int .i64 d', .int .i64 h', .int .i64 i', .int .i64 s', .int .i64 u'] 31)).cell? ⟨w.heap.size + 1, 0, none⟩ = some (.int .i64 y') := blk_cell HY0.out 0
  have q1 : ((w.alloc (.cells #[.int .i64 y, .int .i64 m, .int .i64 d, .int .i64 h, .int .i64 i, .int .i64 s, .int .i64 u] 31)).alloc (.cells #[.int .i64 y', .int .i64 m', .int .i64 d', .int .i64 h', .int .i64 i', .int .i64 s', .int .i64 u'] 31)).cell? ⟨w.heap.size + 1, 1, none⟩ = some (.int .i64 m') := blk_cell HY0.out 1
  have q2 : ((w.alloc (.cells #[.int .i64 y, .int .i64 m, .int .i64 d, .int .i64 h, .int .i64 i, .int .i64 s, .int .i64 u] 31)).alloc (.cells #[.int .i64 y', .int .i64 m', .int .i64 d', .int .i64 h', .int .i64 i', .int .i64 s', .int .i64 u'] 31)).cell? ⟨w.heap.size + 1, 2, none⟩ = some (.int .i64 d') := blk_cell HY0.out 2
  have q3 : ((w.alloc (.cells #[.int .i64 y, .int .i64 m, .int .i64 d, .int .i64 h, .int .i64 i, .int .i64 s, .int .i64 u] 31)).alloc (.cells #[.int .i64 y', .int .i64 m', .int .i64 d', .int .i64 h', .int .i64 i', .int .i64 s', .int .i64 u'] 31)).cell? ⟨w.heap.size + 1, 3, none⟩ = some (.int .i64 h') := blk_cell HY0.out 3
  have q4 : ((w.alloc (.cells #[.int .i64 y, .int .i64 m, .int .i64 d, .int .i64 h, .int .i64 i, .int .i64 s, .int .i64 u] 31)).alloc (.cells #[.int .i64 y', .int .i64 m', .int .i64 d', .int .i64 h', .int .i64 i', .int .i64 s', .int .i64 u'] 31)).cell? ⟨w.heap.size + 1, 4, none⟩ = some (.int .i64 i') := blk_cell HY0.out 4
  have q5 : ((w.alloc (.cells #[.int .i64 y, .int .i64 m, .int .i64 d, .int .i64 h, .int .i64 i, .int .i64 s, .int .i64 u] 31)).alloc (.cells #[.int .i64 y', .int .i64 m', .int .i64 d', .int .i64 h', .int .i64 i', .int .i64 s', .int .i64 u'] 31)).cell? ⟨w.heap.size + 1, 5, none⟩ = some (.int .i64 s') := blk_cell HY0.out 5
  have q6 : ((w.alloc (.cells #[.int .i64 y, .int .i64 m, .int .i64 d, .int .i64 h, .int .i64 i, .int .i64 s, .int .i64 u] 31)).alloc (.cells #[.int .i64 y', .int .i64 m', .int .i64 d', .int .i64 h', .int .i64 i', .int .i64 s', .int .i64 u'] 31)).cell? ⟨w.heap.size + 1, 6, none⟩ = some (.int .i64 u') := blk_cell HY0.out 6
  go_enter Try.func6, Try.ntmps6
  go_wp2_with fail
  refine (ref_Right_calls y m d h i s u _).mono ?_
  rintro e w1 ⟨rfl, hb⟩
  have HB1 := Aside0.mk (below_step HB0.out hb)
  have HX1 := Aside0.mk (blk_below HX0.out hb)
  have HY1 := Aside0.mk (blk_below HY0.out hb)
  clear hb z0 z1 z2 z3 z4 z5 z6 q0 q1 q2 q3 q4 q5 q6
  rw [HR.out]
  have z0 : (w1).cell? ⟨w.heap.size, 0, none⟩ = some (.int .i64 y) := blk_cell HX1.out 0
  have z1 : (w1).cell? ⟨w.heap.size, 1, none⟩ = some (.int .i64 m) := blk_cell HX1.out 1
  have z2 : (w1).cell? ⟨w.heap.size, 2, none⟩ = some (.int .i64 d) := blk_cell HX1.out 2
  have z3 : (w1).cell? ⟨w.heap.size, 3, none⟩ = some (.int .i64 h) := blk_cell HX1.out 3
  have z4 : (w1).cell? ⟨w.heap.size, 4, none⟩ = some (.int .i64 i) := blk_cell HX1.out 4
  have z5 : (w1).cell? ⟨w.heap.size, 5, none⟩ = some (.int .i64 s) := blk_cell HX1.out 5
  have z6 : (w1).cell? ⟨w.heap.size, 6, none⟩ = some (.int .i64 u) := blk_cell HX1.out 6
  have q0 : (w1).cell? ⟨w.heap.size + 1, 0, none⟩ = some (.int .i64 y') := blk_cell HY1.out 0
  have q1 : (w1).cell? ⟨w.heap.size + 1, 1, none⟩ = some (.int .i64 m') := blk_cell HY1.out 1
  have q2 : (w1).cell? ⟨w.heap.size + 1, 2, none⟩ = some (.int .i64 d') := blk_cell HY1.out 2
  have q3 : (w1).cell? ⟨w.heap.size + 1, 3, none⟩ = some (.int .i64 h') := blk_cell HY1.out 3
  have q4 : (w1).cell? ⟨w.heap.size + 1, 4, none⟩ = some (.int .i64 i') := blk_cell HY1.out 4
  have q5 : (w1).cell? ⟨w.heap.size + 1, 5, none⟩ = some (.int .i64 s') := blk_cell HY1.out 5
  have q6 : (w1).cell? ⟨w.heap.size + 1, 6, none⟩ = some (.int .i64 u') := blk_cell HY1.out 6
  go_wp2_with fail
  refine (ref_Right_calls y' m' d' h' i' s' u' _).mono ?_
  rintro e w2 ⟨rfl, hb⟩
  have HB2 := Aside0.mk (below_step HB1.out hb)
  have HX2 := Aside0.mk (blk_below HX1.out hb)
  have HY2 := Aside0.mk (blk_below HY1.out hb)
  clear hb z0 z1 z2 z3 z4 z5 z6 q0 q1 q2 q3 q4 q5 q6
  rw [HR'.out]
  have z0 : (w2).cell? ⟨w.heap.size, 0, none⟩ = some (.int .i64 y) := blk_cell HX2.out 0
  have z1 : (w2).cell? ⟨w.heap.size, 1, none⟩ = some (.int .i64 m) := blk_cell HX2.out 1
  have z2 : (w2).cell? ⟨w.heap.size, 2, none⟩ = some (.int .i64 d) := blk_cell HX2.out 2
  have z3 : (w2).cell? ⟨w.heap.size, 3, none⟩ = some (.int .i64 h) := blk_cell HX2.out 3
  have z4 : (w2).cell? ⟨w.heap.size, 4, none⟩ = some (.int .i64 i) := blk_cell HX2.out 4
  have z5 : (w2).cell? ⟨w.heap.size, 5, none⟩ = some (.int .i64 s) := blk_cell HX2.out 5
  have z6 : (w2).cell? ⟨w.heap.size, 6, none⟩ = some (.int .i64 u) := blk_cell HX2.out 6
  have q0 : (w2).cell? ⟨w.heap.size + 1, 0, none⟩ = some (.int .i64 y') := blk_cell HY2.out 0
  have q1 : (w2).cell? ⟨w.heap.size + 1, 1, none⟩ = some (.int .i64 m') := blk_cell HY2.out 1
  have q2 : (w2).cell? ⟨w.heap.size + 1, 2, none⟩ = some (.int .i64 d') := blk_cell HY2.out 2
  have q3 : (w2).cell? ⟨w.heap.size + 1, 3, none⟩ = some (.int .i64 h') := blk_cell HY2.out 3
  have q4 : (w2).cell? ⟨w.heap.size + 1, 4, none⟩ = some (.int .i64 i') := blk_cell HY2.out 4
  have q5 : (w2).cell? ⟨w.heap.size + 1, 5, none⟩ = some (.int .i64 s') := blk_cell HY2.out 5
  have q6 : (w2).cell? ⟨w.heap.size + 1, 6, none⟩ = some (.int .i64 u') := blk_cell HY2.out 6
  go_wp2_with fail
  refine (civ_awake_calls _).mono ?_
  rintro e w3 ⟨rfl, hb⟩
  have HB3 := Aside0.mk (below_step HB2.out hb)
  have HX3 := Aside0.mk (blk_below HX2.out hb)
  have HY3 := Aside0.mk (blk_below HY2.out hb)
  clear hb
  go_wp2_with fail
  go_ret
  exact ⟨rfl, HB3.out⟩

theorem CivilOrders_walk (y m d h i s u y' m' d' h' i' s' u' : Int) (w : World) : Calls Try.prog 6 #[.agg #[.int .i64 y, .int .i64 m, .int .i64 d, .int .i64 h, .int .i64 i, .int .i64 s, .int .i64 u], .agg #[.int .i64 y', .int .i64 m', .int .i64 d', .int .i64 h', .int .i64 i', .int .i64 s', .int .i64 u']] w fun e w' => e = .returned (.bool true) ∧ Below w.heap.size w w' := by
  cases hr : rightB y m d h i s u
  · exact CivilOrders_far1 y m d h i s u y' m' d' h' i' s' u' w hr
  · cases hr' : rightB y' m' d' h' i' s' u'
    · exact CivilOrders_far2 y m d h i s u y' m' d' h' i' s' u' w hr hr'
    · cases hl : lexL [y, m, d, h, i, s, u] [y', m', d', h', i', s', u']
      · exact CivilOrders_false y m d h i s u y' m' d' h' i' s' u' w hr hr' hl
      · exact CivilOrders_true y m d h i s u y' m' d' h' i' s' u' w hr hr' hl
end Go.Proofs.Ytekbidjfddanhaa
