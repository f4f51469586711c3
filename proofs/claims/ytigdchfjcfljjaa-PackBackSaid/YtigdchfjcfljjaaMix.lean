/- Contracts of package mix, and of its reference, over this translation. -/
import Derived.Test.YtigdchfjcfljjaaLe3
import Derived.Test.YtigdchfjcfljjaaKp
namespace Go.Proofs.Ytigdchfjcfljjaa
open Go.RowKit Go.Proofs.YtigdchfjcfljjaaW.PrintWords Go.Proofs.YtigdchfjcfljjaaW.PrintLast Go.Proofs.YtigdchfjcfljjaaW.PrintMore
attribute [local go_sem] max2_int min2_int max_two min_two max_three min_three max_four min_four   -- for this text's walks alone
set_option linter.unusedVariables false
set_option linter.unusedSimpArgs false

def rot29 (x : Int) : Int := bits .or .u64 (IntKind.u64.wrap (x * 536870912)) (x / 34359738368)
def stirX (h w : Int) : Int := bits .xor .u64 h (IntKind.u64.wrap (w * 14029467366897019727))
def stirY (h w : Int) : Int := IntKind.u64.wrap (rot29 (stirX h w) * 11400714819323198485)
/-- The sum behind a word. -/
def stirP (h w : Int) : Int := bits .xor .u64 (stirY h w) (stirY h w / 4294967296)
theorem wrap_div (x : Int) : IntKind.u64.wrap ((IntKind.u64.wrap x).tdiv 4294967296) = IntKind.u64.wrap x / 4294967296 := by
  rw [Int.tdiv_eq_ediv_of_nonneg (by rw [IntKind.wrap_u64]; omega), IntKind.wrap_u64, IntKind.wrap_u64]
  omega
theorem or_comm_u64 (x y : Int) (hx0 : 0 ≤ x) (hx1 : x ≤ 18446744073709551615) (hy0 : 0 ≤ y) (hy1 : y ≤ 18446744073709551615) : bits .or .u64 x y = bits .or .u64 y x := by
  obtain ⟨a, rfl⟩ := Int.eq_ofNat_of_zero_le hx0
  obtain ⟨b, rfl⟩ := Int.eq_ofNat_of_zero_le hy0
  rw [u64_or_nat _ _ (by omega) (by omega), u64_or_nat _ _ (by omega) (by omega), Nat.or_comm]
theorem pow_8 (i : Nat) : (2 : Int) ^ (8 * i) = 256 ^ i := by rw [Int.pow_mul]; rfl
theorem or_step (x b : Int) (i : Nat) (hi : i ≤ 6) (hx0 : 0 ≤ x) (hx : x < 256 ^ i) (hb0 : 0 ≤ b) (hb1 : b ≤ 255) : bits .or .u64 x (IntKind.u64.wrap (b * 2 ^ (8 * i))) = x + 256 ^ i * b := by
  have h8 := pow256_7 (show i + 1 ≤ 7 by omega)
  rw [Int.pow_succ] at h8
  have hp : (0 : Int) < 256 ^ i := Int.pow_pos (by omega)
  have h1 : b * (256 : Int) ^ i ≤ 255 * 256 ^ i := Int.mul_le_mul_of_nonneg_right hb1 (by omega)
  have h2 : 0 ≤ b * (256 : Int) ^ i := Int.mul_nonneg hb0 (by omega)
  have e8 := pow_8 i
  have hw : IntKind.u64.wrap (b * 2 ^ (8 * i)) = b * 2 ^ (8 * i) := by rw [IntKind.wrap_u64, e8, Int.emod_eq_of_lt h2 (by omega)]
  rw [hw, or_comm_u64 _ _ hx0 (by omega) (by rw [e8]; exact h2) (by rw [e8]; omega), or_u64 b x (8 * i) hb0 (by rw [e8]; omega) hx0 (by rw [e8]; exact hx) (by omega), e8, Int.mul_comm b]
  omega
def SumV (W : World) (g : Nat) (h n : Int) (v : Value) : Prop := W.heap[g]? = some (.cells #[.int .u64 h, .int .u64 n, v] 211 (0, 0))
set_option maxHeartbeats 8000000 in
set_option maxRecDepth 100000 in
theorem stirred_calls (h n : Int) (w : World) :
    Calls Try.prog 137 #[.int .u64 h, .int .u64 n] w fun e w' => e = .returned (.int .u64 (stirP h n)) ∧ Below w.heap.size w w' := by
  have hd := wrap_div
  go_enter Try.func137, Try.ntmps137
  go_wp2
  go_ret
  exact ⟨rfl, Below.refl _ _⟩
set_option maxHeartbeats 8000000 in
set_option maxRecDepth 100000 in
theorem rot_calls (h : Int) (w : World) :
    Calls Try.prog 158 #[.int .u64 h, .int .i64 29] w fun e w' => e = .returned (.int .u64 (rot29 h)) ∧ w' = w := by
  have ha : bits .and .u64 29 63 = 29 := by decide
  go_enter Try.func158, Try.ntmps158
  go_wp2
  go_ret
  exact ⟨rfl, rfl⟩
theorem SumV.c0 {W : World} {g : Nat} {h n : Int} {v : Value} (H : SumV W g h n v) : W.cell? ⟨g, 0, none⟩ = some (.int .u64 h) := blk_cell H 0
theorem SumV.c1 {W : World} {g : Nat} {h n : Int} {v : Value} (H : SumV W g h n v) : W.cell? ⟨g, 1, none⟩ = some (.int .u64 n) := blk_cell H 1
theorem SumV.c2 {W : World} {g : Nat} {h n : Int} {v : Value} (H : SumV W g h n v) : W.cell? ⟨g, 2, none⟩ = some v := blk_cell H 2
theorem SumV.below {W W1 : World} {g : Nat} {h n : Int} {v : Value} (H : SumV W g h n v) (hb : Below W.heap.size W W1) : SumV W1 g h n v := blk_below H hb
theorem SumV.s0 {W : World} {g : Nat} {h n : Int} {v : Value} (H : SumV W g h n v) (b : Int) : SumV (W.setCell ⟨g, 0, none⟩ (.int .u64 b)) g b n v := by have := blk_set H 0 (.int .u64 b); simpa [SumV] using this
theorem SumV.s1 {W : World} {g : Nat} {h n : Int} {v : Value} (H : SumV W g h n v) (b : Int) : SumV (W.setCell ⟨g, 1, none⟩ (.int .u64 b)) g h b v := by have := blk_set H 1 (.int .u64 b); simpa [SumV] using this
theorem SumV.s2 {W : World} {g : Nat} {h n : Int} {v : Value} (H : SumV W g h n v) (u : Value) : SumV (W.setCell ⟨g, 2, none⟩ u) g h n u := by have := blk_set H 2 u; simpa [SumV] using this
set_option maxHeartbeats 8000000 in
set_option maxRecDepth 100000 in
theorem stir_calls (m : Int) (w : World) (g : Nat) (h n : Int) (v : Value) (H : SumV w g h n v) :
    Calls Try.prog 157 #[.pointer (some ⟨g, 0, none⟩), .int .u64 m] w fun e w' => e = .returned (.tuple #[]) ∧ SumV w' g (stirP h m) n v ∧ Kp (fun k => k = g) w w' := by
  have hc0 := H.c0
  have hf0 := blk_frozen H 0
  have HH := Aside0.mk H
  have H1 := H.s0 (stirY h m)
  have hd0 := H1.c0
  have he0 := blk_frozen H1 0
  have HH1 := Aside0.mk H1
  have HY := Aside0.mk (show IntKind.u64.wrap (rot29 (bits .xor .u64 h (IntKind.u64.wrap (m * 14029467366897019727))) * 11400714819323198485) = stirY h m from rfl)
  have HP := Aside0.mk (show bits .xor .u64 (stirY h m) (stirY h m / 4294967296) = stirP h m from rfl)
  obtain ⟨y, hy⟩ : ∃ y, stirY h m = y := ⟨_, rfl⟩
  obtain ⟨z, hz⟩ : ∃ z, stirP h m = z := ⟨_, rfl⟩
  rw [hy] at hd0 he0 HH1 HY HP
  rw [hz] at HP ⊢
  clear H H1 hy hz
  go_enter Try.func157, Try.ntmps157
  go_wp2_with fail
  refine (rot_calls _ _).mono ?_
  rintro e w1 ⟨rfl, rfl⟩
  have HY2 := HY.out
  go_wp2_with fail
  have HP2 := HP.out
  refine start_ (n := 13) (S := fun w' => w'.cell? ⟨g, 0, none⟩ = some (.int .u64 y)) (ds := [12]) #[false, false, false, false, false, false, false, false, false, false, false, false, false] (by kernel_rfl) rfl rfl (hd0) (fun hHeld => ?_)
  refine pure_ (i := 0) (N := some 16) (v := ?_) (a' := ?_) #[true, false, false, false, false, false, false, false, false, false, false, false, false] rfl rfl (by kernel_rfl) (fun _ _ _ h => h) (Or.inl ⟨by rfl, ?_⟩) ?_ ?_
  rotate_left
  · intro w'
    go_simp
    with_reducible rfl
  rotate_left
  · simp only [Act.put, List.setIfInBounds_toArray, List.set_cons_zero, List.set_cons_succ, i64_w, i32_w]
    rfl
  refine pure_ (i := 1) (N := some 17) (v := ?_) (a' := ?_) #[true, true, false, false, false, false, false, false, false, false, false, false, false] rfl rfl (by kernel_rfl) (fun _ _ _ h => h) (Or.inl ⟨by rfl, ?_⟩) ?_ ?_
  rotate_left
  · intro w'
    go_simp
    with_reducible rfl
  rotate_left
  · simp only [Act.put, List.setIfInBounds_toArray, List.set_cons_zero, List.set_cons_succ, i64_w, i32_w]
    rfl
  refine pure_ (i := 2) (N := some 18) (v := ?_) (a' := ?_) #[true, true, true, false, false, false, false, false, false, false, false, false, false] rfl rfl (by kernel_rfl) (fun _ _ _ h => h) (Or.inl ⟨by rfl, ?_⟩) ?_ ?_
  rotate_left
  · intro w'
    go_simp
    with_reducible rfl
  rotate_left
  · simp only [Act.put, List.setIfInBounds_toArray, List.set_cons_zero, List.set_cons_succ, i64_w, i32_w]
    rfl
  refine pure_ (i := 4) (N := some 20) (v := ?_) (a' := ?_) #[true, true, true, false, true, false, false, false, false, false, false, false, false] rfl rfl (by kernel_rfl) (fun _ _ _ h => h) (Or.inl ⟨by rfl, ?_⟩) ?_ ?_
  rotate_left
  · intro w'
    go_simp
    with_reducible rfl
  rotate_left
  · simp only [Act.put, List.setIfInBounds_toArray, List.set_cons_zero, List.set_cons_succ, i64_w, i32_w]
    rfl
  refine pure_ (i := 5) (N := some 21) (v := ?_) (a' := ?_) #[true, true, true, false, true, true, false, false, false, false, false, false, false] rfl rfl (by kernel_rfl) (fun _ _ _ h => h) (Or.inl ⟨by rfl, ?_⟩) ?_ ?_
  rotate_left
  · intro w'
    go_simp
    with_reducible rfl
  rotate_left
  · simp only [Act.put, List.setIfInBounds_toArray, List.set_cons_zero, List.set_cons_succ, i64_w, i32_w]
    rfl
  refine pure_ (i := 6) (N := some 22) (v := ?_) (a' := ?_) #[true, true, true, false, true, true, true, false, false, false, false, false, false] rfl rfl (by kernel_rfl) (fun _ _ _ h => h) (Or.inl ⟨by rfl, ?_⟩) ?_ ?_
  rotate_left
  · intro w'
    go_simp
    with_reducible rfl
  rotate_left
  · simp only [Act.put, List.setIfInBounds_toArray, List.set_cons_zero, List.set_cons_succ, i64_w, i32_w]
    rfl
  refine take_ (i := 3) (N := some 19) (v := ?_) (a' := ?_) #[true, true, true, true, true, true, true, false, false, false, false, false, false] rfl rfl (by kernel_rfl) (fun _ _ _ h => h) (Or.inl ⟨by rfl, ?_⟩) hHeld ?_ ?_
  rotate_left
  · intro w' s0
    go_simp
    with_reducible rfl
  rotate_left
  · simp only [Act.put, List.setIfInBounds_toArray, List.set_cons_zero, List.set_cons_succ, i64_w, i32_w]
    rfl
  refine take_ (i := 7) (N := some 23) (v := ?_) (a' := ?_) #[true, true, true, true, true, true, true, true, false, false, false, false, false] rfl rfl (by kernel_rfl) (fun _ _ _ h => h) (Or.inl ⟨by rfl, ?_⟩) hHeld ?_ ?_
  rotate_left
  · intro w' s0
    go_simp
    with_reducible rfl
  rotate_left
  · simp only [Act.put, List.setIfInBounds_toArray, List.set_cons_zero, List.set_cons_succ, i64_w, i32_w]
    rfl
  refine pure_ (i := 8) (N := some 24) (v := ?_) (a' := ?_) #[true, true, true, true, true, true, true, true, true, false, false, false, false] rfl rfl (by kernel_rfl) (fun _ _ _ h => h) (Or.inl ⟨by rfl, ?_⟩) ?_ ?_
  rotate_left
  · intro w'
    go_simp
    with_reducible rfl
  rotate_left
  · simp only [Act.put, List.setIfInBounds_toArray, List.set_cons_zero, List.set_cons_succ, i64_w, i32_w]
    rfl
  refine pure_ (i := 9) (N := some 25) (v := ?_) (a' := ?_) #[true, true, true, true, true, true, true, true, true, true, false, false, false] rfl rfl (by kernel_rfl) (fun _ _ _ h => h) (Or.inl ⟨by rfl, ?_⟩) ?_ ?_
  rotate_left
  · intro w'
    go_simp
    with_reducible rfl
  rotate_left
  · simp only [Act.put, List.setIfInBounds_toArray, List.set_cons_zero, List.set_cons_succ, i64_w, i32_w]
    rfl
  refine pure_ (i := 10) (N := some 26) (v := ?_) (a' := ?_) #[true, true, true, true, true, true, true, true, true, true, true, false, false] rfl rfl (by kernel_rfl) (fun _ _ _ h => h) (Or.inl ⟨by rfl, ?_⟩) ?_ ?_
  rotate_left
  · intro w'
    go_simp
    with_reducible rfl
  rotate_left
  · simp only [Act.put, List.setIfInBounds_toArray, List.set_cons_zero, List.set_cons_succ, i64_w, i32_w]
    rfl
  refine pure_ (i := 11) (N := some 27) (v := ?_) (a' := ?_) #[true, true, true, true, true, true, true, true, true, true, true, true, false] rfl rfl (by kernel_rfl) (fun _ _ _ h => h) (Or.inl ⟨by rfl, ?_⟩) ?_ ?_
  rotate_left
  · intro w'
    go_simp
    with_reducible rfl
  rotate_left
  · simp only [Act.put, List.setIfInBounds_toArray, List.set_cons_zero, List.set_cons_succ, i64_w, i32_w]
    rfl
  refine last_ (i := 12) (N := none) #[true, true, true, true, true, true, true, true, true, true, true, true, true] rfl rfl (by kernel_rfl) (by decide) (fun K hK => ?_)
  refine skip_ (w1 := ?_) (by rfl) rfl ?_ ?_
  rotate_left
  · go_simp
    rfl
  refine hK.out _ _ ?_
  clear hK K
  refine done_ (by kernel_rfl) ?_
  go_wp2_with fail
  go_end0
  exact ⟨rfl, (HH1.out.s0 z).below (below_drew (Below.refl _ _)), ((Kp.set _ ⟨g, 0, none⟩ _).trans (Kp.set _ ⟨g, 0, none⟩ _) (fun k hk => .inl hk)).drew⟩
set_option maxHeartbeats 8000000 in
set_option maxRecDepth 100000 in
theorem New_calls (key : Int) (w : World) :
    Calls Try.prog 154 #[.int .u64 key] w fun e w' => e = .returned (.pointer (some ⟨w.heap.size, 0, none⟩)) ∧ SumV w' w.heap.size (bits .xor .u64 key 11400714819323198485) 0 (.slice none 0 0) ∧ Below w.heap.size w w' := by
  go_enter Try.func154, Try.ntmps154
  go_wp2
  go_ret
  exact ⟨rfl, blk_new _ _, below_alloc (Below.refl _ _) _⟩
set_option maxHeartbeats 8000000 in
set_option maxRecDepth 100000 in
theorem Value_calls (w : World) (g : Nat) (h n : Int) (v : Value) (l : List Int) (H : SumV w g h n v) (hr : Rd w .u8 v l) (hb : isB l) (hl : l.length ≤ 7) :
    Calls Try.prog 156 #[.pointer (some ⟨g, 0, none⟩)] w fun e w' => e = .returned (.int .u64 (stirP (stirP h (leN l)) n)) ∧ Below w.heap.size w w' := by
  have hc0 := H.c0
  have hc1 := H.c1
  have hc2 := H.c2
  obtain ⟨A, c, ev, hc, hm, hrd⟩ := hr.mid
  subst ev
  have HR := Aside0.mk hr
  have HRR := Aside0.mk (hrd.below (below_alloc (Below.refl _ _) (.cells #[.int .u64 h, .int .u64 0, .slice none 0 0] 211)))
  have HH := Aside0.mk H
  have HIB := Aside0.mk hb
  clear H hr hb hrd
  have hd2 := pw_cell_below (below_alloc (Below.refl _ _) (.cells #[.int .u64 h, .int .u64 0, .slice none 0 0] 211)) hc2
  have HS := Aside0.mk (show SumV (w.alloc (.cells #[.int .u64 h, .int .u64 0, .slice none 0 0] 211)) w.heap.size h 0 (.slice none 0 0) from blk_new _ _)
  have HR1 := Aside0.mk (HR.out.below (below_alloc (Below.refl _ _) (.cells #[.int .u64 h, .int .u64 0, .slice none 0 0] 211)))
  go_enter Try.func156, Try.ntmps156
  go_wp2_with fail
  go_loop [4, 5, 6, 17] (fun v4 v5 v6 v17 => ∃ i : Nat, i ≤ l.length ∧ v17 = .int .i64 i ∧ v4 = .int .u64 (leN (l.take i))) (fun _ _ _ v17 => l.length - (intOf v17).toNat)
  case atStart => exact ⟨0, by omega, rfl, by simp [leN]⟩
  case round =>
    obtain ⟨i, hi, rfl, rfl⟩ := hrel
    by_cases c1 : i < l.length
    · obtain ⟨ad, e, hcell⟩ := rd_at HRR.out i c1
      cases e
      obtain ⟨b, hbb⟩ : ∃ b, l.getD i 0 = b := ⟨_, rfl⟩
      obtain ⟨x, hx⟩ : ∃ x, leN (l.take i) = x := ⟨_, rfl⟩
      rw [hbb] at hcell
      rw [hx]
      have hb0 := HIB.out.getD i
      rw [hbb] at hb0
      have HBB := Aside0.mk hbb
      have HX := Aside0.mk hx
      clear hbb hx
      have hxb := leN_bound (l := l.take i) (HIB.out.take _)
      rw [HX.out, List.length_take, Nat.min_eq_left (by omega)] at hxb
      have hst := or_step x b i (by omega) hxb.1 hxb.2 hb0.1 hb0.2
      have HN := Aside0.mk (show leN (l.take (i + 1)) = x + 256 ^ i * b by rw [take_snoc c1, leN_snoc, HX.out, HBB.out, List.length_take, Nat.min_eq_left (by omega)])
      have HST := Aside0.mk hst
      clear hst hxb
      go_wp2_with fail
      go_round
      case rel => exact ⟨i + 1, by omega, by go_num, by rw [HN.out, HST.out]⟩
      case measure => simp [intOf]; omega
    · have HI := Aside0.mk (show i = l.length by omega)
      rw [show l.take i = l from List.take_of_length_le (by omega)]
      go_wp2_with fail
      refine (stir_calls (leN l) _ w.heap.size h 0 _ HS.out).mono ?_
      rintro e w2 ⟨rfl, hs2, hk2⟩
      have HS2 := Aside0.mk hs2
      have HB2 := Aside0.mk (Kp.from (below_alloc (Below.refl _ _) _) hk2 (fun k hk => by omega))
      have hn := pw_cell_below HB2.out hc1
      clear hs2 hk2
      go_wp2_with fail
      refine (stir_calls n _ w.heap.size (stirP h (leN l)) 0 _ HS2.out).mono ?_
      rintro e w3 ⟨rfl, hs3, hk3⟩
      have HB3 := Aside0.mk (Kp.from HB2.out hk3 (fun k hk => by omega))
      have hn3 := hs3.c0
      obtain ⟨r, hr⟩ : ∃ r, stirP (stirP h (leN l)) n = r := ⟨_, rfl⟩
      rw [hr] at hn3
      have HR3 := Aside0.mk hr
      clear hs3 hk3 hr
      go_wp2_with fail
      go_ret
      exact ⟨by rw [HR3.out]; rfl, HB3.out⟩
theorem lit_isB {xs : List Int} (h : (xs.all fun x => decide (0 ≤ x) && decide (x ≤ 255)) = true) : isB xs := fun x hx => by
  have := List.all_eq_true.1 h x hx
  simpa using this
/-- v[a:] reads as that part. -/
theorem Rd.tail (t e : TypeId) {k : IntKind} {i : TypeInfo} (ht : Try.prog.underlying t = some (.slice e)) (hi : Try.prog.info? e = some i) (hsz : i.size = 1) {w0 : World} {v : Value} {xs : List Int} (h : Rd w0 k v xs) (a : Int) (h0 : 0 ≤ a) (hm : a ≤ xs.length) :
    ∃ v', (∀ W : World, (Instr.slice t v (some (.int .i64 a)) none none).run Try.prog W = .ok v' W) ∧ (∀ w : World, Rd w k v xs → Rd w k v' (xs.drop a.toNat)) := by
  obtain ⟨A, c, rfl, hc, _⟩ := h
  obtain ⟨A', h2, h3, h4⟩ := print_cut_int (P := Try.prog) (k := k) t e ht hi hsz A c xs a h0 hm hc
  refine ⟨_, h2, fun w hw => ?_⟩
  obtain ⟨A2, c2, e2, _, hr⟩ := hw
  simp only [Value.slice.injEq] at e2
  obtain ⟨rfl, _, rfl⟩ := e2
  exact ⟨A', _, rfl, h4, h3 w hr⟩
/-- The sum behind k words. -/
def hk (h : Int) (l : List Int) : Nat → Int
  | 0 => h
  | k + 1 => stirP (hk h l k) (leN ((l.drop (8 * k)).take 8))
theorem oneU8 : ∀ x : Int, (Value.int .u8 x).oneCell' = true := fun _ => rfl
theorem app8 {W : World} {base : Nat} {v u : Value} {xs ys : List Int} (HO : Own (Value.int .u8) W base 5 v xs) (HR : Rd W .u8 u ys) (hbase : base ≤ W.heap.size) (hl : xs.length + ys.length ≤ 140737488355328) :
    ∃ A1 c1 w1, (Builtin.append_ #[22, 22] 22 #[v, u]).run Try.prog W = .ok (.slice A1 (xs ++ ys).length c1) w1 ∧ Own (Value.int .u8) w1 base 5 (.slice A1 (xs ++ ys).length c1) (xs ++ ys) ∧ W.grownBy w1 v.ownBlock ∧ ((Value.slice A1 (xs ++ ys).length c1).ownBlock = v.ownBlock ∨ ∃ b, (Value.slice A1 (xs ++ ys).length c1).ownBlock = some b ∧ W.heap.size ≤ b) := by
  obtain ⟨v1, w1, hr, hO, hg, hat⟩ := app_run (P := Try.prog) (Value.int .u8) (0 : Int) oneU8 22 22 5 (.int .u8 0) 1 Try.underlying22 infoU8 rfl (by omega) HO HR hbase (by omega)
  obtain ⟨A1, c1, rfl⟩ := own_slice hO
  exact ⟨A1, c1, w1, hr, hO, hg, hat⟩
theorem rd_old' {w : World} {k : IntKind} {u : Value} {xs : List Int} (h : Rd w k u xs) {A : Addr} {n c : Nat} (e : u = .slice (some A) n c) (hpos : 0 < xs.length) : A.block < w.heap.size := by
  obtain ⟨A2, c2, e2, _, hr⟩ := h
  rw [e] at e2
  simp only [Value.slice.injEq] at e2
  obtain ⟨rfl, _, _⟩ := e2
  obtain ⟨ad, e3, hc⟩ := hr.2.2 hpos
  simp only [Option.some.injEq] at e3
  subst e3
  have := World.block_lt_of_cell? w _ (hc 0 hpos)
  rwa [add_block] at this
theorem Rd.kp' {w w1 : World} {k : IntKind} {u : Value} {xs : List Int} {S : Nat → Prop} (h : Rd w k u xs) (hk : Kp S w w1) (hS : ∀ (A : Addr) n c, u = .slice (some A) n c → 0 < xs.length → ¬ S A.block) : Rd w1 k u xs :=
  RdE.move (enc := Value.int k) (d := (0 : Int)) h (fun A ⟨n, c, e, hp⟩ => hk.block _ (rd_old' h e hp) (hS A n c e hp))
theorem rd_ne {W : World} {g : Nat} {h n : Int} {A0 : Option Addr} {n0 c0 : Nat} {u : Value} {xs : List Int} (H : SumV W g h n (.slice A0 n0 c0)) (hr : Rd W .u8 u xs) (A : Addr) (k c : Nat) (e : u = .slice (some A) k c) (hp : 0 < xs.length) : A.block ≠ g := by
  intro hg
  obtain ⟨A2, c2, e2, _, _, _, hr⟩ := hr
  rw [e] at e2
  simp only [Value.slice.injEq] at e2
  obtain ⟨rfl, _, _⟩ := e2
  obtain ⟨ad, e3, hc⟩ := hr hp
  simp only [Option.some.injEq] at e3
  subst e3
  have h0 := hc 0 hp
  have hb := H
  rw [SumV, ← hg] at hb
  simp only [World.cell?, add_block, hb] at h0
  revert h0
  generalize (A.add 0).off = o
  match o with
  | 0 => simp
  | 1 => simp
  | 2 => simp
  | o + 3 => simp
set_option maxHeartbeats 8000000 in
set_option maxRecDepth 100000 in
/-- What is taken in is the words of l ++ m; while these are fewer than eight bytes, the rest is a row of the call's own. -/
theorem Add_calls (u : Value) (m : List Int) (w : World) (g base : Nat) (h n : Int) (v : Value) (l : List Int) (H : SumV w g h n v) (HO : Own (Value.int .u8) w base 5 v l) (hr : Rd w .u8 u m) (hib : isB (l ++ m)) (hbase : base ≤ w.heap.size) (hgb : base ≤ g) (hl : l.length ≤ 7) (hm : m.length ≤ 100000) (hn0 : 0 ≤ n) (hn1 : n ≤ 1000000) :
    Calls Try.prog 155 #[.pointer (some ⟨g, 0, none⟩), u] w fun e w' => e = .returned (.tuple #[]) ∧ ∃ v', SumV w' g (hk h (l ++ m) ((l ++ m).length / 8)) (n + m.length) v' ∧ Rd w' .u8 v' ((l ++ m).drop (8 * ((l ++ m).length / 8))) ∧ ((l ++ m).length < 8 → Own (Value.int .u8) w' base 5 v' (l ++ m)) ∧ Kp (fun k => base ≤ k) w w' := by
  obtain ⟨A0, c0, ev⟩ := own_slice HO
  obtain ⟨Au, cu, eu, _, hmu, _⟩ := hr.mid
  subst ev
  subst eu
  have HIB := Aside0.mk hib
  have HH := Aside0.mk H
  have hc1 := H.c1
  have hf1 := blk_frozen H 1
  have H1 := H.s1 (n + m.length)
  have hne : (Value.slice A0 l.length c0).ownBlock ≠ some g := HO.ne H (by decide)
  have HO1 : Own (Value.int .u8) (w.setCell ⟨g, 1, none⟩ (.int .u64 (n + m.length))) base 5 (.slice A0 l.length c0) l := HO.move (fun k hk => Below.heap_setCell w _ _ k (fun e => hne (by rw [hk, e])))
  have hr1 : Rd (w.setCell ⟨g, 1, none⟩ (.int .u64 (n + m.length))) .u8 (.slice Au m.length cu) m := Rd.kp' hr (Kp.set _ _ _) (fun A k c e hp => rd_ne H hr A k c e hp)
  have hd2 := H1.c2
  obtain ⟨A4, c4, w4, hrun4, hO4, hg4, hat4⟩ := app8 HO1 hr1 (by simpa [World.setCell] using hbase) (by omega)
  have h4 : SumV w4 g h (n + m.length) (.slice A0 l.length c0) := blk_grown H1 hg4 (fun e => HO1.ne H1 (by decide) e.symm)
  have hf4 := blk_frozen h4 2
  have hc4 := h4.c2
  have H5 := Aside0.mk (h4.s2 (.slice A4 (l ++ m).length c4))
  have HO5 := Aside0.mk (show Own (Value.int .u8) (w4.setCell ⟨g, 2, none⟩ (.slice A4 (l ++ m).length c4)) base 5 (.slice A4 (l ++ m).length c4) (l ++ m) from hO4.move (fun k hk => Below.heap_setCell w4 _ _ k (fun e => hO4.ne h4 (by decide) (by rw [hk, e]))))
  have HK5 := Aside0.mk (show Kp (fun k => base ≤ k) w (w4.setCell ⟨g, 2, none⟩ (.slice A4 (l ++ m).length c4)) from
    (((Kp.set w ⟨g, 1, none⟩ (.int .u64 (n + m.length))).mono (fun k hk => by rw [hk]; exact hgb)).trans (Kp.of_grown hg4) (fun k hk => .inl (HO1.ge hk))).trans (Kp.set w4 ⟨g, 2, none⟩ _) (fun k hk => .inl (by rw [hk]; exact hgb)))
  have HR4 := Aside0.mk hrun4
  obtain ⟨N, hN⟩ : ∃ N, (l ++ m).length = N := ⟨_, rfl⟩
  have hNN : N = l.length + m.length := by rw [← hN]; simp
  obtain ⟨L, hL⟩ : ∃ L, l ++ m = L := ⟨_, rfl⟩
  rw [hN] at HR4 H5 HO5 HK5 ⊢
  rw [hL] at HIB HO5 hN ⊢
  have HL := Aside0.mk hL
  have HN := Aside0.mk hN
  have HNN := Aside0.mk hNN
  have hNm : N ≤ 100007 := by omega
  clear hNN
  clear HO hr hib H1 hne HO1 hr1 hrun4 hO4 hg4 hat4 h4 hL hN H
  go_enter Try.func155, Try.ntmps155
  go_wp2_with (first | ((with_reducible refine gate_builtin (b := .append) (xs := #[.tmp 20, .tmp 21]) rfl ?_); at_builtin; refine app_list rfl (.tmp 20) (.tmp 21) rfl rfl rfl HR4.out ?_))
  obtain ⟨q, hq⟩ : ∃ q, N / 8 = q := ⟨_, rfl⟩
  have HQ := Aside0.mk hq
  have hq1 : 8 * q ≤ N ∧ N < 8 * q + 8 := by omega
  clear hq
  go_loopg [4, 5] q (fun kq v4 v5 w' => ∃ (k : Nat) (v' : Value), k + kq = q ∧ Aside0 (SumV w' g (hk h L k) (n + m.length) v') ∧ Aside0 (Rd w' .u8 v' (L.drop (8 * k))) ∧ Aside0 (k = 0 → Own (Value.int .u8) w' base 5 v' L) ∧ Aside0 (Kp (fun k => base ≤ k) w w'))
  case atStart => exact ⟨0, _, by omega, H5, ⟨by have := Own.rd HO5.out; simpa using this⟩, ⟨fun _ => HO5.out⟩, HK5⟩
  case round =>
    obtain ⟨k, v', hkq, HS, HR, HO, HK⟩ := hrel
    have hkN : 8 * k ≤ N := by omega
    obtain ⟨A', c', e', hc', hm', _⟩ := HR.out.mid
    subst e'
    have HD := Aside0.mk (show (L.drop (8 * k)).length = N - 8 * k by rw [List.length_drop, HN.out])
    obtain ⟨d, hd⟩ : ∃ d, (L.drop (8 * k)).length = d := ⟨_, rfl⟩
    rw [hd] at HS HR HO hc' hm'
    have hcell := HS.out.c2
    have HDD := Aside0.mk hd
    have hdk : d + 8 * k = N := by have := HD.out; rw [hd] at this; omega
    clear hd HD
    by_cases c1 : 8 ≤ d
    · have HF := Aside0.mk (show fitsB (L.drop (8 * k)).length 0 8 = true from fits_ok ⟨by omega, by omega, by omega, by rw [HDD.out]; omega⟩)
      obtain ⟨x, hx⟩ : ∃ x, leN ((L.drop (8 * k)).take 8) = x := ⟨_, rfl⟩
      have HG := Aside0.mk (show getN (L.drop (8 * k)) 0 8 = x by rw [getN, if_pos HF.out, ← hx]; rfl)
      have HX := Aside0.mk hx
      obtain ⟨i5, hi5, hz5⟩ := infoU8'
      obtain ⟨v2, hcut, hrd⟩ := Rd.tail 22 5 Try.underlying22 hi5 hz5 HR.out 8 (by omega) (by rw [HDD.out]; omega)
      obtain ⟨A2, c2, e2, _, _, _⟩ := (hrd _ HR.out).mid
      subst e2
      have HRD := Aside0.mk hrd
      have HDD2 := Aside0.mk (show (L.drop (8 * k)).drop (8 : Int).toNat = L.drop (8 * (k + 1)) by rw [List.drop_drop]; rfl)
      rw [HDD2.out] at hcut
      obtain ⟨d2, hd2⟩ : ∃ d2, (L.drop (8 * (k + 1))).length = d2 := ⟨_, rfl⟩
      have HD2 := Aside0.mk hd2
      rw [hd2] at hcut
      clear hrd hi5 hz5 hx hd2
      go_wp2_with fail
      refine (le_Get_calls _ (L.drop (8 * k)) 0 8 _ HR.out (HIB.out.drop _)).mono ?_
      rintro e w5 ⟨rfl, hb⟩
      rw [HF.out, HG.out]
      have HS5 := Aside0.mk (HS.out.below hb)
      have HK5' := Aside0.mk (HK.out.below hb)
      have HR5 := Aside0.mk (HR.out.below hb)
      clear hb
      go_wp2_with fail
      refine (stir_calls x _ g _ _ _ HS5.out).mono ?_
      rintro e w6 ⟨rfl, hs6, hk6⟩
      have hcell6 := hs6.c2
      have hf6 := blk_frozen hs6 2
      have HR6 := Aside0.mk (HR5.out.kp' hk6 (fun A k c e hp => rd_ne HS5.out HR5.out A k c e hp))
      have HS6 := Aside0.mk hs6
      have HK6 := Aside0.mk (HK5'.out.trans hk6 (fun k hk => .inl (by rw [hk]; exact hgb)))
      clear hs6 hk6
      have HR7 := Aside0.mk (show Rd (w6.setCell ⟨g, 2, none⟩ (.slice A2 d2 c2)) .u8 (.slice A2 d2 c2) (L.drop (8 * (k + 1))) by
        have h1 := HRD.out _ HR6.out
        rw [HDD2.out, HD2.out] at h1
        exact Rd.kp' h1 (Kp.set w6 ⟨g, 2, none⟩ _) (fun A k c e hp => rd_ne HS6.out h1 A k c e hp))
      have hkd : k + 1 ≤ q := by omega
      go_wp2_with fail
      go_roundg (q - (k + 1))
      case measure => omega
      case rel => exact ⟨k + 1, _, by omega, ⟨by rw [hk, HX.out]; exact HS6.out.s2 _⟩, HR7, ⟨fun e => by omega⟩, ⟨HK6.out.trans (Kp.set w6 ⟨g, 2, none⟩ _) (fun k hk => .inl (by rw [hk]; exact hgb))⟩⟩
    · go_wp2_with fail
      go_end0
      have hkk : N / 8 = k := by omega
      refine ⟨rfl, _, by rw [hkk]; exact HS.out, by rw [hkk]; exact HR.out, fun h8 => ?_, HK.out⟩
      have := HO.out (by omega)
      exact this
end Go.Proofs.Ytigdchfjcfljjaa
