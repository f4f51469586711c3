import Derived.Test.YtigdchfjcfljjaaMgImagePlays1
import Derived.Test.YtigdchfjcfljjaaMgImagePlays2
import Derived.Test.YtigdchfjcfljjaaMgImagePlays3
set_option linter.unusedVariables false
set_option linter.unusedSimpArgs false
section
/- Images: what the program's methods do. -/
namespace Go.Proofs.Ytigdchfjcfljjaa
open Go.RowKit Go.Proofs.YtigdchfjcfljjaaW.PrintWords Go.Proofs.YtigdchfjcfljjaaW.PrintLast Go.Proofs.YtigdchfjcfljjaaW.PrintMore
attribute [local go_sem] max2_int min2_int max_two min_two max_three min_three max_four min_four
theorem ibelow_set {w W : World} (h : Below w.heap.size w W) (p : Addr) (hg : w.heap.size ≤ p.block) (v : Value) : Below w.heap.size w (W.setCell p v) := h.setCell hg v
theorem below_iset5 {w W : World} (h : Below w.heap.size w W) (b : Nat) (hg : w.heap.size ≤ b) (x0 x1 x2 x3 x4 : Value) : Below w.heap.size w (((((W.setCell ⟨b, 0, none⟩ x0).setCell ⟨b, 1, none⟩ x1).setCell ⟨b, 2, none⟩ x2).setCell ⟨b, 3, none⟩ x3).setCell ⟨b, 4, none⟩ x4) :=
  ibelow_set (ibelow_set (ibelow_set (ibelow_set (ibelow_set h _ hg _) _ hg _) _ hg _) _ hg _) _ hg _
theorem ImS.of {W W' : World} {g base : Nat} {H : Hd} {B B' ws ws' : List Int} {lim fr lim' fr' : Int} {F : Nat → Prop} {vb vw vb' vw' : Value} (h : Im W g base H B lim fr ws F vb vw) (hk : Kp F W W')
    (hb : W'.heap[g]? = some (.cells (imA H vb' lim' fr' vw') 177 (0, 0))) (h1 : OwnO (Value.int .u8) W' base 5 vb' B') (h2 : OwnO (Value.int .i64) W' base 3 vw' ws') (h3 : ∀ k, vb'.ownBlock = some k → ext F W W' k) (h4 : ∀ k, vw'.ownBlock = some k → ext F W W' k) : ImS W W' g base H B' lim' fr' ws' F :=
  ⟨⟨vb', vw', hb, h1, h2, .inl h.2.2.2.1, h3, h4, fun k hk' => hk'.elim (fun hf => ⟨h.ge hf, Nat.lt_of_lt_of_le (h.lt hf) hk.size⟩) (fun hh => ⟨Nat.le_trans h.bs hh.1, hh.2⟩)⟩, hk⟩
set_option maxHeartbeats 8000000 in
set_option maxRecDepth 100000 in
theorem Tail_nil  (w : World) : Calls Try.prog 40 #[.pointer none] w fun e w' => e = .returned (.int .i64 0) ∧ w = w' := by
  go_enter Try.func40, Try.ntmps40
  go_wp2_with fail
  go_ret
  exact ⟨rfl, rfl⟩
set_option maxHeartbeats 8000000 in
set_option maxRecDepth 100000 in
theorem Word_nil (a : Int) (w : World) : Calls Try.prog 41 #[.pointer none, .int .i64 a] w fun e w' => e = .returned (.int .u64 0) ∧ w = w' := by
  go_enter Try.func41, Try.ntmps41
  go_wp2_with fail
  go_ret
  exact ⟨rfl, rfl⟩
set_option maxHeartbeats 8000000 in
set_option maxRecDepth 100000 in
theorem Bytes_nil  (w : World) : Calls Try.prog 43 #[.pointer none] w fun e w' => e = .returned (.slice none 0 0) ∧ w = w' := by
  go_enter Try.func43, Try.ntmps43
  go_wp2_with fail
  go_ret
  exact ⟨rfl, rfl⟩
set_option maxHeartbeats 8000000 in
set_option maxRecDepth 100000 in
theorem Copy_nil  (w : World) : Calls Try.prog 44 #[.pointer none] w fun e w' => e = .returned (.pointer none) ∧ w = w' := by
  go_enter Try.func44, Try.ntmps44
  go_wp2_with fail
  go_ret
  exact ⟨rfl, rfl⟩
set_option maxHeartbeats 8000000 in
set_option maxRecDepth 100000 in
theorem Tail_calls (g base : Nat) (H : Hd) (B : List Int) (lim fr : Int) (ws : List Int) (F : Nat → Prop) (vb vw : Value) (w : World) (hI : Im w g base H B lim fr ws F vb vw) (n : Nat) (hn : B.length = n) : Calls Try.prog 40 #[.pointer (some ⟨g, 0, none⟩)] w fun e w' => e = .returned (.int .i64 (n : Int)) ∧ w = w' := by
  have HI := Aside0.mk hI
  obtain ⟨A1, c1, ev, _, _⟩ := hI.b.sl hn
  subst ev
  clear hI
  have r0 : (w).cell? ⟨g, 0, none⟩ = some (.int .u64 H.id) := blk_cell HI.out.blk 0
  have r1 : (w).cell? ⟨g, 1, none⟩ = some (.int .u64 H.key) := blk_cell HI.out.blk 1
  have r2 : (w).cell? ⟨g, 2, none⟩ = some (.int .i64 H.data) := blk_cell HI.out.blk 2
  have r3 : (w).cell? ⟨g, 3, none⟩ = some (.int .i64 H.fields) := blk_cell HI.out.blk 3
  have r4 : (w).cell? ⟨g, 4, none⟩ = some (.int .u64 H.made) := blk_cell HI.out.blk 4
  have r5 : (w).cell? ⟨g, 5, none⟩ = some ((.slice A1 n c1)) := blk_cell HI.out.blk 5
  have r6 : (w).cell? ⟨g, 6, none⟩ = some (.int .i64 lim) := blk_cell HI.out.blk 6
  have r7 : (w).cell? ⟨g, 7, none⟩ = some (.int .i64 fr) := blk_cell HI.out.blk 7
  have r8 : (w).cell? ⟨g, 8, none⟩ = some (vw) := blk_cell HI.out.blk 8
  go_enter Try.func40, Try.ntmps40
  go_wp2_with fail
  go_ret
  exact ⟨rfl, rfl⟩
set_option maxHeartbeats 8000000 in
set_option maxRecDepth 100000 in
theorem Word_calls (g base : Nat) (H : Hd) (B : List Int) (lim fr : Int) (ws : List Int) (F : Nat → Prop) (vb vw : Value) (w : World) (hI : Im w g base H B lim fr ws F vb vw) (a : Int) (hb : isB B) : Calls Try.prog 41 #[.pointer (some ⟨g, 0, none⟩), .int .i64 a] w fun e w' => e = .returned (.int .u64 (getN B a 8)) ∧ Below w.heap.size w w' := by
  have HI := Aside0.mk hI
  have C := Aside0.mk (le_Get_calls vb B a 8 w hI.b.rd hb)
  clear hI
  have r0 : (w).cell? ⟨g, 0, none⟩ = some (.int .u64 H.id) := blk_cell HI.out.blk 0
  have r1 : (w).cell? ⟨g, 1, none⟩ = some (.int .u64 H.key) := blk_cell HI.out.blk 1
  have r2 : (w).cell? ⟨g, 2, none⟩ = some (.int .i64 H.data) := blk_cell HI.out.blk 2
  have r3 : (w).cell? ⟨g, 3, none⟩ = some (.int .i64 H.fields) := blk_cell HI.out.blk 3
  have r4 : (w).cell? ⟨g, 4, none⟩ = some (.int .u64 H.made) := blk_cell HI.out.blk 4
  have r5 : (w).cell? ⟨g, 5, none⟩ = some (vb) := blk_cell HI.out.blk 5
  have r6 : (w).cell? ⟨g, 6, none⟩ = some (.int .i64 lim) := blk_cell HI.out.blk 6
  have r7 : (w).cell? ⟨g, 7, none⟩ = some (.int .i64 fr) := blk_cell HI.out.blk 7
  have r8 : (w).cell? ⟨g, 8, none⟩ = some (vw) := blk_cell HI.out.blk 8
  go_enter Try.func41, Try.ntmps41
  go_wp2_with fail
  refine (C.out).mono ?_
  rintro e w1 ⟨rfl, hb⟩
  have HB := Aside0.mk hb
  clear hb
  go_wp2_with fail
  go_ret
  exact ⟨rfl, HB.out⟩
set_option maxHeartbeats 8000000 in
set_option maxRecDepth 100000 in
theorem Bytes_calls (g base : Nat) (H : Hd) (B : List Int) (lim fr : Int) (ws : List Int) (F : Nat → Prop) (vb vw : Value) (w : World) (hI : Im w g base H B lim fr ws F vb vw) (hl : B.length ≤ 140737488355000) : Calls Try.prog 43 #[.pointer (some ⟨g, 0, none⟩)] w fun e w' => ∃ v', e = .returned v' ∧ OwnO (Value.int .u8) w' w.heap.size 5 v' B ∧ Below w.heap.size w w' := by
  have HI := Aside0.mk hI
  have C := Aside0.mk (Clone_calls vb B w hI.b.rd hl)
  clear hI
  have r0 : (w).cell? ⟨g, 0, none⟩ = some (.int .u64 H.id) := blk_cell HI.out.blk 0
  have r1 : (w).cell? ⟨g, 1, none⟩ = some (.int .u64 H.key) := blk_cell HI.out.blk 1
  have r2 : (w).cell? ⟨g, 2, none⟩ = some (.int .i64 H.data) := blk_cell HI.out.blk 2
  have r3 : (w).cell? ⟨g, 3, none⟩ = some (.int .i64 H.fields) := blk_cell HI.out.blk 3
  have r4 : (w).cell? ⟨g, 4, none⟩ = some (.int .u64 H.made) := blk_cell HI.out.blk 4
  have r5 : (w).cell? ⟨g, 5, none⟩ = some (vb) := blk_cell HI.out.blk 5
  have r6 : (w).cell? ⟨g, 6, none⟩ = some (.int .i64 lim) := blk_cell HI.out.blk 6
  have r7 : (w).cell? ⟨g, 7, none⟩ = some (.int .i64 fr) := blk_cell HI.out.blk 7
  have r8 : (w).cell? ⟨g, 8, none⟩ = some (vw) := blk_cell HI.out.blk 8
  go_enter Try.func43, Try.ntmps43
  go_wp2_with fail
  refine (C.out).mono ?_
  rintro e w1 ⟨v', rfl, ho, hb⟩
  have HB := Aside0.mk hb
  have HO := Aside0.mk ho
  clear hb ho
  go_wp2_with fail
  go_ret
  exact ⟨_, rfl, HO.out, HB.out⟩
set_option maxHeartbeats 8000000 in
set_option maxRecDepth 100000 in
theorem Head_calls (g base : Nat) (H : Hd) (B : List Int) (lim fr : Int) (ws : List Int) (F : Nat → Prop) (vb vw : Value) (w : World) (hI : Im w g base H B lim fr ws F vb vw) : Calls Try.prog 45 #[.pointer (some ⟨g, 0, none⟩)] w fun e w' => e = .returned (.agg #[.int .u64 H.id, .int .u64 H.key, .int .i64 H.data, .int .i64 H.fields, .int .u64 H.made]) ∧ Below w.heap.size w w' := by
  have HI := Aside0.mk (blk_alloc hI.blk (.cells #[.int .u64 0, .int .u64 0, .int .i64 0, .int .i64 0, .int .u64 0] 59))
  have HZ := Aside0.mk (blk_new w (.cells #[.int .u64 0, .int .u64 0, .int .i64 0, .int .i64 0, .int .u64 0] 59))
  have hlt := hI.g_lt
  clear hI
  go_enter Try.func45, Try.ntmps45
  go_upto_region 1 with fail
  obtain ⟨wx, hwx⟩ : ∃ wx, w.alloc (.cells #[.int .u64 0, .int .u64 0, .int .i64 0, .int .i64 0, .int .u64 0] 59) = wx := ⟨_, rfl⟩
  have HBX := Aside0.mk (show Below w.heap.size w wx by rw [← hwx]; exact below_alloc (Below.refl _ _) _)
  rw [hwx] at HI HZ ⊢
  clear hwx
  have r0 : (wx).cell? ⟨g, 0, none⟩ = some (.int .u64 H.id) := blk_cell HI.out 0
  have r1 : (wx).cell? ⟨g, 1, none⟩ = some (.int .u64 H.key) := blk_cell HI.out 1
  have r2 : (wx).cell? ⟨g, 2, none⟩ = some (.int .i64 H.data) := blk_cell HI.out 2
  have r3 : (wx).cell? ⟨g, 3, none⟩ = some (.int .i64 H.fields) := blk_cell HI.out 3
  have r4 : (wx).cell? ⟨g, 4, none⟩ = some (.int .u64 H.made) := blk_cell HI.out 4
  have r5 : (wx).cell? ⟨g, 5, none⟩ = some (vb) := blk_cell HI.out 5
  have r6 : (wx).cell? ⟨g, 6, none⟩ = some (.int .i64 lim) := blk_cell HI.out 6
  have r7 : (wx).cell? ⟨g, 7, none⟩ = some (.int .i64 fr) := blk_cell HI.out 7
  have r8 : (wx).cell? ⟨g, 8, none⟩ = some (vw) := blk_cell HI.out 8
  have z0 : (wx).cell? ⟨w.heap.size, 0, none⟩ = some (.int .u64 0) := blk_cell HZ.out 0
  have z1 : (wx).cell? ⟨w.heap.size, 1, none⟩ = some (.int .u64 0) := blk_cell HZ.out 1
  have z2 : (wx).cell? ⟨w.heap.size, 2, none⟩ = some (.int .i64 0) := blk_cell HZ.out 2
  have z3 : (wx).cell? ⟨w.heap.size, 3, none⟩ = some (.int .i64 0) := blk_cell HZ.out 3
  have z4 : (wx).cell? ⟨w.heap.size, 4, none⟩ = some (.int .u64 0) := blk_cell HZ.out 4
  have f0 := blk_frozen HZ.out 0
  have f1 := blk_frozen HZ.out 1
  have f2 := blk_frozen HZ.out 2
  have f3 := blk_frozen HZ.out 3
  have f4 := blk_frozen HZ.out 4
  go_wp2_with fail
  exact bodyPost_ret (v := .agg #[.int .u64 H.id, .int .u64 H.key, .int .i64 H.data, .int .i64 H.fields, .int .u64 H.made]) (by simp [results, Try.results45, go_sem, z0, z1, z2, z3, z4]) rfl ⟨rfl, below_iset5 HBX.out _ (Nat.le_refl _) _ _ _ _ _⟩
set_option maxHeartbeats 8000000 in
set_option maxRecDepth 100000 in
theorem Done_calls (g base : Nat) (H : Hd) (B : List Int) (lim fr : Int) (ws : List Int) (F : Nat → Prop) (vb vw : Value) (w : World) (hI : Im w g base H B lim fr ws F vb vw) (n : Nat) (hn : B.length = n) : Calls Try.prog 51 #[.pointer (some ⟨g, 0, none⟩)] w fun e w' => e = .returned (.tuple #[]) ∧ ImS w w' g base H B lim n [] F := by
  have HI := Aside0.mk hI
  obtain ⟨A1, c1, ev, _, _⟩ := hI.b.sl hn
  subst ev
  clear hI
  have r0 : (w).cell? ⟨g, 0, none⟩ = some (.int .u64 H.id) := blk_cell HI.out.blk 0
  have r1 : (w).cell? ⟨g, 1, none⟩ = some (.int .u64 H.key) := blk_cell HI.out.blk 1
  have r2 : (w).cell? ⟨g, 2, none⟩ = some (.int .i64 H.data) := blk_cell HI.out.blk 2
  have r3 : (w).cell? ⟨g, 3, none⟩ = some (.int .i64 H.fields) := blk_cell HI.out.blk 3
  have r4 : (w).cell? ⟨g, 4, none⟩ = some (.int .u64 H.made) := blk_cell HI.out.blk 4
  have r5 : (w).cell? ⟨g, 5, none⟩ = some ((.slice A1 n c1)) := blk_cell HI.out.blk 5
  have r6 : (w).cell? ⟨g, 6, none⟩ = some (.int .i64 lim) := blk_cell HI.out.blk 6
  have r7 : (w).cell? ⟨g, 7, none⟩ = some (.int .i64 fr) := blk_cell HI.out.blk 7
  have r8 : (w).cell? ⟨g, 8, none⟩ = some (vw) := blk_cell HI.out.blk 8
  have f0 := blk_frozen HI.out.blk 0
  have f1 := blk_frozen HI.out.blk 1
  have f2 := blk_frozen HI.out.blk 2
  have f3 := blk_frozen HI.out.blk 3
  have f4 := blk_frozen HI.out.blk 4
  have f5 := blk_frozen HI.out.blk 5
  have f6 := blk_frozen HI.out.blk 6
  have f7 := blk_frozen HI.out.blk 7
  have f8 := blk_frozen HI.out.blk 8
  go_enter Try.func51, Try.ntmps51
  go_wp2_with fail
  go_end0
  have hk : Kp F w ((w.setCell ⟨g, 7, none⟩ (.int .i64 (n : Int))).setCell ⟨g, 8, none⟩ (.slice none 0 0)) := ((Kp.set w ⟨g, 7, none⟩ _).trans (Kp.set _ ⟨g, 8, none⟩ _) (fun k hk => .inl hk)).mono (fun k hk => by rw [hk]; exact HI.out.2.2.2.1)
  refine ⟨rfl, ImS.of (vb' := .slice A1 n c1) (vw' := .slice none 0 0) HI.out hk ?_ ?_ (OwnO.nil _ _ _ _) (fun k hk => .inl (HI.out.2.2.2.2.1 k hk)) (fun k hk => by cases hk)⟩
  · simpa [imA] using blk_set (blk_set HI.out.blk 7 (.int .i64 (n : Int))) 8 (.slice none 0 0)
  · exact HI.out.b.move (fun k hk => (Below.heap_setCell _ ⟨g, 8, none⟩ _ k (fun e => HI.out.b_ne (by rw [hk, e]))).trans (Below.heap_setCell _ ⟨g, 7, none⟩ _ k (fun e => HI.out.b_ne (by rw [hk, e]))))
end Go.Proofs.Ytigdchfjcfljjaa
end
section
/- Images: Set, Put. -/
namespace Go.Proofs.Ytigdchfjcfljjaa
open Go.RowKit Go.Proofs.YtigdchfjcfljjaaW.PrintWords Go.Proofs.YtigdchfjcfljjaaW.PrintLast Go.Proofs.YtigdchfjcfljjaaW.PrintMore
attribute [local go_sem] max2_int min2_int max_two min_two max_three min_three max_four min_four
theorem slice_from (b o n c j : Nat) (hj : j ≤ n) (hc : c ≠ j) (W : World) : (Instr.slice 22 (.slice (some ⟨b, o, none⟩) n c) (some (.int .i64 (j : Int))) none none).run Try.prog W = .ok (.slice (some ⟨b, o + j, none⟩) (n - j) (c - j)) W := by
  have hinfo := infoU8
  obtain ⟨i, hi, hzz⟩ := Option.map_eq_some_iff.1 hinfo
  simp only [Prod.mk.injEq] at hzz
  have hel : Try.prog.elem 22 = 5 := by simp [Program.elem, Try.underlying22]
  have hu : Try.prog.underlying 22 = some (.slice (Try.prog.elem 22)) := by rw [hel]; exact Try.underlying22
  rw [run_slice_l W 22 (some ⟨b, o, none⟩) n c hu .i64 (j : Int) (Int.natCast_nonneg _) (by omega), hel]
  simp [sizeOf, typeInfo, hi, hzz.2.1, sliced, Result.andThen, hc, Addr.add_lit]
theorem OwnO.form {α : Type} {enc : α → Value} {W : World} {base e : Nat} {v : Value} {xs : List α} (h : OwnO enc W base e v xs) (h0 : 0 < xs.length) : ∃ b o c, v = .slice (some ⟨b, o, none⟩) xs.length c ∧ xs.length ≤ c ∧ base ≤ b := by
  rcases h with ⟨_, rfl⟩ | ⟨g, o, cap, cur, rfl, hb, hg, hn, _⟩
  · simp at h0
  · exact ⟨g, o, cap, rfl, hn, hb⟩
theorem infoInt : (Try.prog.info? 3).map (fun i => (i.zero, i.size, i.bytes)) = some (some (.int .i64 0), 1, 8) := by kernel_rfl
theorem app_int {W : World} {base : Nat} {v : Value} {xs : List Int} (y : Int) {k : Nat} (HO : OwnO (Value.int .i64) W base 3 v xs) (hk : xs.length = k) (hbase : base ≤ W.heap.size) (hl : k ≤ 1000000) :
    ∃ A1 c1 w1, (Builtin.append_ #[83, 83] 83 #[v, .slice (some ⟨W.heap.size, 0, none⟩) 1 1]).run Try.prog (W.alloc (.cells #[.int .i64 y] 3)) = .ok (.slice A1 (k + 1) c1) w1 ∧ OwnO (Value.int .i64) w1 base 3 (.slice A1 (k + 1) c1) (xs ++ [y]) ∧ Kp (fun b => v.ownBlock = some b) W w1 ∧ ((Value.slice A1 (k + 1) c1).ownBlock = v.ownBlock ∨ ∃ b, (Value.slice A1 (k + 1) c1).ownBlock = some b ∧ W.heap.size ≤ b) :=
  app_lits (P := Try.prog) (d := (0 : Int)) (fun x => rfl) Try.underlying83 infoInt rfl (by omega) [y] rfl HO hk rfl hbase (by omega)
/-- May a word be set there. -/
def setOk (n : Nat) (a : Int) : Prop := a % 8 = 0 ∧ 192 ≤ a ∧ a + 8 ≤ n
theorem sub8 (n : Nat) (h : n ≤ 140737488355000) : IntKind.i64.wrap ((n : Int) - 8) = (n : Int) - 8 := by rw [IntKind.wrap_i64]; omega
set_option maxHeartbeats 8000000 in
set_option maxRecDepth 100000 in
theorem Set_arg (g base : Nat) (H : Hd) (B : List Int) (lim fr : Int) (ws : List Int) (F : Nat → Prop) (vb vw : Value) (w : World) (hI : Im w g base H B lim fr ws F vb vw) (n : Nat) (hn : B.length = n) (hl : n ≤ 140737488355000) (a x : Int) (hno : ¬ setOk n a) : Calls Try.prog 42 #[.pointer (some ⟨g, 0, none⟩), .int .i64 a, .int .u64 x] w fun e w' => e = .returned (.int .i64 1) ∧ w = w' := by
  have HI := Aside0.mk hI
  obtain ⟨A1, c1, ev, _, _⟩ := hI.b.sl hn
  subst ev
  rw [setOk] at hno
  have h8 := sub8 n hl
  clear hI
  have r0 : (w).cell? ⟨g, 0, none⟩ = some (.int .u64 H.id) := blk_cell HI.out.blk 0
  have r1 : (w).cell? ⟨g, 1, none⟩ = some (.int .u64 H.key) := blk_cell HI.out.blk 1
  have r2 : (w).cell? ⟨g, 2, none⟩ = some (.int .i64 H.data) := blk_cell HI.out.blk 2
  have r3 : (w).cell? ⟨g, 3, none⟩ = some (.int .i64 H.fields) := blk_cell HI.out.blk 3
  have r4 : (w).cell? ⟨g, 4, none⟩ = some (.int .u64 H.made) := blk_cell HI.out.blk 4
  have r5 : (w).cell? ⟨g, 5, none⟩ = some ((.slice A1 n c1)) := blk_cell HI.out.blk 5
  have r6 : (w).cell? ⟨g, 6, none⟩ = some (.int .i64 lim) := blk_cell HI.out.blk 6
  have r7 : (w).cell? ⟨g, 7, none⟩ = some (.int .i64 fr) := blk_cell HI.out.blk 7
  have r8 : (w).cell? ⟨g, 8, none⟩ = some (vw) := blk_cell HI.out.blk 8
  by_cases c1 : a < 192
  · by_cases c2 : a.tmod 8 = 0
    · have b1 : (a.tmod 8 != 0) = false := by rw [c2]; rfl
      clear hno
      go_enter Try.func42, Try.ntmps42
      go_wp2_with fail
      go_ret
      exact ⟨rfl, rfl⟩
    · have b1 : (a.tmod 8 != 0) = true := by simpa using c2
      clear hno
      go_enter Try.func42, Try.ntmps42
      go_wp2_with fail
      go_ret
      exact ⟨rfl, rfl⟩
  · have e1 : a.tmod 8 = a % 8 := Int.tmod_eq_emod_of_nonneg (by omega)
    by_cases c2 : a % 8 = 0
    · have b1 : (a.tmod 8 != 0) = false := by rw [e1, c2]; rfl
      have b2 : (a % 8 != 0) = false := by rw [c2]; rfl
      have c3 : (n : Int) - 8 < a := by omega
      clear hno e1 c2
      go_enter Try.func42, Try.ntmps42
      go_wp2_with fail
      go_ret
      exact ⟨rfl, rfl⟩
    · have b1 : (a.tmod 8 != 0) = true := by rw [e1]; simpa using c2
      have b2 : (a % 8 != 0) = true := by simpa using c2
      clear hno e1 c2
      go_enter Try.func42, Try.ntmps42
      go_wp2_with fail
      go_ret
      exact ⟨rfl, rfl⟩
set_option maxHeartbeats 8000000 in
set_option maxRecDepth 100000 in
theorem Set_twice (g base : Nat) (H : Hd) (B : List Int) (lim fr : Int) (ws : List Int) (F : Nat → Prop) (vb vw : Value) (w : World) (hI : Im w g base H B lim fr ws F vb vw) (n : Nat) (hn : B.length = n) (hl : n ≤ 140737488355000) (hb : isB B) (a x : Int) (hok : setOk n a) (hx : getN B a 8 ≠ 0) : Calls Try.prog 42 #[.pointer (some ⟨g, 0, none⟩), .int .i64 a, .int .u64 x] w fun e w' => e = .returned (.int .i64 7) ∧ Below w.heap.size w w' := by
  have HI := Aside0.mk hI
  have C := Aside0.mk (Word_calls g base H B lim fr ws F vb vw w hI a hb)
  obtain ⟨A1, c1, ev, _, _⟩ := hI.b.sl hn
  subst ev
  obtain ⟨k1, k2, k3⟩ := hok
  have h8 := sub8 n hl
  have b1 : (a.tmod 8 != 0) = false := by rw [Int.tmod_eq_emod_of_nonneg (by omega), k1]; rfl
  have b2 : (a % 8 != 0) = false := by rw [k1]; rfl
  have b3 : (getN B a 8 != 0) = true := by simpa using hx
  obtain ⟨y, hy⟩ : ∃ y, getN B a 8 = y := ⟨_, rfl⟩
  rw [hy] at C b3
  clear hI k1 hx hy
  have r0 : (w).cell? ⟨g, 0, none⟩ = some (.int .u64 H.id) := blk_cell HI.out.blk 0
  have r1 : (w).cell? ⟨g, 1, none⟩ = some (.int .u64 H.key) := blk_cell HI.out.blk 1
  have r2 : (w).cell? ⟨g, 2, none⟩ = some (.int .i64 H.data) := blk_cell HI.out.blk 2
  have r3 : (w).cell? ⟨g, 3, none⟩ = some (.int .i64 H.fields) := blk_cell HI.out.blk 3
  have r4 : (w).cell? ⟨g, 4, none⟩ = some (.int .u64 H.made) := blk_cell HI.out.blk 4
  have r5 : (w).cell? ⟨g, 5, none⟩ = some ((.slice A1 n c1)) := blk_cell HI.out.blk 5
  have r6 : (w).cell? ⟨g, 6, none⟩ = some (.int .i64 lim) := blk_cell HI.out.blk 6
  have r7 : (w).cell? ⟨g, 7, none⟩ = some (.int .i64 fr) := blk_cell HI.out.blk 7
  have r8 : (w).cell? ⟨g, 8, none⟩ = some (vw) := blk_cell HI.out.blk 8
  go_enter Try.func42, Try.ntmps42
  go_wp2_with fail
  refine (C.out).mono ?_
  rintro e w1 ⟨rfl, hb⟩
  have HB := Aside0.mk hb
  clear hb
  go_wp2_with fail
  go_ret
  exact ⟨rfl, HB.out⟩
set_option maxHeartbeats 8000000 in
set_option maxRecDepth 100000 in
theorem Set_yes (g base : Nat) (H : Hd) (B : List Int) (lim fr : Int) (ws : List Int) (F : Nat → Prop) (vb vw : Value) (w : World) (hI : Im w g base H B lim fr ws F vb vw) (n : Nat) (hn : B.length = n) (hl : n ≤ 140737488355000) (hb : isB B) (j : Nat) (x : Int) (hok : setOk n j) (hx : getN B j 8 = 0) (x0 : 0 ≤ x) (x1 : x ≤ 18446744073709551615) (hwl : ws.length ≤ 1000000) : Calls Try.prog 42 #[.pointer (some ⟨g, 0, none⟩), .int .i64 (j : Int), .int .u64 x] w fun e w' => e = .returned (.int .i64 0) ∧ ImS w w' g base H (splice B j (leB x 8)) lim fr (if (j : Int) < fr then ws ++ [(j : Int)] else ws) F := by
  obtain ⟨k1, k2, k3⟩ := hok
  obtain ⟨b, o, c, ev, hnc, hbb⟩ := hI.b.form (by omega)
  rw [hn] at ev hnc
  subst ev
  have HI := Aside0.mk hI
  have C := Aside0.mk (Word_calls g base H B lim fr ws F (.slice (some ⟨b, o, none⟩) n c) vw w hI j hb)
  rw [hx] at C
  have CB := Aside0.mk (fun w => le_Bytes_calls x 8 w x0 x1)
  have hsl := slice_from b o n c j (by omega) (by omega)
  have h8 := sub8 n hl
  have b1 : ((j : Int).tmod 8 != 0) = false := by rw [Int.tmod_eq_emod_of_nonneg (by omega), k1]; rfl
  have b2 : ((j : Int) % 8 != 0) = false := by rw [k1]; rfl
  have HN := Aside0.mk hn
  obtain ⟨B2, hB2⟩ : ∃ X, splice B j (leB x 8) = X := ⟨_, rfl⟩
  rw [hB2]
  have HB2 := Aside0.mk hB2
  obtain ⟨WS, hWS⟩ : ∃ X, (if (j : Int) < fr then ws ++ [(j : Int)] else ws) = X := ⟨_, rfl⟩
  rw [hWS]
  have HWS := Aside0.mk hWS
  clear hWS
  obtain ⟨wl, hwn⟩ : ∃ k, ws.length = k := ⟨_, rfl⟩
  have HWN := Aside0.mk hwn
  rw [hwn] at hwl
  clear hI k1 hx hn hB2 hwn
  have r0 : (w).cell? ⟨g, 0, none⟩ = some (.int .u64 H.id) := blk_cell HI.out.blk 0
  have r1 : (w).cell? ⟨g, 1, none⟩ = some (.int .u64 H.key) := blk_cell HI.out.blk 1
  have r2 : (w).cell? ⟨g, 2, none⟩ = some (.int .i64 H.data) := blk_cell HI.out.blk 2
  have r3 : (w).cell? ⟨g, 3, none⟩ = some (.int .i64 H.fields) := blk_cell HI.out.blk 3
  have r4 : (w).cell? ⟨g, 4, none⟩ = some (.int .u64 H.made) := blk_cell HI.out.blk 4
  have r5 : (w).cell? ⟨g, 5, none⟩ = some ((.slice (some ⟨b, o, none⟩) n c)) := blk_cell HI.out.blk 5
  have r6 : (w).cell? ⟨g, 6, none⟩ = some (.int .i64 lim) := blk_cell HI.out.blk 6
  have r7 : (w).cell? ⟨g, 7, none⟩ = some (.int .i64 fr) := blk_cell HI.out.blk 7
  have r8 : (w).cell? ⟨g, 8, none⟩ = some (vw) := blk_cell HI.out.blk 8
  go_enter Try.func42, Try.ntmps42
  go_wp2_with fail
  refine (C.out).mono ?_
  rintro e w1 ⟨rfl, hb⟩
  have HB := Aside0.mk hb
  have HI1 := Aside0.mk (HI.out.below hb)
  clear hb r0 r1 r2 r3 r4 r5 r6 r7 r8
  have r0 : (w1).cell? ⟨g, 0, none⟩ = some (.int .u64 H.id) := blk_cell HI1.out.blk 0
  have r1 : (w1).cell? ⟨g, 1, none⟩ = some (.int .u64 H.key) := blk_cell HI1.out.blk 1
  have r2 : (w1).cell? ⟨g, 2, none⟩ = some (.int .i64 H.data) := blk_cell HI1.out.blk 2
  have r3 : (w1).cell? ⟨g, 3, none⟩ = some (.int .i64 H.fields) := blk_cell HI1.out.blk 3
  have r4 : (w1).cell? ⟨g, 4, none⟩ = some (.int .u64 H.made) := blk_cell HI1.out.blk 4
  have r5 : (w1).cell? ⟨g, 5, none⟩ = some ((.slice (some ⟨b, o, none⟩) n c)) := blk_cell HI1.out.blk 5
  have r6 : (w1).cell? ⟨g, 6, none⟩ = some (.int .i64 lim) := blk_cell HI1.out.blk 6
  have r7 : (w1).cell? ⟨g, 7, none⟩ = some (.int .i64 fr) := blk_cell HI1.out.blk 7
  have r8 : (w1).cell? ⟨g, 8, none⟩ = some (vw) := blk_cell HI1.out.blk 8
  go_upto_region 7 with fail
  refine start_ (n := 9) (S := fun w' => w'.cell? ⟨g, 5, none⟩ = some ((.slice (some ⟨b, o, none⟩) n c))) (ds := [8]) #[false,false,false,false,false,false,false,false,false] (by kernel_rfl) rfl rfl (r5) (fun hHeld => ?_)
  refine pure_ (i := 0) (N := some 33) (v := ?_) (a' := ?_) #[true,false,false,false,false,false,false,false,false] rfl rfl (by kernel_rfl) (fun _ _ _ h => h) (Or.inl ⟨by rfl, ?_⟩) ?_ ?_
  rotate_left
  · intro w'
    go_simp
    with_reducible rfl
  rotate_left
  · simp only [Act.put, List.setIfInBounds_toArray, List.set_cons_zero, List.set_cons_succ, i64_w, i32_w]
    rfl
  refine pure_ (i := 1) (N := some 34) (v := ?_) (a' := ?_) #[true,true,false,false,false,false,false,false,false] rfl rfl (by kernel_rfl) (fun _ _ _ h => h) (Or.inl ⟨by rfl, ?_⟩) ?_ ?_
  rotate_left
  · intro w'
    go_simp
    with_reducible rfl
  rotate_left
  · simp only [Act.put, List.setIfInBounds_toArray, List.set_cons_zero, List.set_cons_succ, i64_w, i32_w]
    rfl
  refine pure_ (i := 2) (N := some 35) (v := ?_) (a' := ?_) #[true,true,true,false,false,false,false,false,false] rfl rfl (by kernel_rfl) (fun _ _ _ h => h) (Or.inl ⟨by rfl, ?_⟩) ?_ ?_
  rotate_left
  · intro w'
    go_simp
    with_reducible rfl
  rotate_left
  · simp only [Act.put, List.setIfInBounds_toArray, List.set_cons_zero, List.set_cons_succ, i64_w, i32_w]
    rfl
  refine pure_ (i := 4) (N := some 37) (v := ?_) (a' := ?_) #[true,true,true,false,true,false,false,false,false] rfl rfl (by kernel_rfl) (fun _ _ _ h => h) (Or.inl ⟨by rfl, ?_⟩) ?_ ?_
  rotate_left
  · intro w'
    go_simp
    with_reducible rfl
  rotate_left
  · simp only [Act.put, List.setIfInBounds_toArray, List.set_cons_zero, List.set_cons_succ, i64_w, i32_w]
    rfl
  refine pure_ (i := 6) (N := some 39) (v := ?_) (a' := ?_) #[true,true,true,false,true,false,true,false,false] rfl rfl (by kernel_rfl) (fun _ _ _ h => h) (Or.inl ⟨by rfl, ?_⟩) ?_ ?_
  rotate_left
  · intro w'
    go_simp
    with_reducible rfl
  rotate_left
  · simp only [Act.put, List.setIfInBounds_toArray, List.set_cons_zero, List.set_cons_succ, i64_w, i32_w]
    rfl
  refine take_ (i := 3) (N := some 36) (v := ?_) (a' := ?_) #[true,true,true,true,true,false,true,false,false] rfl rfl (by kernel_rfl) (fun _ _ _ h => h) (Or.inl ⟨by rfl, ?_⟩) hHeld ?_ ?_
  rotate_left
  · intro w' s0
    go_simp
    with_reducible rfl
  rotate_left
  · simp only [Act.put, List.setIfInBounds_toArray, List.set_cons_zero, List.set_cons_succ, i64_w, i32_w]
    rfl
  refine pure_ (i := 5) (N := some 38) (v := ?_) (a' := ?_) #[true,true,true,true,true,true,true,false,false] rfl rfl (by kernel_rfl) (fun _ _ _ h => h) (Or.inl ⟨by rfl, ?_⟩) ?_ ?_
  rotate_left
  · intro w'
    go_simp
    with_reducible rfl
  rotate_left
  · simp only [Act.put, List.setIfInBounds_toArray, List.set_cons_zero, List.set_cons_succ, i64_w, i32_w]
    rfl
  refine one_ (i := 7) (N := some 40) #[true,true,true,true,true,true,true,true,false] rfl rfl (by kernel_rfl) (by decide) (fun K hK => ?_)
  refine goes_ Try.func87 (by kernel_rfl) rfl #[.int .u64 x, .int .i64 8] (by rfl) rfl rfl (by (try simp only [List.map_toArray, List.map_cons, List.map_nil]); first | done | rfl) ?_
  with_reducible refine (CB.out _).mono ?_
  rintro e w2 ⟨v2, rfl, hR2, hb2⟩
  refine ⟨_, rfl, ?_⟩
  refine hK.out _ _ ((pw_cell_below hb2 hHeld)) (fun hHeld => ?_)
  clear hK K
  refine norm_ (a' := ?_) ?_ ?_
  rotate_left
  · show Act.put _ (some 40) _ = _
    simp only [Act.put, List.setIfInBounds_toArray, List.set_cons_zero, List.set_cons_succ, i64_w, i32_w]
    rfl
  refine last_ (i := 8) (N := some 41) #[true,true,true,true,true,true,true,true,true] rfl rfl (by kernel_rfl) (by decide) (fun K hK => ?_)
  have hi2 := (HI1.out.below (below_drew (Below.refl _ _))).below hb2
  obtain ⟨ad2, c2, rfl, hc2⟩ := rd_slice (Own.rd (Own.of_R hR2)) (show (leB x (leW 8)).length = 8 by rw [leW8, leB_len]) (by omega)
  rw [leW8] at hc2
  refine copyO_step (by rfl) (.tmp 38) (.tmp 40) (by rfl) Try.underlying22 (by kernel_rfl) hi2.b rfl rfl (leB x 8) (leB_len x 8) (show 8 = Nat.min 8 (n - j) from (Nat.min_eq_left (by omega)).symm) hc2 (by omega) ?_
  intro w3 ho3 hk3
  refine hK.out _ _ ?_
  clear hK K
  refine norm_ (a' := ?_) ?_ ?_
  rotate_left
  · show Act.put _ (some 41) _ = _
    simp only [Act.put, List.setIfInBounds_toArray, List.set_cons_zero, List.set_cons_succ, i64_w, i32_w]
    rfl
  refine done_ (by kernel_rfl) ?_
  rw [HB2.out] at ho3
  have HK2 := Aside0.mk (Below.trans (below_drew (Below.refl w1.heap.size w1)) (hb2.mono (by simp)))
  have HO3 := Aside0.mk ho3
  have hgb : g ≠ b := fun e => hi2.b_ne (by rw [e]; rfl)
  have HZ3 := Aside0.mk (hk3.blk hi2.blk hgb)
  have HW3 := Aside0.mk (hi2.w.kp hk3 (fun k hk e => by
    subst e
    exact hi2.w.apart hi2.b (by decide) k hk rfl))
  have HK3 := Aside0.mk ((Kp.of_below (HB.out.trans (HK2.out.mono HB.out.size)) F).trans hk3 (fun k hk => .inl (by rw [hk]; exact HI.out.2.2.2.2.1 b rfl)))
  clear r0 r1 r2 r3 r4 r5 r6 r7 r8 hk3 ho3 hi2 hc2 hR2 hb2 hsl
  have r0 : (w3).cell? ⟨g, 0, none⟩ = some (.int .u64 H.id) := blk_cell HZ3.out 0
  have r1 : (w3).cell? ⟨g, 1, none⟩ = some (.int .u64 H.key) := blk_cell HZ3.out 1
  have r2 : (w3).cell? ⟨g, 2, none⟩ = some (.int .i64 H.data) := blk_cell HZ3.out 2
  have r3 : (w3).cell? ⟨g, 3, none⟩ = some (.int .i64 H.fields) := blk_cell HZ3.out 3
  have r4 : (w3).cell? ⟨g, 4, none⟩ = some (.int .u64 H.made) := blk_cell HZ3.out 4
  have r5 : (w3).cell? ⟨g, 5, none⟩ = some ((.slice (some ⟨b, o, none⟩) n c)) := blk_cell HZ3.out 5
  have r6 : (w3).cell? ⟨g, 6, none⟩ = some (.int .i64 lim) := blk_cell HZ3.out 6
  have r7 : (w3).cell? ⟨g, 7, none⟩ = some (.int .i64 fr) := blk_cell HZ3.out 7
  have r8 : (w3).cell? ⟨g, 8, none⟩ = some (vw) := blk_cell HZ3.out 8
  have f0 := blk_frozen HZ3.out 0
  have f1 := blk_frozen HZ3.out 1
  have f2 := blk_frozen HZ3.out 2
  have f3 := blk_frozen HZ3.out 3
  have f4 := blk_frozen HZ3.out 4
  have f5 := blk_frozen HZ3.out 5
  have f6 := blk_frozen HZ3.out 6
  have f7 := blk_frozen HZ3.out 7
  have f8 := blk_frozen HZ3.out 8
  by_cases c1 : (j : Int) < fr
  · have hws := HWS.out
    rw [if_pos c1] at hws
    subst hws
    obtain ⟨A4, c4, w4, hr4, ho4, hk4, hat⟩ := app_int (j : Int) HW3.out HWN.out (Nat.le_trans HI.out.bs HK3.out.size) (by omega)
    have HR4 := Aside0.mk hr4
    have HW4 := Aside0.mk ho4
    have HAT := Aside0.mk hat
    have hgw : ¬ (vw.ownBlock = some g) := HI.out.w_ne
    have HZ4 := Aside0.mk (hk4.blk HZ3.out hgw)
    have HO4 := Aside0.mk (HO3.out.kp hk4 (fun k hk => HO3.out.apart HW3.out (by decide) k hk))
    have HK4 := Aside0.mk (HK3.out.trans hk4 (fun k hk => .inl (HI.out.2.2.2.2.2.1 k hk)))
    have hsz := hk4.size
    clear hr4 ho4 hk4 hat
    have s0 : (w4).cell? ⟨g, 0, none⟩ = some (.int .u64 H.id) := blk_cell HZ4.out 0
    have s1 : (w4).cell? ⟨g, 1, none⟩ = some (.int .u64 H.key) := blk_cell HZ4.out 1
    have s2 : (w4).cell? ⟨g, 2, none⟩ = some (.int .i64 H.data) := blk_cell HZ4.out 2
    have s3 : (w4).cell? ⟨g, 3, none⟩ = some (.int .i64 H.fields) := blk_cell HZ4.out 3
    have s4 : (w4).cell? ⟨g, 4, none⟩ = some (.int .u64 H.made) := blk_cell HZ4.out 4
    have s5 : (w4).cell? ⟨g, 5, none⟩ = some ((.slice (some ⟨b, o, none⟩) n c)) := blk_cell HZ4.out 5
    have s6 : (w4).cell? ⟨g, 6, none⟩ = some (.int .i64 lim) := blk_cell HZ4.out 6
    have s7 : (w4).cell? ⟨g, 7, none⟩ = some (.int .i64 fr) := blk_cell HZ4.out 7
    have s8 : (w4).cell? ⟨g, 8, none⟩ = some (vw) := blk_cell HZ4.out 8
    have h0 := blk_frozen HZ4.out 0
    have h1 := blk_frozen HZ4.out 1
    have h2 := blk_frozen HZ4.out 2
    have h3 := blk_frozen HZ4.out 3
    have h4 := blk_frozen HZ4.out 4
    have h5 := blk_frozen HZ4.out 5
    have h6 := blk_frozen HZ4.out 6
    have h7 := blk_frozen HZ4.out 7
    have h8 := blk_frozen HZ4.out 8
    go_wp2_with (first | ((with_reducible refine gate_builtin (b := .append) (xs := #[.tmp 52, .tmp 54]) rfl ?_); at_builtin; refine app_list rfl (.tmp 52) (.tmp 54) rfl rfl rfl HR4.out ?_))
    go_ret
    refine ⟨rfl, ImS.of (vb' := (.slice (some ⟨b, o, none⟩) n c)) (vw' := .slice A4 (wl + 1) c4) HI.out (HK4.out.trans (Kp.set w4 ⟨g, 8, none⟩ (.slice A4 (wl + 1) c4)) (fun k hk => .inl (by rw [hk]; exact HI.out.2.2.2.1))) ?_ ?_ ?_ (fun k hk => .inl (HI.out.2.2.2.2.1 k hk)) ?_⟩
    · simpa [imA] using blk_set HZ4.out 8 (.slice A4 (wl + 1) c4)
    · exact HO4.out.move (fun k hk => Below.heap_setCell _ ⟨g, 8, none⟩ _ k (fun e => HI.out.b_ne (by rw [hk, e])))
    · exact HW4.out.move (fun k hk => Below.heap_setCell _ ⟨g, 8, none⟩ _ k (fun e => HW4.out.ne HZ4.out (by decide) (by rw [hk, e])))
    · intro k hk
      have hlt := HW4.out.lt hk
      rcases HAT.out with h | ⟨b', h, hb'⟩
      · exact .inl (HI.out.2.2.2.2.2.1 k (by rw [← h]; exact hk))
      · rw [h] at hk; injection hk with hk
        subst hk
        exact .inr ⟨Nat.le_trans HK3.out.size hb', by simpa using hlt⟩
  · have hws := HWS.out
    rw [if_neg c1] at hws
    subst hws
    go_wp2_with fail
    go_ret
    exact ⟨rfl, ImS.of (vb' := (.slice (some ⟨b, o, none⟩) n c)) (vw' := vw) HI.out HK3.out HZ3.out HO3.out HW3.out (fun k hk => .inl (HI.out.2.2.2.2.1 k hk)) (fun k hk => .inl (HI.out.2.2.2.2.2.1 k hk))⟩
set_option maxHeartbeats 8000000 in
set_option maxRecDepth 100000 in
theorem Put_arg (g base : Nat) (H : Hd) (B : List Int) (lim fr : Int) (ws : List Int) (F : Nat → Prop) (vb vw : Value) (w : World) (hI : Im w g base H B lim fr ws F vb vw) (kd : Int) (nW nR nI : Nat) (A1 A2 A3 : Option Addr) (c1 c2 c3 : Nat) (b1 : nW ≤ 100000) (b2 : nR ≤ 100000) (b3 : nI ≤ 100000) (hr : oR kd nW nR nI = false) : Calls Try.prog 46 #[.pointer (some ⟨g, 0, none⟩), .agg #[.int .i64 kd, .slice A1 nW c1, .slice A2 nR c2, .slice A3 nI c3]] w fun e w' => e = .returned (.tuple #[.int .i64 0, .int .i64 1]) ∧ Below w.heap.size w w' := by
  have HR := Aside0.mk (fun w => obj_Right_calls kd A1 A2 A3 nW nR nI c1 c2 c3 w (by omega) (by omega) (by omega))
  rw [hr] at HR
  clear hI hr
  go_enter Try.func46, Try.ntmps46
  go_wp2_with fail
  refine (HR.out _).mono ?_
  rintro e w1 ⟨rfl, hb⟩
  have HB := Aside0.mk (below_step (below_alloc (Below.refl w.heap.size w) _) hb)
  clear hb
  go_wp2_with fail
  go_ret2
  exact ⟨rfl, HB.out⟩
set_option maxHeartbeats 8000000 in
set_option maxRecDepth 100000 in
theorem Put_file (g base : Nat) (H : Hd) (B : List Int) (lim fr : Int) (ws : List Int) (F : Nat → Prop) (vb vw : Value) (w : World) (hI : Im w g base H B lim fr ws F vb vw) (kd : Int) (ws_ raw it : List Int) (A1 A2 A3 : Option Addr) (c1 c2 c3 : Nat) (h1 : Rd w .u64 (.slice A1 ws_.length c1) ws_) (h2 : Rd w .u8 (.slice A2 raw.length c2) raw) (h3 : Rd w .u64 (.slice A3 it.length c3) it) (k1 : isW ws_) (k2 : isB raw) (k3 : isW it) (hr : oR kd ws_.length raw.length it.length = true) (n N : Nat) (hn : B.length = n) (hN : (objZ kd ws_ raw it).length = N) (hl : n ≤ 1048576) (hlim : 0 ≤ lim ∧ lim ≤ 1048576) (hfit : lim - n < (N : Int)) : Calls Try.prog 46 #[.pointer (some ⟨g, 0, none⟩), .agg #[.int .i64 kd, .slice A1 ws_.length c1, .slice A2 raw.length c2, .slice A3 it.length c3]] w fun e w' => e = .returned (.tuple #[.int .i64 0, .int .i64 21]) ∧ Below w.heap.size w w' := by
  obtain ⟨q1, q2, q3, n1, n2, n3⟩ := oR_of hr
  have hNb : N ≤ 20000 := by
    have := objB_len kd ws_ raw it
    have h2 : padN ((objB kd ws_ raw it).length : Int) 8 ≤ 8 := by unfold padN; split <;> omega
    rw [← hN, objZ, List.length_append, List.length_replicate]; omega
  have CR := Aside0.mk (fun w => obj_Right_calls kd A1 A2 A3 ws_.length raw.length it.length c1 c2 c3 w (by omega) (by omega) (by omega))
  rw [hr] at CR
  have CS := Aside0.mk (fun w => obj_Size_calls kd A1 A2 A3 ws_.length raw.length it.length c1 c2 c3 w (by omega) (by omega))
  rw [obj_len hr, hN] at CS
  have H1 := Aside0.mk h1
  have H2 := Aside0.mk h2
  have H3 := Aside0.mk h3
  have W1 := Aside0.mk k1
  have W2 := Aside0.mk k2
  have W3 := Aside0.mk k3
  have HRR := Aside0.mk hr
  have HN := Aside0.mk hn
  have HNN := Aside0.mk hN
  have hsub : IntKind.i64.wrap (lim - (n : Int)) = lim - (n : Int) := by rw [IntKind.wrap_i64]; omega
  obtain ⟨A0, c0, ev, hn0, _⟩ := hI.b.sl hn
  subst ev
  have HI := Aside0.mk hI
  have hdc : decide (lim - (n : Int) < (N : Int)) = true := by exact decide_eq_true hfit
  have hdc2 : ((N : Int) > lim - (n : Int)) = True := by simp; omega
  clear h1 h2 h3 k1 k2 k3 hr hn hN hI
  go_enter Try.func46, Try.ntmps46
  go_wp2_with fail
  refine (CR.out _).mono ?_
  rintro e w1 ⟨rfl, hb⟩
  have HZ := Aside0.mk (blk_below (blk_new w (.cells #[.int .i64 kd, .slice A1 ws_.length c1, .slice A2 raw.length c2, .slice A3 it.length c3] 51)) hb)
  have HB := Aside0.mk (below_step (below_alloc (Below.refl w.heap.size w) (.cells #[.int .i64 kd, .slice A1 ws_.length c1, .slice A2 raw.length c2, .slice A3 it.length c3] 51)) hb)
  have HI1 := Aside0.mk (HI.out.below HB.out)
  clear hb
  have r0 : (w1).cell? ⟨g, 0, none⟩ = some (.int .u64 H.id) := blk_cell HI1.out.blk 0
  have r1 : (w1).cell? ⟨g, 1, none⟩ = some (.int .u64 H.key) := blk_cell HI1.out.blk 1
  have r2 : (w1).cell? ⟨g, 2, none⟩ = some (.int .i64 H.data) := blk_cell HI1.out.blk 2
  have r3 : (w1).cell? ⟨g, 3, none⟩ = some (.int .i64 H.fields) := blk_cell HI1.out.blk 3
  have r4 : (w1).cell? ⟨g, 4, none⟩ = some (.int .u64 H.made) := blk_cell HI1.out.blk 4
  have r5 : (w1).cell? ⟨g, 5, none⟩ = some ((.slice A0 n c0)) := blk_cell HI1.out.blk 5
  have r6 : (w1).cell? ⟨g, 6, none⟩ = some (.int .i64 lim) := blk_cell HI1.out.blk 6
  have r7 : (w1).cell? ⟨g, 7, none⟩ = some (.int .i64 fr) := blk_cell HI1.out.blk 7
  have r8 : (w1).cell? ⟨g, 8, none⟩ = some (vw) := blk_cell HI1.out.blk 8
  have z0 : (w1).cell? ⟨w.heap.size, 0, none⟩ = some (.int .i64 kd) := blk_cell HZ.out 0
  have z1 : (w1).cell? ⟨w.heap.size, 1, none⟩ = some (.slice A1 ws_.length c1) := blk_cell HZ.out 1
  have z2 : (w1).cell? ⟨w.heap.size, 2, none⟩ = some (.slice A2 raw.length c2) := blk_cell HZ.out 2
  have z3 : (w1).cell? ⟨w.heap.size, 3, none⟩ = some (.slice A3 it.length c3) := blk_cell HZ.out 3
  go_upto_region 5 with fail
  refine start_ (n := 14) (S := fun w' => w'.cell? ⟨g, 6, none⟩ = some (.int .i64 lim) ∧ w'.cell? ⟨g, 5, none⟩ = some ((.slice A0 n c0)) ∧ w'.cell? ⟨w.heap.size, 0, none⟩ = some (.int .i64 kd) ∧ w'.cell? ⟨w.heap.size, 1, none⟩ = some (.slice A1 ws_.length c1) ∧ w'.cell? ⟨w.heap.size, 2, none⟩ = some (.slice A2 raw.length c2) ∧ w'.cell? ⟨w.heap.size, 3, none⟩ = some (.slice A3 it.length c3)) (ds := []) #[false,false,false,false,false,false,false,false,false,false,false,false,false,false] (by kernel_rfl) rfl rfl ⟨r6, r5, z0, z1, z2, z3⟩ (fun hHeld => ?_)
  refine pure_ (i := 2) (N := some 17) (v := ?_) (a' := ?_) #[false,false,true,false,false,false,false,false,false,false,false,false,false,false] rfl rfl (by kernel_rfl) (fun _ _ _ h => h) (Or.inl ⟨by rfl, ?_⟩) ?_ ?_
  rotate_left
  · intro w'
    go_simp
    with_reducible rfl
  rotate_left
  · simp only [Act.put, List.setIfInBounds_toArray, List.set_cons_zero, List.set_cons_succ, i64_w, i32_w]
    rfl
  refine pure_ (i := 3) (N := some 18) (v := ?_) (a' := ?_) #[false,false,true,true,false,false,false,false,false,false,false,false,false,false] rfl rfl (by kernel_rfl) (fun _ _ _ h => h) (Or.inl ⟨by rfl, ?_⟩) ?_ ?_
  rotate_left
  · intro w'
    go_simp
    with_reducible rfl
  rotate_left
  · simp only [Act.put, List.setIfInBounds_toArray, List.set_cons_zero, List.set_cons_succ, i64_w, i32_w]
    rfl
  refine pure_ (i := 4) (N := some 19) (v := ?_) (a' := ?_) #[false,false,true,true,true,false,false,false,false,false,false,false,false,false] rfl rfl (by kernel_rfl) (fun _ _ _ h => h) (Or.inl ⟨by rfl, ?_⟩) ?_ ?_
  rotate_left
  · intro w'
    go_simp
    with_reducible rfl
  rotate_left
  · simp only [Act.put, List.setIfInBounds_toArray, List.set_cons_zero, List.set_cons_succ, i64_w, i32_w]
    rfl
  refine pure_ (i := 6) (N := some 21) (v := ?_) (a' := ?_) #[false,false,true,true,true,false,true,false,false,false,false,false,false,false] rfl rfl (by kernel_rfl) (fun _ _ _ h => h) (Or.inl ⟨by rfl, ?_⟩) ?_ ?_
  rotate_left
  · intro w'
    go_simp
    with_reducible rfl
  rotate_left
  · simp only [Act.put, List.setIfInBounds_toArray, List.set_cons_zero, List.set_cons_succ, i64_w, i32_w]
    rfl
  refine pure_ (i := 7) (N := some 22) (v := ?_) (a' := ?_) #[false,false,true,true,true,false,true,true,false,false,false,false,false,false] rfl rfl (by kernel_rfl) (fun _ _ _ h => h) (Or.inl ⟨by rfl, ?_⟩) ?_ ?_
  rotate_left
  · intro w'
    go_simp
    with_reducible rfl
  rotate_left
  · simp only [Act.put, List.setIfInBounds_toArray, List.set_cons_zero, List.set_cons_succ, i64_w, i32_w]
    rfl
  refine pure_ (i := 8) (N := some 23) (v := ?_) (a' := ?_) #[false,false,true,true,true,false,true,true,true,false,false,false,false,false] rfl rfl (by kernel_rfl) (fun _ _ _ h => h) (Or.inl ⟨by rfl, ?_⟩) ?_ ?_
  rotate_left
  · intro w'
    go_simp
    with_reducible rfl
  rotate_left
  · simp only [Act.put, List.setIfInBounds_toArray, List.set_cons_zero, List.set_cons_succ, i64_w, i32_w]
    rfl
  refine take_ (i := 0) (N := some 15) (v := ?_) (a' := ?_) #[true,false,true,true,true,false,true,true,true,false,false,false,false,false] rfl rfl (by kernel_rfl) (fun _ _ _ h => h) (Or.inl ⟨by rfl, ?_⟩) hHeld ?_ ?_
  rotate_left
  · rintro w' ⟨s0, s1, s2, s3, s4, s5⟩
    go_simp
    with_reducible rfl
  rotate_left
  · simp only [Act.put, List.setIfInBounds_toArray, List.set_cons_zero, List.set_cons_succ, i64_w, i32_w]
    rfl
  refine take_ (i := 5) (N := some 20) (v := ?_) (a' := ?_) #[true,false,true,true,true,true,true,true,true,false,false,false,false,false] rfl rfl (by kernel_rfl) (fun _ _ _ h => h) (Or.inl ⟨by rfl, ?_⟩) hHeld ?_ ?_
  rotate_left
  · rintro w' ⟨s0, s1, s2, s3, s4, s5⟩
    go_simp
    with_reducible rfl
  rotate_left
  · simp only [Act.put, List.setIfInBounds_toArray, List.set_cons_zero, List.set_cons_succ, i64_w, i32_w]
    rfl
  refine take_ (i := 9) (N := some 24) (v := ?_) (a' := ?_) #[true,false,true,true,true,true,true,true,true,true,false,false,false,false] rfl rfl (by kernel_rfl) (fun _ _ _ h => h) (Or.inl ⟨by rfl, ?_⟩) hHeld ?_ ?_
  rotate_left
  · rintro w' ⟨s0, s1, s2, s3, s4, s5⟩
    go_simp
    with_reducible rfl
  rotate_left
  · simp only [Act.put, List.setIfInBounds_toArray, List.set_cons_zero, List.set_cons_succ, i64_w, i32_w]
    rfl
  refine pure_ (i := 10) (N := some 25) (v := ?_) (a' := ?_) #[true,false,true,true,true,true,true,true,true,true,true,false,false,false] rfl rfl (by kernel_rfl) (fun _ _ _ h => h) (Or.inl ⟨by rfl, ?_⟩) ?_ ?_
  rotate_left
  · intro w'
    go_simp
    with_reducible rfl
  rotate_left
  · simp only [Act.put, List.setIfInBounds_toArray, List.set_cons_zero, List.set_cons_succ, i64_w, i32_w]
    rfl
  refine pure_ (i := 11) (N := some 26) (v := ?_) (a' := ?_) #[true,false,true,true,true,true,true,true,true,true,true,true,false,false] rfl rfl (by kernel_rfl) (fun _ _ _ h => h) (Or.inl ⟨by rfl, ?_⟩) ?_ ?_
  rotate_left
  · intro w'
    go_simp
    with_reducible rfl
  rotate_left
  · simp only [Act.put, List.setIfInBounds_toArray, List.set_cons_zero, List.set_cons_succ, i64_w, i32_w]
    rfl
  refine one_ (i := 1) (N := some 16) #[true,true,true,true,true,true,true,true,true,true,true,true,false,false] rfl rfl (by kernel_rfl) (by decide) (fun K hK => ?_)
  refine goes_ Try.func118 (by kernel_rfl) rfl #[.agg #[.int .i64 kd, .slice A1 ws_.length c1, .slice A2 raw.length c2, .slice A3 it.length c3]] (by rfl) rfl rfl (by (try simp only [List.map_toArray, List.map_cons, List.map_nil]); first | done | rfl) ?_
  with_reducible refine (CS.out _).mono ?_
  rintro e w2 ⟨rfl, hb2⟩
  refine ⟨_, rfl, ?_⟩
  refine hK.out _ _ ⟨(pw_cell_below hb2 hHeld.1), (pw_cell_below hb2 hHeld.2.1), (pw_cell_below hb2 hHeld.2.2.1), (pw_cell_below hb2 hHeld.2.2.2.1), (pw_cell_below hb2 hHeld.2.2.2.2.1), (pw_cell_below hb2 hHeld.2.2.2.2.2)⟩ (fun hHeld => ?_)
  clear hK K
  refine norm_ (a' := ?_) ?_ ?_
  rotate_left
  · show Act.put _ (some 16) _ = _
    simp only [Act.put, List.setIfInBounds_toArray, List.set_cons_zero, List.set_cons_succ, i64_w, i32_w]
    rfl
  refine pure_ (i := 12) (N := some 27) (v := ?_) (a' := ?_) #[true,true,true,true,true,true,true,true,true,true,true,true,true,false] rfl rfl (by kernel_rfl) (fun _ _ _ h => h) (Or.inl ⟨by rfl, ?_⟩) ?_ ?_
  rotate_left
  · intro w'
    go_simp
    with_reducible rfl
  rotate_left
  · simp only [Act.put, List.setIfInBounds_toArray, List.set_cons_zero, List.set_cons_succ, i64_w, i32_w]
    rfl
  refine pure_ (i := 13) (N := some 14) (v := ?_) (a' := ?_) #[true,true,true,true,true,true,true,true,true,true,true,true,true,true] rfl rfl (by kernel_rfl) (fun _ _ _ h => h) (Or.inl ⟨by rfl, ?_⟩) ?_ ?_
  rotate_left
  · intro w'
    go_simp
    with_reducible rfl
  rotate_left
  · simp only [Act.put, List.setIfInBounds_toArray, List.set_cons_zero, List.set_cons_succ, i64_w, i32_w]
    rfl
  refine done_ (by kernel_rfl) ?_
  replace HZ := Aside0.mk (blk_below (blk_drew HZ.out) hb2)
  have HK2 := Aside0.mk (below_step (below_drew (Below.refl w1.heap.size w1)) hb2)
  replace HB := Aside0.mk (below_step (below_drew HB.out) hb2)
  replace HI1 := Aside0.mk (HI.out.below HB.out)
  clear hb2 r0 r1 r2 r3 r4 r5 r6 r7 r8 z0 z1 z2 z3
  go_wp2_with fail
  go_ret2
  exact ⟨rfl, HB.out⟩
set_option maxHeartbeats 8000000 in
set_option maxRecDepth 100000 in
theorem Put_yes (g base : Nat) (H : Hd) (B : List Int) (lim fr : Int) (ws : List Int) (F : Nat → Prop) (vb vw : Value) (w : World) (hI : Im w g base H B lim fr ws F vb vw) (kd : Int) (ws_ raw it : List Int) (A1 A2 A3 : Option Addr) (c1 c2 c3 : Nat) (h1 : Rd w .u64 (.slice A1 ws_.length c1) ws_) (h2 : Rd w .u8 (.slice A2 raw.length c2) raw) (h3 : Rd w .u64 (.slice A3 it.length c3) it) (k1 : isW ws_) (k2 : isB raw) (k3 : isW it) (hr : oR kd ws_.length raw.length it.length = true) (n N : Nat) (hn : B.length = n) (hN : (objZ kd ws_ raw it).length = N) (hl : n ≤ 1048576) (hlim : 0 ≤ lim ∧ lim ≤ 1048576) (hfit : (N : Int) ≤ lim - n) : Calls Try.prog 46 #[.pointer (some ⟨g, 0, none⟩), .agg #[.int .i64 kd, .slice A1 ws_.length c1, .slice A2 raw.length c2, .slice A3 it.length c3]] w fun e w' => e = .returned (.tuple #[.int .i64 (n : Int), .int .i64 0]) ∧ ImS w w' g base H (B ++ objZ kd ws_ raw it) lim fr ws F := by
  obtain ⟨q1, q2, q3, n1, n2, n3⟩ := oR_of hr
  have hNb : N ≤ 20000 := by
    have := objB_len kd ws_ raw it
    have h2 : padN ((objB kd ws_ raw it).length : Int) 8 ≤ 8 := by unfold padN; split <;> omega
    rw [← hN, objZ, List.length_append, List.length_replicate]; omega
  have CR := Aside0.mk (fun w => obj_Right_calls kd A1 A2 A3 ws_.length raw.length it.length c1 c2 c3 w (by omega) (by omega) (by omega))
  rw [hr] at CR
  have CS := Aside0.mk (fun w => obj_Size_calls kd A1 A2 A3 ws_.length raw.length it.length c1 c2 c3 w (by omega) (by omega))
  rw [obj_len hr, hN] at CS
  have H1 := Aside0.mk h1
  have H2 := Aside0.mk h2
  have H3 := Aside0.mk h3
  have W1 := Aside0.mk k1
  have W2 := Aside0.mk k2
  have W3 := Aside0.mk k3
  have HRR := Aside0.mk hr
  have HN := Aside0.mk hn
  have HNN := Aside0.mk hN
  have hsub : IntKind.i64.wrap (lim - (n : Int)) = lim - (n : Int) := by rw [IntKind.wrap_i64]; omega
  obtain ⟨A0, c0, ev, hn0, _⟩ := hI.b.sl hn
  subst ev
  have HI := Aside0.mk hI
  have hdc : decide (lim - (n : Int) < (N : Int)) = false := by rw [decide_eq_false]; omega
  have hdc2 : ((N : Int) > lim - (n : Int)) = False := by simp; omega
  clear h1 h2 h3 k1 k2 k3 hr hn hN hI
  go_enter Try.func46, Try.ntmps46
  go_wp2_with fail
  refine (CR.out _).mono ?_
  rintro e w1 ⟨rfl, hb⟩
  have HZ := Aside0.mk (blk_below (blk_new w (.cells #[.int .i64 kd, .slice A1 ws_.length c1, .slice A2 raw.length c2, .slice A3 it.length c3] 51)) hb)
  have HB := Aside0.mk (below_step (below_alloc (Below.refl w.heap.size w) (.cells #[.int .i64 kd, .slice A1 ws_.length c1, .slice A2 raw.length c2, .slice A3 it.length c3] 51)) hb)
  have HI1 := Aside0.mk (HI.out.below HB.out)
  clear hb
  have r0 : (w1).cell? ⟨g, 0, none⟩ = some (.int .u64 H.id) := blk_cell HI1.out.blk 0
  have r1 : (w1).cell? ⟨g, 1, none⟩ = some (.int .u64 H.key) := blk_cell HI1.out.blk 1
  have r2 : (w1).cell? ⟨g, 2, none⟩ = some (.int .i64 H.data) := blk_cell HI1.out.blk 2
  have r3 : (w1).cell? ⟨g, 3, none⟩ = some (.int .i64 H.fields) := blk_cell HI1.out.blk 3
  have r4 : (w1).cell? ⟨g, 4, none⟩ = some (.int .u64 H.made) := blk_cell HI1.out.blk 4
  have r5 : (w1).cell? ⟨g, 5, none⟩ = some ((.slice A0 n c0)) := blk_cell HI1.out.blk 5
  have r6 : (w1).cell? ⟨g, 6, none⟩ = some (.int .i64 lim) := blk_cell HI1.out.blk 6
  have r7 : (w1).cell? ⟨g, 7, none⟩ = some (.int .i64 fr) := blk_cell HI1.out.blk 7
  have r8 : (w1).cell? ⟨g, 8, none⟩ = some (vw) := blk_cell HI1.out.blk 8
  have z0 : (w1).cell? ⟨w.heap.size, 0, none⟩ = some (.int .i64 kd) := blk_cell HZ.out 0
  have z1 : (w1).cell? ⟨w.heap.size, 1, none⟩ = some (.slice A1 ws_.length c1) := blk_cell HZ.out 1
  have z2 : (w1).cell? ⟨w.heap.size, 2, none⟩ = some (.slice A2 raw.length c2) := blk_cell HZ.out 2
  have z3 : (w1).cell? ⟨w.heap.size, 3, none⟩ = some (.slice A3 it.length c3) := blk_cell HZ.out 3
  go_upto_region 5 with fail
  refine start_ (n := 14) (S := fun w' => w'.cell? ⟨g, 6, none⟩ = some (.int .i64 lim) ∧ w'.cell? ⟨g, 5, none⟩ = some ((.slice A0 n c0)) ∧ w'.cell? ⟨w.heap.size, 0, none⟩ = some (.int .i64 kd) ∧ w'.cell? ⟨w.heap.size, 1, none⟩ = some (.slice A1 ws_.length c1) ∧ w'.cell? ⟨w.heap.size, 2, none⟩ = some (.slice A2 raw.length c2) ∧ w'.cell? ⟨w.heap.size, 3, none⟩ = some (.slice A3 it.length c3)) (ds := []) #[false,false,false,false,false,false,false,false,false,false,false,false,false,false] (by kernel_rfl) rfl rfl ⟨r6, r5, z0, z1, z2, z3⟩ (fun hHeld => ?_)
  refine pure_ (i := 2) (N := some 17) (v := ?_) (a' := ?_) #[false,false,true,false,false,false,false,false,false,false,false,false,false,false] rfl rfl (by kernel_rfl) (fun _ _ _ h => h) (Or.inl ⟨by rfl, ?_⟩) ?_ ?_
  rotate_left
  · intro w'
    go_simp
    with_reducible rfl
  rotate_left
  · simp only [Act.put, List.setIfInBounds_toArray, List.set_cons_zero, List.set_cons_succ, i64_w, i32_w]
    rfl
  refine pure_ (i := 3) (N := some 18) (v := ?_) (a' := ?_) #[false,false,true,true,false,false,false,false,false,false,false,false,false,false] rfl rfl (by kernel_rfl) (fun _ _ _ h => h) (Or.inl ⟨by rfl, ?_⟩) ?_ ?_
  rotate_left
  · intro w'
    go_simp
    with_reducible rfl
  rotate_left
  · simp only [Act.put, List.setIfInBounds_toArray, List.set_cons_zero, List.set_cons_succ, i64_w, i32_w]
    rfl
  refine pure_ (i := 4) (N := some 19) (v := ?_) (a' := ?_) #[false,false,true,true,true,false,false,false,false,false,false,false,false,false] rfl rfl (by kernel_rfl) (fun _ _ _ h => h) (Or.inl ⟨by rfl, ?_⟩) ?_ ?_
  rotate_left
  · intro w'
    go_simp
    with_reducible rfl
  rotate_left
  · simp only [Act.put, List.setIfInBounds_toArray, List.set_cons_zero, List.set_cons_succ, i64_w, i32_w]
    rfl
  refine pure_ (i := 6) (N := some 21) (v := ?_) (a' := ?_) #[false,false,true,true,true,false,true,false,false,false,false,false,false,false] rfl rfl (by kernel_rfl) (fun _ _ _ h => h) (Or.inl ⟨by rfl, ?_⟩) ?_ ?_
  rotate_left
  · intro w'
    go_simp
    with_reducible rfl
  rotate_left
  · simp only [Act.put, List.setIfInBounds_toArray, List.set_cons_zero, List.set_cons_succ, i64_w, i32_w]
    rfl
  refine pure_ (i := 7) (N := some 22) (v := ?_) (a' := ?_) #[false,false,true,true,true,false,true,true,false,false,false,false,false,false] rfl rfl (by kernel_rfl) (fun _ _ _ h => h) (Or.inl ⟨by rfl, ?_⟩) ?_ ?_
  rotate_left
  · intro w'
    go_simp
    with_reducible rfl
  rotate_left
  · simp only [Act.put, List.setIfInBounds_toArray, List.set_cons_zero, List.set_cons_succ, i64_w, i32_w]
    rfl
  refine pure_ (i := 8) (N := some 23) (v := ?_) (a' := ?_) #[false,false,true,true,true,false,true,true,true,false,false,false,false,false] rfl rfl (by kernel_rfl) (fun _ _ _ h => h) (Or.inl ⟨by rfl, ?_⟩) ?_ ?_
  rotate_left
  · intro w'
    go_simp
    with_reducible rfl
  rotate_left
  · simp only [Act.put, List.setIfInBounds_toArray, List.set_cons_zero, List.set_cons_succ, i64_w, i32_w]
    rfl
  refine take_ (i := 0) (N := some 15) (v := ?_) (a' := ?_) #[true,false,true,true,true,false,true,true,true,false,false,false,false,false] rfl rfl (by kernel_rfl) (fun _ _ _ h => h) (Or.inl ⟨by rfl, ?_⟩) hHeld ?_ ?_
  rotate_left
  · rintro w' ⟨s0, s1, s2, s3, s4, s5⟩
    go_simp
    with_reducible rfl
  rotate_left
  · simp only [Act.put, List.setIfInBounds_toArray, List.set_cons_zero, List.set_cons_succ, i64_w, i32_w]
    rfl
  refine take_ (i := 5) (N := some 20) (v := ?_) (a' := ?_) #[true,false,true,true,true,true,true,true,true,false,false,false,false,false] rfl rfl (by kernel_rfl) (fun _ _ _ h => h) (Or.inl ⟨by rfl, ?_⟩) hHeld ?_ ?_
  rotate_left
  · rintro w' ⟨s0, s1, s2, s3, s4, s5⟩
    go_simp
    with_reducible rfl
  rotate_left
  · simp only [Act.put, List.setIfInBounds_toArray, List.set_cons_zero, List.set_cons_succ, i64_w, i32_w]
    rfl
  refine take_ (i := 9) (N := some 24) (v := ?_) (a' := ?_) #[true,false,true,true,true,true,true,true,true,true,false,false,false,false] rfl rfl (by kernel_rfl) (fun _ _ _ h => h) (Or.inl ⟨by rfl, ?_⟩) hHeld ?_ ?_
  rotate_left
  · rintro w' ⟨s0, s1, s2, s3, s4, s5⟩
    go_simp
    with_reducible rfl
  rotate_left
  · simp only [Act.put, List.setIfInBounds_toArray, List.set_cons_zero, List.set_cons_succ, i64_w, i32_w]
    rfl
  refine pure_ (i := 10) (N := some 25) (v := ?_) (a' := ?_) #[true,false,true,true,true,true,true,true,true,true,true,false,false,false] rfl rfl (by kernel_rfl) (fun _ _ _ h => h) (Or.inl ⟨by rfl, ?_⟩) ?_ ?_
  rotate_left
  · intro w'
    go_simp
    with_reducible rfl
  rotate_left
  · simp only [Act.put, List.setIfInBounds_toArray, List.set_cons_zero, List.set_cons_succ, i64_w, i32_w]
    rfl
  refine pure_ (i := 11) (N := some 26) (v := ?_) (a' := ?_) #[true,false,true,true,true,true,true,true,true,true,true,true,false,false] rfl rfl (by kernel_rfl) (fun _ _ _ h => h) (Or.inl ⟨by rfl, ?_⟩) ?_ ?_
  rotate_left
  · intro w'
    go_simp
    with_reducible rfl
  rotate_left
  · simp only [Act.put, List.setIfInBounds_toArray, List.set_cons_zero, List.set_cons_succ, i64_w, i32_w]
    rfl
  refine one_ (i := 1) (N := some 16) #[true,true,true,true,true,true,true,true,true,true,true,true,false,false] rfl rfl (by kernel_rfl) (by decide) (fun K hK => ?_)
  refine goes_ Try.func118 (by kernel_rfl) rfl #[.agg #[.int .i64 kd, .slice A1 ws_.length c1, .slice A2 raw.length c2, .slice A3 it.length c3]] (by rfl) rfl rfl (by (try simp only [List.map_toArray, List.map_cons, List.map_nil]); first | done | rfl) ?_
  with_reducible refine (CS.out _).mono ?_
  rintro e w2 ⟨rfl, hb2⟩
  refine ⟨_, rfl, ?_⟩
  refine hK.out _ _ ⟨(pw_cell_below hb2 hHeld.1), (pw_cell_below hb2 hHeld.2.1), (pw_cell_below hb2 hHeld.2.2.1), (pw_cell_below hb2 hHeld.2.2.2.1), (pw_cell_below hb2 hHeld.2.2.2.2.1), (pw_cell_below hb2 hHeld.2.2.2.2.2)⟩ (fun hHeld => ?_)
  clear hK K
  refine norm_ (a' := ?_) ?_ ?_
  rotate_left
  · show Act.put _ (some 16) _ = _
    simp only [Act.put, List.setIfInBounds_toArray, List.set_cons_zero, List.set_cons_succ, i64_w, i32_w]
    rfl
  refine pure_ (i := 12) (N := some 27) (v := ?_) (a' := ?_) #[true,true,true,true,true,true,true,true,true,true,true,true,true,false] rfl rfl (by kernel_rfl) (fun _ _ _ h => h) (Or.inl ⟨by rfl, ?_⟩) ?_ ?_
  rotate_left
  · intro w'
    go_simp
    with_reducible rfl
  rotate_left
  · simp only [Act.put, List.setIfInBounds_toArray, List.set_cons_zero, List.set_cons_succ, i64_w, i32_w]
    rfl
  refine pure_ (i := 13) (N := some 14) (v := ?_) (a' := ?_) #[true,true,true,true,true,true,true,true,true,true,true,true,true,true] rfl rfl (by kernel_rfl) (fun _ _ _ h => h) (Or.inl ⟨by rfl, ?_⟩) ?_ ?_
  rotate_left
  · intro w'
    go_simp
    with_reducible rfl
  rotate_left
  · simp only [Act.put, List.setIfInBounds_toArray, List.set_cons_zero, List.set_cons_succ, i64_w, i32_w]
    rfl
  refine done_ (by kernel_rfl) ?_
  replace HZ := Aside0.mk (blk_below (blk_drew HZ.out) hb2)
  have HK2 := Aside0.mk (below_step (below_drew (Below.refl w1.heap.size w1)) hb2)
  replace HB := Aside0.mk (below_step (below_drew HB.out) hb2)
  replace HI1 := Aside0.mk (HI.out.below HB.out)
  clear hb2 r0 r1 r2 r3 r4 r5 r6 r7 r8 z0 z1 z2 z3
  have r0 : (w2).cell? ⟨g, 0, none⟩ = some (.int .u64 H.id) := blk_cell HI1.out.blk 0
  have r1 : (w2).cell? ⟨g, 1, none⟩ = some (.int .u64 H.key) := blk_cell HI1.out.blk 1
  have r2 : (w2).cell? ⟨g, 2, none⟩ = some (.int .i64 H.data) := blk_cell HI1.out.blk 2
  have r3 : (w2).cell? ⟨g, 3, none⟩ = some (.int .i64 H.fields) := blk_cell HI1.out.blk 3
  have r4 : (w2).cell? ⟨g, 4, none⟩ = some (.int .u64 H.made) := blk_cell HI1.out.blk 4
  have r5 : (w2).cell? ⟨g, 5, none⟩ = some ((.slice A0 n c0)) := blk_cell HI1.out.blk 5
  have r6 : (w2).cell? ⟨g, 6, none⟩ = some (.int .i64 lim) := blk_cell HI1.out.blk 6
  have r7 : (w2).cell? ⟨g, 7, none⟩ = some (.int .i64 fr) := blk_cell HI1.out.blk 7
  have r8 : (w2).cell? ⟨g, 8, none⟩ = some (vw) := blk_cell HI1.out.blk 8
  have z0 : (w2).cell? ⟨w.heap.size, 0, none⟩ = some (.int .i64 kd) := blk_cell HZ.out 0
  have z1 : (w2).cell? ⟨w.heap.size, 1, none⟩ = some (.slice A1 ws_.length c1) := blk_cell HZ.out 1
  have z2 : (w2).cell? ⟨w.heap.size, 2, none⟩ = some (.slice A2 raw.length c2) := blk_cell HZ.out 2
  have z3 : (w2).cell? ⟨w.heap.size, 3, none⟩ = some (.slice A3 it.length c3) := blk_cell HZ.out 3
  go_upto_region 8 with fail
  refine start_ (n := 11) (S := fun w' => w'.cell? ⟨g, 5, none⟩ = some ((.slice A0 n c0)) ∧ w'.cell? ⟨w.heap.size, 0, none⟩ = some (.int .i64 kd) ∧ w'.cell? ⟨w.heap.size, 1, none⟩ = some (.slice A1 ws_.length c1) ∧ w'.cell? ⟨w.heap.size, 2, none⟩ = some (.slice A2 raw.length c2) ∧ w'.cell? ⟨w.heap.size, 3, none⟩ = some (.slice A3 it.length c3)) (ds := [7, 10]) #[false,false,false,false,false,false,false,false,false,false,false] (by kernel_rfl) rfl rfl ⟨r5, z0, z1, z2, z3⟩ (fun hHeld => ?_)
  refine pure_ (i := 0) (N := some 33) (v := ?_) (a' := ?_) #[true,false,false,false,false,false,false,false,false,false,false] rfl rfl (by kernel_rfl) (fun _ _ _ h => h) (Or.inl ⟨by rfl, ?_⟩) ?_ ?_
  rotate_left
  · intro w'
    go_simp
    with_reducible rfl
  rotate_left
  · simp only [Act.put, List.setIfInBounds_toArray, List.set_cons_zero, List.set_cons_succ, i64_w, i32_w]
    rfl
  refine pure_ (i := 1) (N := some 34) (v := ?_) (a' := ?_) #[true,true,false,false,false,false,false,false,false,false,false] rfl rfl (by kernel_rfl) (fun _ _ _ h => h) (Or.inl ⟨by rfl, ?_⟩) ?_ ?_
  rotate_left
  · intro w'
    go_simp
    with_reducible rfl
  rotate_left
  · simp only [Act.put, List.setIfInBounds_toArray, List.set_cons_zero, List.set_cons_succ, i64_w, i32_w]
    rfl
  refine pure_ (i := 2) (N := some 35) (v := ?_) (a' := ?_) #[true,true,true,false,false,false,false,false,false,false,false] rfl rfl (by kernel_rfl) (fun _ _ _ h => h) (Or.inl ⟨by rfl, ?_⟩) ?_ ?_
  rotate_left
  · intro w'
    go_simp
    with_reducible rfl
  rotate_left
  · simp only [Act.put, List.setIfInBounds_toArray, List.set_cons_zero, List.set_cons_succ, i64_w, i32_w]
    rfl
  refine pure_ (i := 3) (N := some 36) (v := ?_) (a' := ?_) #[true,true,true,true,false,false,false,false,false,false,false] rfl rfl (by kernel_rfl) (fun _ _ _ h => h) (Or.inl ⟨by rfl, ?_⟩) ?_ ?_
  rotate_left
  · intro w'
    go_simp
    with_reducible rfl
  rotate_left
  · simp only [Act.put, List.setIfInBounds_toArray, List.set_cons_zero, List.set_cons_succ, i64_w, i32_w]
    rfl
  refine take_ (i := 4) (N := some 37) (v := ?_) (a' := ?_) #[true,true,true,true,true,false,false,false,false,false,false] rfl rfl (by kernel_rfl) (fun _ _ _ h => h) (Or.inl ⟨by rfl, ?_⟩) hHeld ?_ ?_
  rotate_left
  · rintro w' ⟨s0, s1, s2, s3, s4⟩
    go_simp
    with_reducible rfl
  rotate_left
  · simp only [Act.put, List.setIfInBounds_toArray, List.set_cons_zero, List.set_cons_succ, i64_w, i32_w]
    rfl
  refine take_ (i := 5) (N := some 38) (v := ?_) (a' := ?_) #[true,true,true,true,true,true,false,false,false,false,false] rfl rfl (by kernel_rfl) (fun _ _ _ h => h) (Or.inl ⟨by rfl, ?_⟩) hHeld ?_ ?_
  rotate_left
  · rintro w' ⟨s0, s1, s2, s3, s4⟩
    go_simp
    with_reducible rfl
  rotate_left
  · simp only [Act.put, List.setIfInBounds_toArray, List.set_cons_zero, List.set_cons_succ, i64_w, i32_w]
    rfl
  refine one_ (i := 6) (N := some 39) #[true,true,true,true,true,true,true,false,false,false,false] rfl rfl (by kernel_rfl) (by decide) (fun K hK => ?_)
  refine goes_ Try.func31 (by kernel_rfl) rfl #[.agg #[.int .i64 kd, .slice A1 ws_.length c1, .slice A2 raw.length c2, .slice A3 it.length c3]] (by rfl) rfl rfl (by (try simp only [List.map_toArray, List.map_cons, List.map_nil]); first | done | rfl) ?_
  with_reducible refine (obj_Encode_yes kd ws_ raw it A1 A2 A3 c1 c2 c3 _ (H1.out.below (below_drew HB.out)) (H2.out.below (below_drew HB.out)) (H3.out.below (below_drew HB.out)) W1.out W2.out W3.out HRR.out).mono ?_
  rintro e w3 ⟨v3, rfl, ho3, hb3⟩
  refine ⟨_, rfl, ?_⟩
  refine hK.out _ _ ⟨(pw_cell_below hb3 hHeld.1), (pw_cell_below hb3 hHeld.2.1), (pw_cell_below hb3 hHeld.2.2.1), (pw_cell_below hb3 hHeld.2.2.2.1), (pw_cell_below hb3 hHeld.2.2.2.2)⟩ (fun hHeld => ?_)
  clear hK K
  refine norm_ (a' := ?_) ?_ ?_
  rotate_left
  · show Act.put _ (some 39) _ = _
    simp only [Act.put, List.setIfInBounds_toArray, List.set_cons_zero, List.set_cons_succ, i64_w, i32_w]
    rfl
  refine last_ (i := 7) (N := some 40) #[true,true,true,true,true,true,true,true,false,false,false] rfl rfl (by kernel_rfl) (by decide) (fun K hK => ?_)
  have hbw := below_step (below_drew HB.out) hb3
  have hi3 := HI.out.below hbw
  obtain ⟨A4, c4, w4, hr4, ho4, hk4, hat⟩ := app_rd (P := Try.prog) (d := (0 : Int)) (fun x => rfl) Try.underlying22 infoU8 rfl (by omega) hi3.b (rdE_int.2 (Own.rd ho3)) HN.out HNN.out hi3.bs (by omega)
  refine app_step (by rfl) (.tmp 37) (.tmp 39) rfl rfl rfl hr4 ?_
  refine hK.out _ _ ?_
  clear hK K
  refine norm_ (a' := ?_) ?_ ?_
  rotate_left
  · show Act.put _ (some 40) _ = _
    simp only [Act.put, List.setIfInBounds_toArray, List.set_cons_zero, List.set_cons_succ, i64_w, i32_w]
    rfl
  refine pure_ (i := 8) (N := some 41) (v := ?_) (a' := ?_) #[true,true,true,true,true,true,true,true,true,false,false] rfl rfl (by kernel_rfl) (fun _ _ _ h => h) (Or.inl ⟨by rfl, ?_⟩) ?_ ?_
  rotate_left
  · intro w'
    go_simp
    with_reducible rfl
  rotate_left
  · simp only [Act.put, List.setIfInBounds_toArray, List.set_cons_zero, List.set_cons_succ, i64_w, i32_w]
    rfl
  refine pure_ (i := 9) (N := some 42) (v := ?_) (a' := ?_) #[true,true,true,true,true,true,true,true,true,true,false] rfl rfl (by kernel_rfl) (fun _ _ _ h => h) (Or.inl ⟨by rfl, ?_⟩) ?_ ?_
  rotate_left
  · intro w'
    go_simp
    with_reducible rfl
  rotate_left
  · simp only [Act.put, List.setIfInBounds_toArray, List.set_cons_zero, List.set_cons_succ, i64_w, i32_w]
    rfl
  refine last_ (i := 10) (N := none) #[true,true,true,true,true,true,true,true,true,true,true] rfl rfl (by kernel_rfl) (by decide) (fun K hK => ?_)
  have hz4 := hk4.blk hi3.blk (fun h => hi3.b_ne h)
  have s5 : w4.cell? ⟨g, 5, none⟩ = some ((.slice A0 n c0)) := blk_cell hz4 5
  have f5 := blk_frozen hz4 5
  refine skip_ (w1 := ?_) (by rfl) rfl ?_ ?_
  rotate_left
  · go_simp
    rfl
  refine hK.out _ _ ?_
  clear hK K
  refine done_ (by kernel_rfl) ?_
  have HK4 := Aside0.mk ((Kp.of_below hbw F).trans hk4 (fun k hk => .inl (HI.out.2.2.2.2.1 k hk)))
  have HZ4 := Aside0.mk hz4
  have HO4 := Aside0.mk ho4
  have HW4 := Aside0.mk (hi3.w.kp hk4 (fun k hk e => hi3.b.apart hi3.w (by decide) k e hk))
  have HAT := Aside0.mk hat
  have HSZ := Aside0.mk hbw.size
  clear hz4 ho4 hk4 hat hi3 hbw hr4 ho3 hb3 s5 f5 r0 r1 r2 r3 r4 r5 r6 r7 r8 z0 z1 z2 z3
  go_wp2_with fail
  go_ret2
  refine ⟨rfl, ImS.of (vb' := .slice A4 (n + N) c4) (vw' := vw) HI.out (HK4.out.trans (Kp.set w4 ⟨g, 5, none⟩ (.slice A4 (n + N) c4)) (fun k hk => .inl (by rw [hk]; exact HI.out.2.2.2.1))) ?_ ?_ ?_ ?_ (fun k hk => .inl (HI.out.2.2.2.2.2.1 k hk))⟩
  · simpa [imA] using blk_set HZ4.out 5 (.slice A4 (n + N) c4)
  · exact HO4.out.move (fun k hk => Below.heap_setCell _ ⟨g, 5, none⟩ _ k (fun e => HO4.out.ne HZ4.out (by decide) (by rw [hk, e])))
  · exact HW4.out.move (fun k hk => Below.heap_setCell _ ⟨g, 5, none⟩ _ k (fun e => HI.out.w_ne (by rw [hk, e])))
  · intro k hk
    have hlt := HO4.out.lt hk
    rcases HAT.out with h | ⟨b', h, hb'⟩
    · exact .inl (HI.out.2.2.2.2.1 k (by rw [← h]; exact hk))
    · rw [h] at hk; injection hk with hk
      subst hk
      exact .inr ⟨Nat.le_trans HSZ.out hb', by simpa using hlt⟩
end Go.Proofs.Ytigdchfjcfljjaa
end
section
/- Objects read back: the reference's Decode. -/
namespace Go.Proofs.Ytigdchfjcfljjaa
open Go.RowKit Go.Proofs.YtigdchfjcfljjaaW.PrintWords Go.Proofs.YtigdchfjcfljjaaW.PrintLast Go.Proofs.YtigdchfjcfljjaaW.PrintMore
attribute [local go_sem] max2_int min2_int max_two min_two max_three min_three max_four min_four
theorem oneU64 : ∀ x : Int, (Value.int .u64 x).oneCell' = true := fun _ => rfl
theorem app64one {W : World} {base : Nat} {v : Value} {xs : List Int} (x : Int) {k : Nat} (HO : Own (Value.int .u64) W base 32 v xs) (hk : xs.length = k) (hbase : base ≤ W.heap.size) (hl : k ≤ 1000000) :
    ∃ A1 c1 w1, (Builtin.append_ #[46, 46] 46 #[v, .slice (some ⟨W.heap.size, 0, none⟩) 1 1]).run Try.prog (W.alloc (.cells #[.int .u64 x] 32)) = .ok (.slice A1 (k + 1) c1) w1 ∧ Own (Value.int .u64) w1 base 32 (.slice A1 (k + 1) c1) (xs ++ [x]) ∧ (W.alloc (.cells #[.int .u64 x] 32)).grownBy w1 v.ownBlock := by
  have hL : Rd (W.alloc (.cells #[.int .u64 x] 32)) .u64 (.slice (some ⟨W.heap.size, 0, none⟩) 1 1) [x] := by have := Rd.lit W .u64 32 [x] (by simp); simpa [nums] using this
  obtain ⟨v1, w1, hr, hO, hg, _⟩ := app_run (P := Try.prog) (Value.int .u64) (0 : Int) oneU64 46 46 32 (.int .u64 0) 8 Try.underlying46 infoU64 rfl (by omega) (HO.below (below_alloc (Below.refl _ _) (.cells #[.int .u64 x] 32))) hL (by simp; omega) (by simp; omega)
  obtain ⟨A1, c1, rfl⟩ := own_slice hO
  rw [show (xs ++ [x]).length = k + 1 by simp [hk]] at hr hO
  exact ⟨A1, c1, w1, hr, hO, hg⟩
theorem ref_oEncode_yes' (k : Int) (ws raw it : List Int) (nW nR nI : Nat) (e1 : ws.length = nW) (e2 : raw.length = nR) (e3 : it.length = nI) (A1 A2 A3 : Option Addr) (c1 c2 c3 : Nat) (w : World) (h1 : Rd w .u64 (.slice A1 nW c1) ws) (h2 : Rd w .u8 (.slice A2 nR c2) raw) (h3 : Rd w .u64 (.slice A3 nI c3) it) (b1 : isW ws) (b2 : isB raw) (b3 : isW it) (hr : oR k nW nR nI = true) :
    Calls Try.prog 148 #[.agg #[.int .i64 k, .slice A1 nW c1, .slice A2 nR c2, .slice A3 nI c3]] w fun e w' => ∃ v, e = .returned v ∧ Own (Value.int .u8) w' w.heap.size 5 v (objZ k ws raw it) ∧ Below w.heap.size w w' := by
  subst e1; subst e2; subst e3
  exact ref_oEncode_yes k ws raw it A1 A2 A3 c1 c2 c3 w h1 h2 h3 b1 b2 b3 hr
def rdF (l : List Int) (a : Int) : Bool := decide (0 ≤ a ∧ a + 16 ≤ l.length ∧ a % 8 = 0 ∧ 1 ≤ getN l a 8 ∧ getN l a 8 ≤ 4 ∧ getN l (a + 8) 8 ≤ l.length - a ∧ 16 + 8 * wN (getN l a 8) ≤ getN l (a + 8) 8)
theorem app64oneAt {W : World} {base : Nat} {v : Value} {xs : List Int} (x : Int) {k : Nat} (HO : Own (Value.int .u64) W base 32 v xs) (hk : xs.length = k) (hbase : base ≤ W.heap.size) (hl : k ≤ 1000000) :
    ∃ A1 c1 w1, (Builtin.append_ #[46, 46] 46 #[v, .slice (some ⟨W.heap.size, 0, none⟩) 1 1]).run Try.prog (W.alloc (.cells #[.int .u64 x] 32)) = .ok (.slice A1 (k + 1) c1) w1 ∧ Own (Value.int .u64) w1 base 32 (.slice A1 (k + 1) c1) (xs ++ [x]) ∧ (W.alloc (.cells #[.int .u64 x] 32)).grownBy w1 v.ownBlock ∧ ((Value.slice A1 (k + 1) c1).ownBlock = v.ownBlock ∨ ∃ b, (Value.slice A1 (k + 1) c1).ownBlock = some b ∧ W.heap.size ≤ b) := by
  have hL : Rd (W.alloc (.cells #[.int .u64 x] 32)) .u64 (.slice (some ⟨W.heap.size, 0, none⟩) 1 1) [x] := by have := Rd.lit W .u64 32 [x] (by simp); simpa [nums] using this
  obtain ⟨v1, w1, hr, hO, hg, hat⟩ := app_run (P := Try.prog) (Value.int .u64) (0 : Int) oneU64 46 46 32 (.int .u64 0) 8 Try.underlying46 infoU64 rfl (by omega) (HO.below (below_alloc (Below.refl _ _) (.cells #[.int .u64 x] 32))) hL (by simp; omega) (by simp; omega)
  obtain ⟨A1, c1, rfl⟩ := own_slice hO
  rw [show (xs ++ [x]).length = k + 1 by simp [hk]] at hr hO hat
  refine ⟨A1, c1, w1, hr, hO, hg, ?_⟩
  rcases hat with h | ⟨b, h, hle⟩
  · exact .inl h
  · exact .inr ⟨b, h, by simp at hle; omega⟩
set_option maxHeartbeats 8000000 in
set_option maxRecDepth 100000 in
theorem ref_oDecode_no (v : Value) (l : List Int) (a : Int) (w : World) (hr : Rd w .u8 v l) (hb : isB l) (hl : l.length ≤ 100000) (ha : a ≤ 100000) (ha0 : -9223372036854775808 ≤ a) (hf : rdF l a = false) :
    Calls Try.prog 149 #[v, .int .i64 a] w fun e w' => e = .returned (.tuple #[.agg #[.int .i64 0, .slice none 0 0, .slice none 0 0, .slice none 0 0], .int .i64 0, .bool false]) ∧ Below w.heap.size w w' := by
  have HV := Aside0.mk hr
  have HIB := Aside0.mk hb
  obtain ⟨A, c, rfl, hc, hm, hr'⟩ := hr.mid
  clear hr' hr hb hc hm
  have HZ0 := Aside0.mk (blk_new w (.cells #[.int .i64 0, .slice none 0 0, .slice none 0 0, .slice none 0 0] 48))
  have HB0 := Aside0.mk (below_alloc (Below.refl w.heap.size w) (.cells #[.int .i64 0, .slice none 0 0, .slice none 0 0, .slice none 0 0] 48))
  obtain ⟨K, hK⟩ : ∃ x, getN l a 8 = x := ⟨_, rfl⟩
  obtain ⟨S, hS⟩ : ∃ x, getN l (a + 8) 8 = x := ⟨_, rfl⟩
  have hK2 := getN_bound l HIB.out a 8
  have hS2 := getN_bound l HIB.out (a + 8) 8
  rw [hK] at hK2
  rw [hS] at hS2
  obtain ⟨K0, K1⟩ := hK2
  obtain ⟨S0, S1⟩ := hS2
  have HK := Aside0.mk hK
  have HS := Aside0.mk hS
  obtain ⟨q0, q1⟩ := wN_bd K
  obtain ⟨q, hq⟩ : ∃ q : Nat, wN K = (q : Int) := Int.eq_ofNat_of_zero_le q0
  rw [hq] at q0 q1
  have HQ := Aside0.mk hq
  have hno := of_decide_eq_false hf
  rw [hK, hS, hq] at hno
  clear hK hS hq hf
  go_enter Try.func149, Try.ntmps149
  go_wp2_with fail
  refine (ref_Get_calls _ l a 8 _ (HV.out.below HB0.out) HIB.out).mono ?_
  rintro e w1 ⟨rfl, hb1⟩
  have HB1 := Aside0.mk (below_step HB0.out hb1)
  have HZ1 := Aside0.mk (blk_below HZ0.out hb1)
  clear hb1
  rw [HK.out]
  go_wp2_with fail
  refine (ref_Get_calls _ l (a + 8) 8 _ (HV.out.below HB1.out) HIB.out).mono ?_
  rintro e w2 ⟨rfl, hb2⟩
  have HB2 := Aside0.mk (below_step HB1.out hb2)
  have HZ2 := Aside0.mk (blk_below HZ1.out hb2)
  clear hb2
  rw [HS.out]
  have H0 := HZ2.out
  have r0 := blk_cell H0 0
  have r1 := blk_cell H0 1
  have r2 := blk_cell H0 2
  have r3 := blk_cell H0 3
  have f0 := blk_frozen H0 0
  have f1 := blk_frozen H0 1
  have f2 := blk_frozen H0 2
  have f3 := blk_frozen H0 3
  clear H0
  by_cases k1 : 0 ≤ a ∧ a + 8 ≤ l.length
  rotate_left
  · clear hno
    obtain ⟨bb, hbb⟩ : ∃ bb, fitsB l.length (a + 8) 8 = bb := ⟨_, rfl⟩
    have hf : fitsB l.length a 8 = false := fits_no (fun h => by omega)
    rw [hf, hbb]
    clear hf hbb k1
    go_wp2_with fail
    refine bodyPost_ret (v := .tuple #[.agg #[.int .i64 0, .slice none 0 0, .slice none 0 0, .slice none 0 0], .int .i64 0, .bool false]) (by simp [results, Try.results149, go_sem, r0, r1, r2, r3]) rfl ⟨rfl, below_set4 HB2.out (Nat.le_refl _) _ _ _ _⟩
  obtain ⟨a0, a1⟩ := k1
  have hf : fitsB l.length a 8 = true := fits_ok ⟨by omega, by omega, by omega, by omega⟩
  rw [hf]
  clear hf
  by_cases k2 : a + 16 ≤ l.length
  rotate_left
  · clear hno
    have hf : fitsB l.length (a + 8) 8 = false := fits_no (fun h => by omega)
    rw [hf]
    clear hf
    go_wp2_with fail
    refine bodyPost_ret (v := .tuple #[.agg #[.int .i64 0, .slice none 0 0, .slice none 0 0, .slice none 0 0], .int .i64 0, .bool false]) (by simp [results, Try.results149, go_sem, r0, r1, r2, r3]) rfl ⟨rfl, below_set4 HB2.out (Nat.le_refl _) _ _ _ _⟩
  have hf : fitsB l.length (a + 8) 8 = true := fits_ok ⟨by omega, by omega, by omega, by omega⟩
  rw [hf]
  clear hf
  by_cases k3 : a % 8 = 0
  rotate_left
  · clear hno
    have hz : (Int.tmod a 8 != 0) = true := by rw [Int.tmod_eq_emod_of_nonneg a0]; simpa using k3
    have hz2 : (a % 8 != 0) = true := by simpa using k3
    clear k3
    go_wp2_with fail
    refine bodyPost_ret (v := .tuple #[.agg #[.int .i64 0, .slice none 0 0, .slice none 0 0, .slice none 0 0], .int .i64 0, .bool false]) (by simp [results, Try.results149, go_sem, r0, r1, r2, r3]) rfl ⟨rfl, below_set4 HB2.out (Nat.le_refl _) _ _ _ _⟩
  have hz : (Int.tmod a 8 != 0) = false := by rw [Int.tmod_eq_emod_of_nonneg a0]; simpa using k3
  have hz2 : (a % 8 != 0) = false := by simpa using k3
  by_cases k4 : 1 ≤ K
  rotate_left
  · clear hno
    go_wp2_with fail
    refine bodyPost_ret (v := .tuple #[.agg #[.int .i64 0, .slice none 0 0, .slice none 0 0, .slice none 0 0], .int .i64 0, .bool false]) (by simp [results, Try.results149, go_sem, r0, r1, r2, r3]) rfl ⟨rfl, below_set4 HB2.out (Nat.le_refl _) _ _ _ _⟩
  by_cases k5 : K ≤ 4
  rotate_left
  · clear hno
    go_wp2_with fail
    refine bodyPost_ret (v := .tuple #[.agg #[.int .i64 0, .slice none 0 0, .slice none 0 0, .slice none 0 0], .int .i64 0, .bool false]) (by simp [results, Try.results149, go_sem, r0, r1, r2, r3]) rfl ⟨rfl, below_set4 HB2.out (Nat.le_refl _) _ _ _ _⟩
  by_cases k6 : S ≤ l.length - a
  rotate_left
  · clear hno
    go_wp2_with fail
    refine bodyPost_ret (v := .tuple #[.agg #[.int .i64 0, .slice none 0 0, .slice none 0 0, .slice none 0 0], .int .i64 0, .bool false]) (by simp [results, Try.results149, go_sem, r0, r1, r2, r3]) rfl ⟨rfl, below_set4 HB2.out (Nat.le_refl _) _ _ _ _⟩
  have k7 : ¬ 16 + 8 * (q : Int) ≤ S := fun h => hno ⟨a0, k2, k3, k4, k5, k6, h⟩
  clear hno k3 r0 r1 r2 r3 f0 f1 f2 f3
  have HX3 := Aside0.mk (below_alloc HB2.out (.cells #[.int .i64 K, .slice none 0 0, .slice none 0 0, .slice none 0 0] 48))
  have H0 := blk_alloc HZ2.out (.cells #[.int .i64 K, .slice none 0 0, .slice none 0 0, .slice none 0 0] 48)
  have H1 := blk_new w2 (.cells #[.int .i64 K, .slice none 0 0, .slice none 0 0, .slice none 0 0] 48)
  have z0 := blk_cell H1 0
  have r0 := blk_cell H0 0
  have r1 := blk_cell H0 1
  have r2 := blk_cell H0 2
  have r3 := blk_cell H0 3
  have f0 := blk_frozen H0 0
  have f1 := blk_frozen H0 1
  have f2 := blk_frozen H0 2
  have f3 := blk_frozen H0 3
  clear H0 H1
  go_wp2_with fail
  refine (ref_oWords_calls K _).mono ?_
  rintro e wx ⟨rfl, rfl⟩
  rw [HQ.out]
  go_wp2_with fail
  refine bodyPost_ret (v := .tuple #[.agg #[.int .i64 0, .slice none 0 0, .slice none 0 0, .slice none 0 0], .int .i64 0, .bool false]) (by simp [results, Try.results149, go_sem, r0, r1, r2, r3]) rfl ⟨rfl, below_set4 HX3.out (Nat.le_refl _) _ _ _ _⟩
set_option maxHeartbeats 8000000 in
set_option maxRecDepth 100000 in
theorem ref_oDecode_yes (v : Value) (l : List Int) (a : Int) (w : World) (hr : Rd w .u8 v l) (hb : isB l) (hl : l.length ≤ 100000) (ha : a ≤ 100000) (a0 : 0 ≤ a) (a1 : a + 16 ≤ l.length) (a8 : a % 8 = 0) (K S : Int) (hK : getN l a 8 = K) (hS : getN l (a + 8) 8 = S) (k0 : 1 ≤ K) (k1 : K ≤ 4) (s1 : S ≤ l.length - a) (s0 : 16 + 8 * wN K ≤ S) :
    Calls Try.prog 149 #[v, .int .i64 a] w fun e w' => (∃ u1 u2 u3, e = .returned (bif rdT l a K S then .tuple #[.agg #[.int .i64 K, u1, u2, u3], .int .i64 (a + (objZ K (odW l a K) (odR l a K S) (odI l a K S)).length), .bool true] else .tuple #[.agg #[.int .i64 0, .slice none 0 0, .slice none 0 0, .slice none 0 0], .int .i64 0, .bool false]) ∧ Rd w' .u64 u1 (odW l a K) ∧ Rd w' .u8 u2 (odR l a K S) ∧ Rd w' .u64 u3 (odI l a K S)) ∧ Below w.heap.size w w' := by
  have HV := Aside0.mk hr
  have HIB := Aside0.mk hb
  obtain ⟨A, c, rfl, hc, hm, hr'⟩ := hr.mid
  clear hr' hr hb hc hm
  have HZ0 := Aside0.mk (blk_new w (.cells #[.int .i64 0, .slice none 0 0, .slice none 0 0, .slice none 0 0] 48))
  have HB0 := Aside0.mk (below_alloc (Below.refl w.heap.size w) (.cells #[.int .i64 0, .slice none 0 0, .slice none 0 0, .slice none 0 0] 48))
  have HK := Aside0.mk hK
  have HS := Aside0.mk hS
  obtain ⟨q0, q1⟩ := wN_bd K
  obtain ⟨q, hq⟩ : ∃ q : Nat, wN K = (q : Int) := Int.eq_ofNat_of_zero_le q0
  rw [hq] at q0 q1 s0
  have HQ := Aside0.mk hq
  have hf1 : fitsB l.length a 8 = true := fits_ok ⟨by omega, by omega, by omega, by omega⟩
  have hf2 : fitsB l.length (a + 8) 8 = true := fits_ok ⟨by omega, by omega, by omega, by omega⟩
  have hz : (Int.tmod a 8 != 0) = false := by rw [Int.tmod_eq_emod_of_nonneg a0]; simpa using a8
  have hz2 : (a % 8 != 0) = false := by simpa using a8
  clear hK hS hq a8
  go_enter Try.func149, Try.ntmps149
  go_wp2_with fail
  refine (ref_Get_calls _ l a 8 _ (HV.out.below HB0.out) HIB.out).mono ?_
  rintro e w1 ⟨rfl, hb1⟩
  have HB1 := Aside0.mk (below_step HB0.out hb1)
  have HZ1 := Aside0.mk (blk_below HZ0.out hb1)
  clear hb1
  rw [HK.out, hf1]
  go_wp2_with fail
  refine (ref_Get_calls _ l (a + 8) 8 _ (HV.out.below HB1.out) HIB.out).mono ?_
  rintro e w2 ⟨rfl, hb2⟩
  have HB2 := Aside0.mk (below_step HB1.out hb2)
  have HZ2 := Aside0.mk (blk_below HZ1.out hb2)
  clear hb2
  rw [HS.out, hf2]
  have HX3 := Aside0.mk (blk_new w2 (.cells #[.int .i64 K, .slice none 0 0, .slice none 0 0, .slice none 0 0] 48))
  have HB3 := Aside0.mk (below_alloc HB2.out (.cells #[.int .i64 K, .slice none 0 0, .slice none 0 0, .slice none 0 0] 48))
  have HZ3 := Aside0.mk (blk_alloc HZ2.out (.cells #[.int .i64 K, .slice none 0 0, .slice none 0 0, .slice none 0 0] 48))
  obtain ⟨p, hp⟩ : ∃ p, w2.heap.size = p := ⟨_, rfl⟩
  rw [hp] at HX3
  have hpw : w.heap.size < p := by have := blk_lt HZ2.out; omega
  have HP := Aside0.mk hp
  have z0 := blk_cell HX3.out 0
  clear hp hf1 hf2
  go_wp2_with fail
  rw [HP.out]
  refine (ref_oWords_calls K _).mono ?_
  rintro e wx ⟨rfl, rfl⟩
  rw [HQ.out]
  clear hz hz2 z0
  go_wp2_with fail
  go_loopg [13, 14, 15] q (fun kq v13 v14 v15 w' => ∃ (k : Nat) (A1 : Option Addr) (d1 : Nat), k + kq = q ∧ v13 = .int .i64 k ∧ Aside0 (w'.heap[p]? = some (.cells #[.int .i64 K, .slice A1 k d1, .slice none 0 0, .slice none 0 0] 48 (0, 0))) ∧ Aside0 (Own (Value.int .u64) w' w.heap.size 32 (.slice A1 k d1) (wordsAt l (a + 16) k)) ∧ Aside0 (w'.heap[w.heap.size]? = some (.cells #[.int .i64 0, .slice none 0 0, .slice none 0 0, .slice none 0 0] 48 (0, 0))) ∧ Aside0 (Below w.heap.size w w'))
  case atStart => exact ⟨0, none, 0, by omega, rfl, HX3, ⟨Own.nil _ _ _ _⟩, HZ3, HB3⟩
  case round =>
    clear HX3 HB3 HZ3 HP
    obtain ⟨k, A1, d1, hkq, rfl, HX, HO, HZ, HB⟩ := hrel
    by_cases c1 : k < q
    · obtain ⟨x, hx⟩ : ∃ x, getN l (a + 16 + 8 * (k : Int)) 8 = x := ⟨_, rfl⟩
      have HN := Aside0.mk (show wordsAt l (a + 16) (k + 1) = wordsAt l (a + 16) k ++ [x] by rw [wordsAt_snoc', hx])
      have HXX := Aside0.mk hx
      obtain ⟨bb, hbb⟩ : ∃ bb, fitsB l.length (a + 16 + 8 * (k : Int)) 8 = bb := ⟨_, rfl⟩
      have HBBB := Aside0.mk hbb
      clear hx hbb
      go_wp2_with fail
      refine (ref_Get_calls _ l (a + 16 + 8 * (k : Int)) 8 _ (HV.out.below HB.out) HIB.out).mono ?_
      rintro e w3 ⟨rfl, hb3⟩
      rw [HXX.out, HBBB.out]
      obtain ⟨A4, c4, w4, hrun4, hO4, hg4⟩ := app64one x (HO.out.below hb3) (wordsAt_len _ _ _) (Nat.le_trans HB.out.size hb3.size) (by omega)
      have z1 := blk_cell (blk_below HX.out hb3) 1
      have hX4 := blk_grown (blk_alloc (blk_below HX.out hb3) (.cells #[.int .u64 x] 32)) hg4 (fun e => (HO.out.below hb3).ne (blk_below HX.out hb3) (by decide) e.symm)
      have hZ4 := blk_grown (blk_alloc (blk_below HZ.out hb3) (.cells #[.int .u64 x] 32)) hg4 (fun e => (HO.out.below hb3).ne (blk_below HZ.out hb3) (by decide) e.symm)
      have y1 := blk_cell hX4 1
      have g1 := blk_frozen hX4 1
      have HX5 := Aside0.mk (show (w4.setCell ⟨p, 1, none⟩ (.slice A4 (k + 1) c4)).heap[p]? = some (.cells #[.int .i64 K, .slice A4 (k + 1) c4, .slice none 0 0, .slice none 0 0] 48 (0, 0)) from by simpa using blk_set hX4 1 (.slice A4 (k + 1) c4))
      have HZ5 := Aside0.mk (blk_far hZ4 (p := ⟨p, 1, none⟩) (by show w.heap.size ≠ p; omega) (.slice A4 (k + 1) c4))
      have hB4 := Kp.from (below_alloc (below_step HB.out hb3) (.cells #[.int .u64 x] 32)) (Kp.of_grown hg4) (fun k hk => HO.out.ge hk)
      have HB5 := Aside0.mk (obelow_set hB4 ⟨p, 1, none⟩ (by show w.heap.size ≤ p; omega) (.slice A4 (k + 1) c4))
      have HO5 := Aside0.mk (show Own (Value.int .u64) (w4.setCell ⟨p, 1, none⟩ (.slice A4 (k + 1) c4)) w.heap.size 32 (.slice A4 (k + 1) c4) (wordsAt l (a + 16) (k + 1)) by
        rw [HN.out]; exact hO4.move (fun b hb => Below.heap_setCell w4 _ _ b (fun e => hO4.ne hX4 (by decide) (by rw [hb, e]))))
      have HR4 := Aside0.mk hrun4
      clear hrun4 hO4 hg4 hX4 hZ4 hB4 hb3
      go_wp2_with (first | ((with_reducible refine gate_builtin (b := .append) (xs := #[.tmp 92, .tmp 94]) rfl ?_); at_builtin; refine app_list rfl (.tmp 92) (.tmp 94) rfl rfl rfl HR4.out ?_))
      go_roundg (q - (k + 1))
      case measure => omega
      case rel => exact ⟨k + 1, A4, c4, by omega, by go_num, HX5, HO5, HZ5, HB5⟩
    · obtain rfl : k = q := by omega
      have HW := Aside0.mk (show odW l a K = wordsAt l (a + 16) k by rw [odW, HQ.out, Int.toNat_natCast])
      by_cases k3 : K < 3
      · have HI1 := Aside0.mk (show odI l a K S = [] by rw [odI, if_pos k3])
        have HR1 := Aside0.mk (show odR l a K S = (l.take (a + S).toNat).drop (a + 16 + 8 * (k : Int)).toNat by rw [odR, if_pos k3, rawAt, HQ.out]; congr 2; omega)
        obtain ⟨i5, hi5, hz5⟩ := infoU8'
        obtain ⟨v', hcut, hrd⟩ := Rd.cut 22 5 Try.underlying22 hi5 hz5 HV.out (a + 16 + 8 * (k : Int)) (a + S) (by omega) (by omega) (by omega)
        obtain ⟨A2, c2, ev2, _, _, _⟩ := (hrd _ HV.out).mid
        obtain ⟨n2, hn2⟩ : ∃ n2, ((l.take (a + S).toNat).drop (a + 16 + 8 * (k : Int)).toNat).length = n2 := ⟨_, rfl⟩
        have hn3 : (n2 : Int) + 16 + 8 * (k : Int) = S := by rw [← hn2, List.length_drop, List.length_take]; omega
        have hn4 : n2 ≤ 100000 := by omega
        have hRD1 := hrd wr.drew ((HV.out.below HB.out).below (below_drew (Below.refl _ _)))
        obtain ⟨A4, c4, w4, hrun4, hO4, hg4, hat4⟩ := app8 (Own.nil (Value.int .u8) wr.drew w.heap.size 5) hRD1 (below_drew HB.out).size (by rw [hn2]; simp; omega)
        rw [List.nil_append, hn2] at hrun4 hO4
        rw [← HR1.out] at hO4
        have z2 := blk_cell HX.out 2
        have hX4 := blk_grown (blk_drew HX.out) hg4 (fun e => by cases e)
        have hZ4 := blk_grown (blk_drew HZ.out) hg4 (fun e => by cases e)
        have hc4 := blk_cell hX4 2
        have hf4 := blk_frozen hX4 2
        have HX5 := Aside0.mk (show (w4.setCell ⟨p, 2, none⟩ (.slice A4 n2 c4)).heap[p]? = some (.cells #[.int .i64 K, .slice A1 k d1, .slice A4 n2 c4, .slice none 0 0] 48 (0, 0)) from by simpa using blk_set hX4 2 (.slice A4 n2 c4))
        have HZ5 := Aside0.mk (blk_far hZ4 (p := ⟨p, 2, none⟩) (by show w.heap.size ≠ p; omega) (.slice A4 n2 c4))
        have hK4 := (Kp.of_below (below_drew (Below.refl wr.heap.size wr)) (fun _ => False)).trans (Kp.of_grown hg4) (fun b hb => by cases hb)
        have HB5 := Aside0.mk (obelow_set (Kp.from HB.out hK4 (fun k hk => hk.elim)) ⟨p, 2, none⟩ (by show w.heap.size ≤ p; omega) (.slice A4 n2 c4))
        have HO5 := Aside0.mk (show Own (Value.int .u8) (w4.setCell ⟨p, 2, none⟩ (.slice A4 n2 c4)) w.heap.size 5 (.slice A4 n2 c4) (odR l a K S) from
          hO4.move (fun b hb => Below.heap_setCell w4 _ _ b (fun e => hO4.ne hX4 (by decide) (by rw [hb, e]))))
        have HW5 := Aside0.mk (show Own (Value.int .u64) (w4.setCell ⟨p, 2, none⟩ (.slice A4 n2 c4)) w.heap.size 32 (.slice A1 k d1) (wordsAt l (a + 16) k) from
          (HO.out.move (fun b hb => hK4.block b (HO.out.lt hb) (fun h => h.elim))).move (fun b hb => Below.heap_setCell w4 _ _ b (fun e => HO.out.ne HX.out (by decide) (by rw [hb, e]))))
        have HR4 := Aside0.mk hrun4
        have HLR := Aside0.mk (show (odR l a K S).length = n2 by rw [HR1.out, hn2])
        subst ev2
        rw [hn2] at hcut HR4
        clear hrun4 hO4 hg4 hat4 hX4 hZ4 hK4 hn2 hrd hRD1 hi5 hz5
        go_wp2_with fail
        refine start_ (n := 9) (S := fun w' => w'.cell? ⟨p, 2, none⟩ = some (.slice none 0 0)) (ds := [8]) #[false,false,false,false,false,false,false,false,false] (by kernel_rfl) rfl rfl (z2) (fun hHeld => ?_)
        refine pure_ (i := 0) (N := some 108) (v := ?_) (a' := ?_) #[true,false,false,false,false,false,false,false,false] rfl rfl (by kernel_rfl) (fun _ _ _ h => h) (Or.inl ⟨by rfl, ?_⟩) ?_ ?_
        rotate_left
        · intro w'
          go_simp
          with_reducible rfl
        rotate_left
        · simp only [Act.put, List.setIfInBounds_toArray, List.set_cons_zero, List.set_cons_succ, i64_w, i32_w]
          rfl
        refine pure_ (i := 2) (N := some 110) (v := ?_) (a' := ?_) #[true,false,true,false,false,false,false,false,false] rfl rfl (by kernel_rfl) (fun _ _ _ h => h) (Or.inl ⟨by rfl, ?_⟩) ?_ ?_
        rotate_left
        · intro w'
          go_simp
          with_reducible rfl
        rotate_left
        · simp only [Act.put, List.setIfInBounds_toArray, List.set_cons_zero, List.set_cons_succ, i64_w, i32_w]
          rfl
        refine pure_ (i := 3) (N := some 111) (v := ?_) (a' := ?_) #[true,false,true,true,false,false,false,false,false] rfl rfl (by kernel_rfl) (fun _ _ _ h => h) (Or.inl ⟨by rfl, ?_⟩) ?_ ?_
        rotate_left
        · intro w'
          go_simp
          with_reducible rfl
        rotate_left
        · simp only [Act.put, List.setIfInBounds_toArray, List.set_cons_zero, List.set_cons_succ, i64_w, i32_w]
          rfl
        refine pure_ (i := 4) (N := some 112) (v := ?_) (a' := ?_) #[true,false,true,true,true,false,false,false,false] rfl rfl (by kernel_rfl) (fun _ _ _ h => h) (Or.inl ⟨by rfl, ?_⟩) ?_ ?_
        rotate_left
        · intro w'
          go_simp
          with_reducible rfl
        rotate_left
        · simp only [Act.put, List.setIfInBounds_toArray, List.set_cons_zero, List.set_cons_succ, i64_w, i32_w]
          rfl
        refine pure_ (i := 5) (N := some 113) (v := ?_) (a' := ?_) #[true,false,true,true,true,true,false,false,false] rfl rfl (by kernel_rfl) (fun _ _ _ h => h) (Or.inl ⟨by rfl, ?_⟩) ?_ ?_
        rotate_left
        · intro w'
          go_simp
          with_reducible rfl
        rotate_left
        · simp only [Act.put, List.setIfInBounds_toArray, List.set_cons_zero, List.set_cons_succ, i64_w, i32_w]
          rfl
        refine take_ (i := 1) (N := some 109) (v := ?_) (a' := ?_) #[true,true,true,true,true,true,false,false,false] rfl rfl (by kernel_rfl) (fun _ _ _ h => h) (Or.inl ⟨by rfl, ?_⟩) hHeld ?_ ?_
        rotate_left
        · intro w' s0
          go_simp
          with_reducible rfl
        rotate_left
        · simp only [Act.put, List.setIfInBounds_toArray, List.set_cons_zero, List.set_cons_succ, i64_w, i32_w]
          rfl
        refine one_ (i := 6) (N := some 114) #[true,true,true,true,true,true,true,false,false] rfl rfl (by kernel_rfl) (by decide) (fun K hK => ?_)
        refine app_step (by rfl) (.tmp 109) (.tmp 113) rfl rfl rfl HR4.out ?_
        refine hK.out _ _ (hc4) (fun hHeld => ?_)
        clear hK K
        refine norm_ (a' := ?_) ?_ ?_
        rotate_left
        · show Act.put _ (some 114) _ = _
          simp only [Act.put, List.setIfInBounds_toArray, List.set_cons_zero, List.set_cons_succ, i64_w, i32_w]
          rfl
        refine pure_ (i := 7) (N := some 115) (v := ?_) (a' := ?_) #[true,true,true,true,true,true,true,true,false] rfl rfl (by kernel_rfl) (fun _ _ _ h => h) (Or.inl ⟨by rfl, ?_⟩) ?_ ?_
        rotate_left
        · intro w'
          go_simp
          with_reducible rfl
        rotate_left
        · simp only [Act.put, List.setIfInBounds_toArray, List.set_cons_zero, List.set_cons_succ, i64_w, i32_w]
          rfl
        refine last_ (i := 8) (N := none) #[true,true,true,true,true,true,true,true,true] rfl rfl (by kernel_rfl) (by decide) (fun K hK => ?_)
        refine skip_ (w1 := ?_) (by rfl) rfl ?_ ?_
        rotate_left
        · go_simp
          rfl
        refine hK.out _ _ ?_
        clear hK K
        refine done_ (by kernel_rfl) ?_
        clear hcut z2 hc4 hf4
        have dk2 : decide ((2 : Int) < K) = false := by simp; omega
        go_wp2_with fail
        go_loopg [16, 18, 19] 0 (fun kq v16 v18 v19 w' => Aside0 (w'.heap[p]? = some (.cells #[.int .i64 K, .slice A1 k d1, .slice A4 n2 c4, .slice none 0 0] 48 (0, 0))) ∧ Aside0 (Own (Value.int .u64) w' w.heap.size 32 (.slice A1 k d1) (wordsAt l (a + 16) k)) ∧ Aside0 (Own (Value.int .u8) w' w.heap.size 5 (.slice A4 n2 c4) (odR l a K S)) ∧ Aside0 (w'.heap[w.heap.size]? = some (.cells #[.int .i64 0, .slice none 0 0, .slice none 0 0, .slice none 0 0] 48 (0, 0))) ∧ Aside0 (Below w.heap.size w w'))
        case atStart => exact ⟨HX5, HW5, HO5, HZ5, HB5⟩
        case round =>
          clear HX HO HZ HB HX5 HW5 HO5 HZ5 HB5
          obtain ⟨HX, HO1, HO2, HZ, HB⟩ := hrel
          have HO3 := Aside0.mk (show Own (Value.int .u64) wr w.heap.size 32 (.slice none 0 0) (odI l a K S) by rw [HI1.out]; exact Own.nil _ _ _ _)
          have HLI := Aside0.mk (show (odI l a K S).length = 0 by rw [HI1.out]; rfl)
          have HRB := Aside0.mk (show isB (odR l a K S) by rw [odR]; split <;> first | exact rawAt_isB HIB.out _ _ | exact oB_nil)
          have HIW := Aside0.mk (show isW (odI l a K S) by rw [odI]; split <;> first | exact wordsAt_isW _ HIB.out _ _ | exact (fun x hx => by simp at hx))
          have z0 := blk_cell HX.out 0
          have z1 := blk_cell HX.out 1
          have z2 := blk_cell HX.out 2
          have z3 := blk_cell HX.out 3
          have HN1 := Aside0.mk (show ∀ b, (.slice A1 k d1 : Value).ownBlock = some b → ¬ (b = w.heap.size) from fun b hb e => HO1.out.ne HZ.out (by decide) (by rw [hb, e]))
          have HN2 := Aside0.mk (show ∀ b, (.slice A4 n2 c4 : Value).ownBlock = some b → ¬ (b = w.heap.size) from fun b hb e => HO2.out.ne HZ.out (by decide) (by rw [hb, e]))
          have HN3 := Aside0.mk (show ∀ b, (.slice none 0 0 : Value).ownBlock = some b → ¬ (b = w.heap.size) from fun b hb e => HO3.out.ne HZ.out (by decide) (by rw [hb, e]))
          have HT := Aside0.mk (show rdT l a K S = (oR K k n2 0 && decide (((objZ K (odW l a K) (odR l a K S) (odI l a K S)).length : Int) ≤ l.length - a) && decide (objZ K (odW l a K) (odR l a K S) (odI l a K S) = (l.drop a.toNat).take (objZ K (odW l a K) (odR l a K S) (odI l a K S)).length)) by rw [rdT, HLR.out, HLI.out, HW.out, wordsAt_len])
          obtain ⟨b, hbq⟩ : ∃ b, oR K k n2 0 = b := ⟨_, rfl⟩
          rw [hbq] at HT
          have HBQ := Aside0.mk hbq
          clear hbq
          cases b with
          | false =>
            have HF := Aside0.mk (show rdT l a K S = false by rw [HT.out]; rfl)
            go_wp2_with fail
            refine (ref_oEncode_no K k n2 0 A1 A4 none d1 c4 0 _ (by omega) (by omega) (by omega) HBQ.out).mono ?_
            rintro e w3 ⟨rfl, hb3⟩
            have HB6 := Aside0.mk (below_step HB.out hb3)
            have HK6 := Aside0.mk (Kp.of_below hb3 (fun b => b = w.heap.size))
            have H0 := blk_below HZ.out hb3
            have r0 := blk_cell H0 0
            have r1 := blk_cell H0 1
            have r2 := blk_cell H0 2
            have r3 := blk_cell H0 3
            have f0 := blk_frozen H0 0
            have f1 := blk_frozen H0 1
            have f2 := blk_frozen H0 2
            have f3 := blk_frozen H0 3
            clear H0 hb3 z0 z1 z2 z3
            go_wp2_with fail
            refine bodyPost_ret (v := .tuple #[.agg #[.int .i64 0, .slice none 0 0, .slice none 0 0, .slice none 0 0], .int .i64 0, .bool false]) (by simp [results, Try.results149, go_sem, r0, r1, r2, r3]) rfl ⟨⟨.slice A1 k d1, .slice A4 n2 c4, .slice none 0 0, by rw [HF.out]; rfl, ?_, ?_, ?_⟩, below_set4 HB6.out (Nat.le_refl _) _ _ _ _⟩
            · exact rd_end HO1.out (kp_set4 HK6.out rfl _ _ _ _) HN1.out HW.out
            · exact rd_end HO2.out (kp_set4 HK6.out rfl _ _ _ _) HN2.out rfl
            · exact rd_end HO3.out (kp_set4 HK6.out rfl _ _ _ _) HN3.out rfl
          | true =>
            go_wp2_with fail
            refine (ref_oEncode_yes' K (odW l a K) (odR l a K S) (odI l a K S) k n2 0 (by rw [HW.out]; exact wordsAt_len _ _ _) HLR.out HLI.out A1 A4 none d1 c4 0 _ (Own.rd HO1.out |> fun h => by rw [HW.out]; exact h) (Own.rd HO2.out) (Own.rd HO3.out) (by rw [HW.out]; exact wordsAt_isW _ HIB.out _ _) HRB.out HIW.out HBQ.out).mono ?_
            rintro e w3 ⟨v3, rfl, ho3, hb3⟩
            have HB6 := Aside0.mk (below_step HB.out hb3)
            have HK6 := Aside0.mk (Kp.of_below hb3 (fun b => b = w.heap.size))
            have HZ6 := Aside0.mk (blk_below HZ.out hb3)
            have HX6 := Aside0.mk (blk_below HX.out hb3)
            obtain ⟨A6, d6, e6⟩ := own_slice ho3
            have hN0 : 16 ≤ (objZ K (odW l a K) (odR l a K S) (odI l a K S)).length := by rw [objZ, List.length_append, objB_len]; omega
            have hN1 : (objZ K (odW l a K) (odR l a K S) (odI l a K S)).length ≤ 2000000 := by rw [objZ, List.length_append, List.length_replicate]; have := padN_le ((objB K (odW l a K) (odR l a K S) (odI l a K S)).length : Int) 8; have h2 := objB_len K (odW l a K) (odR l a K S) (odI l a K S); rw [HLR.out, HLI.out, HW.out, wordsAt_len] at h2; rw [HW.out] at this ⊢; omega
            have HRX := Aside0.mk (Own.rd ho3)
            obtain ⟨Z, hZ⟩ : ∃ Z, objZ K (odW l a K) (odR l a K S) (odI l a K S) = Z := ⟨_, rfl⟩
            have HZB := Aside0.mk (show isB Z by rw [← hZ]; exact objZ_isB K HRB.out)
            rw [hZ] at HT HRX e6 hN0 hN1
            obtain ⟨N, hN⟩ : ∃ N, Z.length = N := ⟨_, rfl⟩
            rw [hN] at HT e6 hN0 hN1
            have HN := Aside0.mk hN
            have HEQ := Aside0.mk (show (objZ K (odW l a K) (odR l a K S) (odI l a K S)).length = N by rw [hZ, hN])
            clear hN hZ ho3 hb3 z0 z1 z2 z3
            subst e6
            have H0 := HZ6.out
            have r0 := blk_cell H0 0
            have r1 := blk_cell H0 1
            have r2 := blk_cell H0 2
            have r3 := blk_cell H0 3
            have f0 := blk_frozen H0 0
            have f1 := blk_frozen H0 1
            have f2 := blk_frozen H0 2
            have f3 := blk_frozen H0 3
            clear H0
            have y0 := blk_cell HX6.out 0
            have y1 := blk_cell HX6.out 1
            have y2 := blk_cell HX6.out 2
            have y3 := blk_cell HX6.out 3
            by_cases cN : (N : Int) ≤ l.length - a
            rotate_left
            · have HF := Aside0.mk (show rdT l a K S = false by rw [HT.out, decide_eq_false cN]; rfl)
              go_wp2_with fail
              refine bodyPost_ret (v := .tuple #[.agg #[.int .i64 0, .slice none 0 0, .slice none 0 0, .slice none 0 0], .int .i64 0, .bool false]) (by simp [results, Try.results149, go_sem, r0, r1, r2, r3]) rfl ⟨⟨.slice A1 k d1, .slice A4 n2 c4, .slice none 0 0, by rw [HF.out]; rfl, ?_, ?_, ?_⟩, below_set4 HB6.out (Nat.le_refl _) _ _ _ _⟩
              · exact rd_end HO1.out (kp_set4 HK6.out rfl _ _ _ _) HN1.out HW.out
              · exact rd_end HO2.out (kp_set4 HK6.out rfl _ _ _ _) HN2.out rfl
              · exact rd_end HO3.out (kp_set4 HK6.out rfl _ _ _ _) HN3.out rfl
            have t1 : ((N : Int) == 0) = false := by simp; omega
            have t2 : decide ((l.length : Int) - a < (N : Int)) = false := by simp; omega
            obtain ⟨i5, hi5, hz5⟩ := infoU8'
            obtain ⟨v', hcut, hrd⟩ := Rd.cut 22 5 Try.underlying22 hi5 hz5 HV.out a (a + (N : Int)) a0 (by omega) (by omega)
            have hdt : (l.take (a + (N : Int)).toNat).drop a.toNat = (l.drop a.toNat).take N := by rw [List.drop_take]; congr 1; omega
            rw [hdt] at hrd
            have HRD := Aside0.mk (show ∀ w1 : World, Rd w1 .u8 (.slice A l.length c) l → Rd w1 .u8 v' ((l.drop a.toNat).take N) from hrd)
            obtain ⟨b2, hb2q⟩ : ∃ b2, decide (Z = (l.drop a.toNat).take N) = b2 := ⟨_, rfl⟩
            rw [hb2q, decide_eq_true cN] at HT
            have HBQ2 := Aside0.mk hb2q
            clear hrd hi5 hz5 hdt hb2q
            go_wp2_with fail
            refine (Same_calls _ v' Z ((l.drop a.toNat).take N) _ HRX.out (HRD.out _ (HV.out.below HB6.out)) HZB.out ((HIB.out.drop _).take _)).mono ?_
            rintro e w4 ⟨rfl, hb4⟩
            rw [HBQ2.out]
            have HB7 := Aside0.mk (below_step HB6.out hb4)
            have HK7 := Aside0.mk (HK6.out.below hb4)
            have H0 := blk_below HZ6.out hb4
            have H1 := blk_below HX6.out hb4
            clear hb4 r0 r1 r2 r3 f0 f1 f2 f3 y0 y1 y2 y3
            have r0 := blk_cell H0 0
            have r1 := blk_cell H0 1
            have r2 := blk_cell H0 2
            have r3 := blk_cell H0 3
            have f0 := blk_frozen H0 0
            have f1 := blk_frozen H0 1
            have f2 := blk_frozen H0 2
            have f3 := blk_frozen H0 3
            have y0 := blk_cell H1 0
            have y1 := blk_cell H1 1
            have y2 := blk_cell H1 2
            have y3 := blk_cell H1 3
            clear H0 H1
            cases b2 with
            | false =>
              have HF := Aside0.mk (show rdT l a K S = false by rw [HT.out]; rfl)
              go_wp2_with fail
              refine bodyPost_ret (v := .tuple #[.agg #[.int .i64 0, .slice none 0 0, .slice none 0 0, .slice none 0 0], .int .i64 0, .bool false]) (by simp [results, Try.results149, go_sem, r0, r1, r2, r3]) rfl ⟨⟨.slice A1 k d1, .slice A4 n2 c4, .slice none 0 0, by rw [HF.out]; rfl, ?_, ?_, ?_⟩, below_set4 HB7.out (Nat.le_refl _) _ _ _ _⟩
              · exact rd_end HO1.out (kp_set4 HK7.out rfl _ _ _ _) HN1.out HW.out
              · exact rd_end HO2.out (kp_set4 HK7.out rfl _ _ _ _) HN2.out rfl
              · exact rd_end HO3.out (kp_set4 HK7.out rfl _ _ _ _) HN3.out rfl
            | true =>
              have HF := Aside0.mk (show rdT l a K S = true by rw [HT.out]; rfl)
              go_wp2_with fail
              refine bodyPost_ret (v := .tuple #[.agg #[.int .i64 K, .slice A1 k d1, .slice A4 n2 c4, .slice none 0 0], .int .i64 (a + (N : Int)), .bool true]) (by simp [results, Try.results149, go_sem, r0, r1, r2, r3]) rfl ⟨⟨.slice A1 k d1, .slice A4 n2 c4, .slice none 0 0, by rw [HF.out, HEQ.out]; rfl, ?_, ?_, ?_⟩, below_set4 HB7.out (Nat.le_refl _) _ _ _ _⟩
              · exact rd_end HO1.out (kp_set4 HK7.out rfl _ _ _ _) HN1.out HW.out
              · exact rd_end HO2.out (kp_set4 HK7.out rfl _ _ _ _) HN2.out rfl
              · exact rd_end HO3.out (kp_set4 HK7.out rfl _ _ _ _) HN3.out rfl
      · have HR1 := Aside0.mk (show odR l a K S = [] by rw [odR, if_neg k3])
        have HLR := Aside0.mk (show (odR l a K S).length = 0 by rw [HR1.out]; rfl)
        obtain ⟨m, hm⟩ : ∃ m : Nat, (S - (16 + 8 * (k : Int))) / 8 = (m : Int) := Int.eq_ofNat_of_zero_le (by omega)
        have hm1 : 16 + 8 * (k : Int) + 8 * (m : Int) ≤ S := by omega
        have hm2 : S < 16 + 8 * (k : Int) + 8 * (m : Int) + 8 := by omega
        have HI1 := Aside0.mk (show odI l a K S = wordsAt l (a + 16 + 8 * (k : Int)) m by rw [odI, if_neg k3, HQ.out, hm, Int.toNat_natCast])
        have HLI := Aside0.mk (show (odI l a K S).length = m by rw [HI1.out]; exact wordsAt_len _ _ _)
        have dk2 : decide ((2 : Int) < K) = true := by simp; omega
        clear hm
        go_wp2_with fail
        go_loopg [16, 18, 19] m (fun kq v16 v18 v19 w' => ∃ (j : Nat) (A3 : Option Addr) (d3 : Nat), j + kq = m ∧ v16 = .int .i64 (a + 16 + 8 * (k : Int) + 8 * (j : Int)) ∧ Aside0 (w'.heap[p]? = some (.cells #[.int .i64 K, .slice A1 k d1, .slice none 0 0, .slice A3 j d3] 48 (0, 0))) ∧ Aside0 (Own (Value.int .u64) w' w.heap.size 32 (.slice A1 k d1) (wordsAt l (a + 16) k)) ∧ Aside0 (Own (Value.int .u64) w' w.heap.size 32 (.slice A3 j d3) (wordsAt l (a + 16 + 8 * (k : Int)) j)) ∧ Aside0 (∀ b, (.slice A1 k d1 : Value).ownBlock = some b → (.slice A3 j d3 : Value).ownBlock ≠ some b) ∧ Aside0 (w'.heap[w.heap.size]? = some (.cells #[.int .i64 0, .slice none 0 0, .slice none 0 0, .slice none 0 0] 48 (0, 0))) ∧ Aside0 (Below w.heap.size w w'))
        case atStart => exact ⟨0, none, 0, by omega, by simp, HX, HO, ⟨Own.nil _ _ _ _⟩, ⟨fun b _ h => by cases h⟩, HZ, HB⟩
        case round =>
          clear HX HO HZ HB
          obtain ⟨j, A3, d3, hjm, rfl, HX, HO1, HO3, HAP, HZ, HB⟩ := hrel
          by_cases c2 : j < m
          · obtain ⟨x, hx⟩ : ∃ x, getN l (a + 16 + 8 * (k : Int) + 8 * (j : Int)) 8 = x := ⟨_, rfl⟩
            have HN := Aside0.mk (show wordsAt l (a + 16 + 8 * (k : Int)) (j + 1) = wordsAt l (a + 16 + 8 * (k : Int)) j ++ [x] by rw [wordsAt_snoc', hx])
            have HXX := Aside0.mk hx
            obtain ⟨bb, hbb⟩ : ∃ bb, fitsB l.length (a + 16 + 8 * (k : Int) + 8 * (j : Int)) 8 = bb := ⟨_, rfl⟩
            have HBBB := Aside0.mk hbb
            clear hx hbb
            go_wp2_with fail
            refine (ref_Get_calls _ l (a + 16 + 8 * (k : Int) + 8 * (j : Int)) 8 _ (HV.out.below HB.out) HIB.out).mono ?_
            rintro e w3 ⟨rfl, hb3⟩
            rw [HXX.out, HBBB.out]
            obtain ⟨A4, c4, w4, hrun4, hO4, hg4, hat4⟩ := app64oneAt x (HO3.out.below hb3) (wordsAt_len _ _ _) (Nat.le_trans HB.out.size hb3.size) (by omega)
            have z1 := blk_cell (blk_below HX.out hb3) 3
            have hX4 := blk_grown (blk_alloc (blk_below HX.out hb3) (.cells #[.int .u64 x] 32)) hg4 (fun e => (HO3.out.below hb3).ne (blk_below HX.out hb3) (by decide) e.symm)
            have hZ4 := blk_grown (blk_alloc (blk_below HZ.out hb3) (.cells #[.int .u64 x] 32)) hg4 (fun e => (HO3.out.below hb3).ne (blk_below HZ.out hb3) (by decide) e.symm)
            have y1 := blk_cell hX4 3
            have g1 := blk_frozen hX4 3
            have HX5 := Aside0.mk (show (w4.setCell ⟨p, 3, none⟩ (.slice A4 (j + 1) c4)).heap[p]? = some (.cells #[.int .i64 K, .slice A1 k d1, .slice none 0 0, .slice A4 (j + 1) c4] 48 (0, 0)) from by simpa using blk_set hX4 3 (.slice A4 (j + 1) c4))
            have HZ5 := Aside0.mk (blk_far hZ4 (p := ⟨p, 3, none⟩) (by show w.heap.size ≠ p; omega) (.slice A4 (j + 1) c4))
            have hB4 := Kp.from (below_alloc (below_step HB.out hb3) (.cells #[.int .u64 x] 32)) (Kp.of_grown hg4) (fun k hk => HO3.out.ge hk)
            have HB5 := Aside0.mk (obelow_set hB4 ⟨p, 3, none⟩ (by show w.heap.size ≤ p; omega) (.slice A4 (j + 1) c4))
            have HO5 := Aside0.mk (show Own (Value.int .u64) (w4.setCell ⟨p, 3, none⟩ (.slice A4 (j + 1) c4)) w.heap.size 32 (.slice A4 (j + 1) c4) (wordsAt l (a + 16 + 8 * (k : Int)) (j + 1)) by
              rw [HN.out]; exact hO4.move (fun b hb => Below.heap_setCell w4 _ _ b (fun e => hO4.ne hX4 (by decide) (by rw [hb, e]))))
            have hO1a := HO1.out.below (below_alloc hb3 (.cells #[.int .u64 x] 32))
            have HO1' := Aside0.mk (show Own (Value.int .u64) (w4.setCell ⟨p, 3, none⟩ (.slice A4 (j + 1) c4)) w.heap.size 32 (.slice A1 k d1) (wordsAt l (a + 16) k) from
              (hO1a.move (fun b hb => hg4.block b (hO1a.lt hb) (fun e => HAP.out b hb e.symm))).move (fun b hb => Below.heap_setCell w4 _ _ b (fun e => HO1.out.ne HX.out (by decide) (by rw [hb, e]))))
            have HAP5 := Aside0.mk (show ∀ b, (.slice A1 k d1 : Value).ownBlock = some b → (.slice A4 (j + 1) c4 : Value).ownBlock ≠ some b from fun b hb e => by
              rcases hat4 with h | ⟨b', h, hle⟩
              · rw [h] at e; exact HAP.out b hb e
              · rw [h] at e; injection e with e; have := hO1a.lt hb; have := (HO1.out.below hb3).lt hb; omega)
            have HR4 := Aside0.mk hrun4
            clear hrun4 hO4 hg4 hX4 hZ4 hB4 hb3 hat4 hO1a
            go_wp2_with (first | ((with_reducible refine gate_builtin (b := .append) (xs := #[.tmp 131, .tmp 133]) rfl ?_); at_builtin; refine app_list rfl (.tmp 131) (.tmp 133) rfl rfl rfl HR4.out ?_))
            go_roundg (m - (j + 1))
            case measure => omega
            case rel => exact ⟨j + 1, A4, c4, by omega, by go_num, HX5, HO1', HO5, HAP5, HZ5, HB5⟩
          · obtain rfl : j = m := by omega
            have HO2 := Aside0.mk (show Own (Value.int .u8) wr w.heap.size 5 (.slice none 0 0) (odR l a K S) by rw [HR1.out]; exact Own.nil _ _ _ _)
            rw [← HI1.out] at HO3
            have HRB := Aside0.mk (show isB (odR l a K S) by rw [odR]; split <;> first | exact rawAt_isB HIB.out _ _ | exact oB_nil)
            have HIW := Aside0.mk (show isW (odI l a K S) by rw [odI]; split <;> first | exact wordsAt_isW _ HIB.out _ _ | exact (fun x hx => by simp at hx))
            have z0 := blk_cell HX.out 0
            have z1 := blk_cell HX.out 1
            have z2 := blk_cell HX.out 2
            have z3 := blk_cell HX.out 3
            have HN1 := Aside0.mk (show ∀ b, (.slice A1 k d1 : Value).ownBlock = some b → ¬ (b = w.heap.size) from fun b hb e => HO1.out.ne HZ.out (by decide) (by rw [hb, e]))
            have HN2 := Aside0.mk (show ∀ b, (.slice none 0 0 : Value).ownBlock = some b → ¬ (b = w.heap.size) from fun b hb e => HO2.out.ne HZ.out (by decide) (by rw [hb, e]))
            have HN3 := Aside0.mk (show ∀ b, (.slice A3 j d3 : Value).ownBlock = some b → ¬ (b = w.heap.size) from fun b hb e => HO3.out.ne HZ.out (by decide) (by rw [hb, e]))
            have HT := Aside0.mk (show rdT l a K S = (oR K k 0 j && decide (((objZ K (odW l a K) (odR l a K S) (odI l a K S)).length : Int) ≤ l.length - a) && decide (objZ K (odW l a K) (odR l a K S) (odI l a K S) = (l.drop a.toNat).take (objZ K (odW l a K) (odR l a K S) (odI l a K S)).length)) by rw [rdT, HLR.out, HLI.out, HW.out, wordsAt_len])
            obtain ⟨b, hbq⟩ : ∃ b, oR K k 0 j = b := ⟨_, rfl⟩
            rw [hbq] at HT
            have HBQ := Aside0.mk hbq
            clear hbq
            cases b with
            | false =>
              have HF := Aside0.mk (show rdT l a K S = false by rw [HT.out]; rfl)
              go_wp2_with fail
              refine (ref_oEncode_no K k 0 j A1 none A3 d1 0 d3 _ (by omega) (by omega) (by omega) HBQ.out).mono ?_
              rintro e w3 ⟨rfl, hb3⟩
              have HB6 := Aside0.mk (below_step HB.out hb3)
              have HK6 := Aside0.mk (Kp.of_below hb3 (fun b => b = w.heap.size))
              have H0 := blk_below HZ.out hb3
              have r0 := blk_cell H0 0
              have r1 := blk_cell H0 1
              have r2 := blk_cell H0 2
              have r3 := blk_cell H0 3
              have f0 := blk_frozen H0 0
              have f1 := blk_frozen H0 1
              have f2 := blk_frozen H0 2
              have f3 := blk_frozen H0 3
              clear H0 hb3 z0 z1 z2 z3
              go_wp2_with fail
              refine bodyPost_ret (v := .tuple #[.agg #[.int .i64 0, .slice none 0 0, .slice none 0 0, .slice none 0 0], .int .i64 0, .bool false]) (by simp [results, Try.results149, go_sem, r0, r1, r2, r3]) rfl ⟨⟨.slice A1 k d1, .slice none 0 0, .slice A3 j d3, by rw [HF.out]; rfl, ?_, ?_, ?_⟩, below_set4 HB6.out (Nat.le_refl _) _ _ _ _⟩
              · exact rd_end HO1.out (kp_set4 HK6.out rfl _ _ _ _) HN1.out HW.out
              · exact rd_end HO2.out (kp_set4 HK6.out rfl _ _ _ _) HN2.out rfl
              · exact rd_end HO3.out (kp_set4 HK6.out rfl _ _ _ _) HN3.out rfl
            | true =>
              go_wp2_with fail
              refine (ref_oEncode_yes' K (odW l a K) (odR l a K S) (odI l a K S) k 0 j (by rw [HW.out]; exact wordsAt_len _ _ _) HLR.out HLI.out A1 none A3 d1 0 d3 _ (Own.rd HO1.out |> fun h => by rw [HW.out]; exact h) (Own.rd HO2.out) (Own.rd HO3.out) (by rw [HW.out]; exact wordsAt_isW _ HIB.out _ _) HRB.out HIW.out HBQ.out).mono ?_
              rintro e w3 ⟨v3, rfl, ho3, hb3⟩
              have HB6 := Aside0.mk (below_step HB.out hb3)
              have HK6 := Aside0.mk (Kp.of_below hb3 (fun b => b = w.heap.size))
              have HZ6 := Aside0.mk (blk_below HZ.out hb3)
              have HX6 := Aside0.mk (blk_below HX.out hb3)
              obtain ⟨A6, d6, e6⟩ := own_slice ho3
              have hN0 : 16 ≤ (objZ K (odW l a K) (odR l a K S) (odI l a K S)).length := by rw [objZ, List.length_append, objB_len]; omega
              have hN1 : (objZ K (odW l a K) (odR l a K S) (odI l a K S)).length ≤ 2000000 := by rw [objZ, List.length_append, List.length_replicate]; have := padN_le ((objB K (odW l a K) (odR l a K S) (odI l a K S)).length : Int) 8; have h2 := objB_len K (odW l a K) (odR l a K S) (odI l a K S); rw [HLR.out, HLI.out, HW.out, wordsAt_len] at h2; rw [HW.out] at this ⊢; omega
              have HRX := Aside0.mk (Own.rd ho3)
              obtain ⟨Z, hZ⟩ : ∃ Z, objZ K (odW l a K) (odR l a K S) (odI l a K S) = Z := ⟨_, rfl⟩
              have HZB := Aside0.mk (show isB Z by rw [← hZ]; exact objZ_isB K HRB.out)
              rw [hZ] at HT HRX e6 hN0 hN1
              obtain ⟨N, hN⟩ : ∃ N, Z.length = N := ⟨_, rfl⟩
              rw [hN] at HT e6 hN0 hN1
              have HN := Aside0.mk hN
              have HEQ := Aside0.mk (show (objZ K (odW l a K) (odR l a K S) (odI l a K S)).length = N by rw [hZ, hN])
              clear hN hZ ho3 hb3 z0 z1 z2 z3
              subst e6
              have H0 := HZ6.out
              have r0 := blk_cell H0 0
              have r1 := blk_cell H0 1
              have r2 := blk_cell H0 2
              have r3 := blk_cell H0 3
              have f0 := blk_frozen H0 0
              have f1 := blk_frozen H0 1
              have f2 := blk_frozen H0 2
              have f3 := blk_frozen H0 3
              clear H0
              have y0 := blk_cell HX6.out 0
              have y1 := blk_cell HX6.out 1
              have y2 := blk_cell HX6.out 2
              have y3 := blk_cell HX6.out 3
              by_cases cN : (N : Int) ≤ l.length - a
              rotate_left
              · have HF := Aside0.mk (show rdT l a K S = false by rw [HT.out, decide_eq_false cN]; rfl)
                go_wp2_with fail
                refine bodyPost_ret (v := .tuple #[.agg #[.int .i64 0, .slice none 0 0, .slice none 0 0, .slice none 0 0], .int .i64 0, .bool false]) (by simp [results, Try.results149, go_sem, r0, r1, r2, r3]) rfl ⟨⟨.slice A1 k d1, .slice none 0 0, .slice A3 j d3, by rw [HF.out]; rfl, ?_, ?_, ?_⟩, below_set4 HB6.out (Nat.le_refl _) _ _ _ _⟩
                · exact rd_end HO1.out (kp_set4 HK6.out rfl _ _ _ _) HN1.out HW.out
                · exact rd_end HO2.out (kp_set4 HK6.out rfl _ _ _ _) HN2.out rfl
                · exact rd_end HO3.out (kp_set4 HK6.out rfl _ _ _ _) HN3.out rfl
              have t1 : ((N : Int) == 0) = false := by simp; omega
              have t2 : decide ((l.length : Int) - a < (N : Int)) = false := by simp; omega
              obtain ⟨i5, hi5, hz5⟩ := infoU8'
              obtain ⟨v', hcut, hrd⟩ := Rd.cut 22 5 Try.underlying22 hi5 hz5 HV.out a (a + (N : Int)) a0 (by omega) (by omega)
              have hdt : (l.take (a + (N : Int)).toNat).drop a.toNat = (l.drop a.toNat).take N := by rw [List.drop_take]; congr 1; omega
              rw [hdt] at hrd
              have HRD := Aside0.mk (show ∀ w1 : World, Rd w1 .u8 (.slice A l.length c) l → Rd w1 .u8 v' ((l.drop a.toNat).take N) from hrd)
              obtain ⟨b2, hb2q⟩ : ∃ b2, decide (Z = (l.drop a.toNat).take N) = b2 := ⟨_, rfl⟩
              rw [hb2q, decide_eq_true cN] at HT
              have HBQ2 := Aside0.mk hb2q
              clear hrd hi5 hz5 hdt hb2q
              go_wp2_with fail
              refine (Same_calls _ v' Z ((l.drop a.toNat).take N) _ HRX.out (HRD.out _ (HV.out.below HB6.out)) HZB.out ((HIB.out.drop _).take _)).mono ?_
              rintro e w4 ⟨rfl, hb4⟩
              rw [HBQ2.out]
              have HB7 := Aside0.mk (below_step HB6.out hb4)
              have HK7 := Aside0.mk (HK6.out.below hb4)
              have H0 := blk_below HZ6.out hb4
              have H1 := blk_below HX6.out hb4
              clear hb4 r0 r1 r2 r3 f0 f1 f2 f3 y0 y1 y2 y3
              have r0 := blk_cell H0 0
              have r1 := blk_cell H0 1
              have r2 := blk_cell H0 2
              have r3 := blk_cell H0 3
              have f0 := blk_frozen H0 0
              have f1 := blk_frozen H0 1
              have f2 := blk_frozen H0 2
              have f3 := blk_frozen H0 3
              have y0 := blk_cell H1 0
              have y1 := blk_cell H1 1
              have y2 := blk_cell H1 2
              have y3 := blk_cell H1 3
              clear H0 H1
              cases b2 with
              | false =>
                have HF := Aside0.mk (show rdT l a K S = false by rw [HT.out]; rfl)
                go_wp2_with fail
                refine bodyPost_ret (v := .tuple #[.agg #[.int .i64 0, .slice none 0 0, .slice none 0 0, .slice none 0 0], .int .i64 0, .bool false]) (by simp [results, Try.results149, go_sem, r0, r1, r2, r3]) rfl ⟨⟨.slice A1 k d1, .slice none 0 0, .slice A3 j d3, by rw [HF.out]; rfl, ?_, ?_, ?_⟩, below_set4 HB7.out (Nat.le_refl _) _ _ _ _⟩
                · exact rd_end HO1.out (kp_set4 HK7.out rfl _ _ _ _) HN1.out HW.out
                · exact rd_end HO2.out (kp_set4 HK7.out rfl _ _ _ _) HN2.out rfl
                · exact rd_end HO3.out (kp_set4 HK7.out rfl _ _ _ _) HN3.out rfl
              | true =>
                have HF := Aside0.mk (show rdT l a K S = true by rw [HT.out]; rfl)
                go_wp2_with fail
                refine bodyPost_ret (v := .tuple #[.agg #[.int .i64 K, .slice A1 k d1, .slice none 0 0, .slice A3 j d3], .int .i64 (a + (N : Int)), .bool true]) (by simp [results, Try.results149, go_sem, r0, r1, r2, r3]) rfl ⟨⟨.slice A1 k d1, .slice none 0 0, .slice A3 j d3, by rw [HF.out, HEQ.out]; rfl, ?_, ?_, ?_⟩, below_set4 HB7.out (Nat.le_refl _) _ _ _ _⟩
                · exact rd_end HO1.out (kp_set4 HK7.out rfl _ _ _ _) HN1.out HW.out
                · exact rd_end HO2.out (kp_set4 HK7.out rfl _ _ _ _) HN2.out rfl
                · exact rd_end HO3.out (kp_set4 HK7.out rfl _ _ _ _) HN3.out rfl
end Go.Proofs.Ytigdchfjcfljjaa
end
section
/- Decode, both sides, at any place. -/
namespace Go.Proofs.Ytigdchfjcfljjaa
open Go.RowKit Go.Proofs.YtigdchfjcfljjaaW.PrintWords Go.Proofs.YtigdchfjcfljjaaW.PrintLast Go.Proofs.YtigdchfjcfljjaaW.PrintMore
attribute [local go_sem] max2_int min2_int max_two min_two max_three min_three max_four min_four
theorem ref_oDecode_all (v : Value) (l : List Int) (a : Int) (w : World) (hr : Rd w .u8 v l) (hb : isB l) (hl : l.length ≤ 100000) (ha : a ≤ 100000) (ha0 : -9223372036854775808 ≤ a) : Calls Try.prog 149 #[v, .int .i64 a] w fun e w' => (∃ u1 u2 u3, e = .returned (dV l a u1 u2 u3) ∧ (dG l a = true → Rd w' .u64 u1 (odW l a (getN l a 8)) ∧ Rd w' .u8 u2 (odR l a (getN l a 8) (getN l (a + 8) 8)) ∧ Rd w' .u64 u3 (odI l a (getN l a 8) (getN l (a + 8) 8)))) ∧ Below w.heap.size w w' := by
  cases hfo : rdF l a
  · have hdg : dG l a = false := by
      have h := of_decide_eq_false hfo
      have hfr : frOk l a = false := decide_eq_false (fun ⟨a0, a1, a8, k0, k1, s1, s0, _⟩ => h ⟨a0, a1, a8, k0, k1, s1, s0⟩)
      rw [dG, hfr]; rfl
    refine (ref_oDecode_no v l a w hr hb hl ha ha0 hfo).mono ?_
    rintro e w1 ⟨rfl, hb1⟩
    exact ⟨⟨.slice none 0 0, .slice none 0 0, .slice none 0 0, by rw [dV, hdg]; rfl, fun h => by rw [hdg] at h; cases h⟩, hb1⟩
  · obtain ⟨a0, a1, a8, k0, k1, s1, s0⟩ := of_decide_eq_true hfo
    obtain ⟨m1, m2⟩ := rdT_main hb hl a0 (by omega) rfl rfl k0 k1 s0 s1
    have hdg : dG l a = rdT l a (getN l a 8) (getN l (a + 8) 8) := by
      rw [m1, dG]
      congr 1
      exact decide_eq_decide.2 ⟨fun h => h.2.2.2.2.2.2.2, fun h => ⟨a0, a1, a8, k0, k1, s1, s0, h⟩⟩
    refine (ref_oDecode_yes v l a w hr hb hl ha a0 a1 a8 _ _ rfl rfl k0 k1 s1 s0).mono ?_
    rintro e w1 ⟨⟨u1, u2, u3, rfl, r1, r2, r3⟩, hb1⟩
    refine ⟨⟨u1, u2, u3, ?_, fun _ => ⟨r1, r2, r3⟩⟩, hb1⟩
    rw [dV, hdg]
    cases ht : rdT l a (getN l a 8) (getN l (a + 8) 8)
    · rfl
    · rw [cond_true, cond_true, (m2 ht).2]
theorem dG_far {l : List Int} {a : Int} (hl : l.length ≤ 100000) (ha : 100000 < a) : dG l a = false := by
  have : frOk l a = false := decide_eq_false (fun h => by omega)
  rw [dG, this]; rfl
set_option maxHeartbeats 8000000 in
set_option maxRecDepth 100000 in
theorem obj_frame_far (v : Value) (l : List Int) (a : Int) (w : World) (hr : Rd w .u8 v l) (hb : isB l) (hl : l.length ≤ 100000) (ha : 100000 < a) : Calls Try.prog 102 #[v, .int .i64 a] w fun e w' => e = .returned (.tuple #[.int .i64 0, .int .i64 0, .bool false]) ∧ Below w.heap.size w w' := by
  have C := Aside0.mk (le_Get_calls v l a 8 w hr hb)
  rw [show fitsB l.length a 8 = false from fits_no (fun h => by omega)] at C
  clear hr hb
  go_enter Try.func102, Try.ntmps102
  go_wp2_with fail
  refine (C.out).mono ?_
  rintro e w1 ⟨rfl, hb1⟩
  have HB1 := Aside0.mk hb1
  clear hb1
  go_wp2_with fail
  exact bodyPost_ret (v := .tuple #[.int .i64 0, .int .i64 0, .bool false]) (by simp [results, Try.results102, go_sem]) rfl ⟨rfl, HB1.out⟩
set_option maxHeartbeats 8000000 in
set_option maxRecDepth 100000 in
theorem obj_Decode_far (v : Value) (l : List Int) (a : Int) (w : World) (hr : Rd w .u8 v l) (hb : isB l) (hl : l.length ≤ 100000) (ha : 100000 < a) : Calls Try.prog 33 #[v, .int .i64 a] w fun e w' => e = .returned (.tuple #[.agg #[.int .i64 0, .slice none 0 0, .slice none 0 0, .slice none 0 0], .int .i64 0, .bool false]) ∧ Below w.heap.size w w' := by
  have HZ0 := Aside0.mk (blk_new w (.cells #[.int .i64 0, .slice none 0 0, .slice none 0 0, .slice none 0 0] 51))
  have HB0 := Aside0.mk (below_alloc (Below.refl w.heap.size w) (.cells #[.int .i64 0, .slice none 0 0, .slice none 0 0, .slice none 0 0] 51))
  have C := Aside0.mk (obj_frame_far v l a _ (hr.below HB0.out) hb hl ha)
  clear hr hb
  go_enter Try.func33, Try.ntmps33
  go_wp2_with fail
  refine (C.out).mono ?_
  rintro e w1 ⟨rfl, hb1⟩
  have HB1 := Aside0.mk (below_step HB0.out hb1)
  have H0 := blk_below HZ0.out hb1
  have r0 := blk_cell H0 0
  have r1 := blk_cell H0 1
  have r2 := blk_cell H0 2
  have r3 := blk_cell H0 3
  have f0 := blk_frozen H0 0
  have f1 := blk_frozen H0 1
  have f2 := blk_frozen H0 2
  have f3 := blk_frozen H0 3
  clear H0 hb1
  go_wp2_with fail
  refine bodyPost_ret (v := .tuple #[.agg #[.int .i64 0, .slice none 0 0, .slice none 0 0, .slice none 0 0], .int .i64 0, .bool false]) (by simp [results, Try.results33, go_sem, r0, r1, r2, r3]) rfl ⟨rfl, ?_⟩
  exact below_set4 HB1.out (Nat.le_refl _) _ _ _ _
set_option maxHeartbeats 8000000 in
set_option maxRecDepth 100000 in
theorem ref_oDecode_far (v : Value) (l : List Int) (a : Int) (w : World) (hr : Rd w .u8 v l) (hb : isB l) (hl : l.length ≤ 100000) (ha : 100000 < a) : Calls Try.prog 149 #[v, .int .i64 a] w fun e w' => e = .returned (.tuple #[.agg #[.int .i64 0, .slice none 0 0, .slice none 0 0, .slice none 0 0], .int .i64 0, .bool false]) ∧ Below w.heap.size w w' := by
  have HZ0 := Aside0.mk (blk_new w (.cells #[.int .i64 0, .slice none 0 0, .slice none 0 0, .slice none 0 0] 48))
  have HB0 := Aside0.mk (below_alloc (Below.refl w.heap.size w) (.cells #[.int .i64 0, .slice none 0 0, .slice none 0 0, .slice none 0 0] 48))
  have C := Aside0.mk (ref_Get_calls v l a 8 _ (hr.below HB0.out) hb)
  rw [show fitsB l.length a 8 = false from fits_no (fun h => by omega)] at C
  obtain ⟨z, hz⟩ : ∃ z, IntKind.i64.wrap (a + 8) = z := ⟨_, rfl⟩
  have C2 := Aside0.mk (fun w (h : Rd w .u8 v l) => ref_Get_calls v l z 8 w h hb)
  obtain ⟨y1, hy1⟩ : ∃ z, getN l a 8 = z := ⟨_, rfl⟩
  obtain ⟨y3, hy3⟩ : ∃ y, fitsB l.length z 8 = y := ⟨_, rfl⟩
  rw [hy1] at C
  rw [hy3] at C2
  obtain ⟨y4, hy4⟩ : ∃ y, getN l z 8 = y := ⟨_, rfl⟩
  rw [hy4] at C2
  have HR := Aside0.mk hr
  clear hr hb hy1 hy3 hy4
  go_enter Try.func149, Try.ntmps149
  go_wp2_with fail
  refine (C.out).mono ?_
  rintro e w1 ⟨rfl, hb1⟩
  have HB1 := Aside0.mk (below_step HB0.out hb1)
  have HZ1 := Aside0.mk (blk_below HZ0.out hb1)
  clear hb1
  go_wp2_with fail
  refine (C2.out _ (HR.out.below HB1.out)).mono ?_
  rintro e w2 ⟨rfl, hb2⟩
  have HB2 := Aside0.mk (below_step HB1.out hb2)
  have H0 := blk_below HZ1.out hb2
  have r0 := blk_cell H0 0
  have r1 := blk_cell H0 1
  have r2 := blk_cell H0 2
  have r3 := blk_cell H0 3
  have f0 := blk_frozen H0 0
  have f1 := blk_frozen H0 1
  have f2 := blk_frozen H0 2
  have f3 := blk_frozen H0 3
  clear H0 hb2
  go_wp2_with fail
  refine bodyPost_ret (v := .tuple #[.agg #[.int .i64 0, .slice none 0 0, .slice none 0 0, .slice none 0 0], .int .i64 0, .bool false]) (by simp [results, Try.results149, go_sem, r0, r1, r2, r3]) rfl ⟨rfl, ?_⟩
  exact below_set4 HB2.out (Nat.le_refl _) _ _ _ _
theorem obj_Decode_any (v : Value) (l : List Int) (a : Int) (w : World) (hr : Rd w .u8 v l) (hb : isB l) (hl : l.length ≤ 100000) (ha0 : -9223372036854775808 ≤ a) : Calls Try.prog 33 #[v, .int .i64 a] w fun e w' => (∃ u1 u2 u3, e = .returned (dV l a u1 u2 u3) ∧ (dG l a = true → Rd w' .u64 u1 (odW l a (getN l a 8)) ∧ Rd w' .u8 u2 (odR l a (getN l a 8) (getN l (a + 8) 8)) ∧ Rd w' .u64 u3 (odI l a (getN l a 8) (getN l (a + 8) 8)))) ∧ Below w.heap.size w w' := by
  by_cases h : a ≤ 100000
  · exact obj_Decode_all v l a w hr hb hl h ha0
  · refine (obj_Decode_far v l a w hr hb hl (by omega)).mono ?_
    rintro e w1 ⟨rfl, hb1⟩
    exact ⟨⟨.slice none 0 0, .slice none 0 0, .slice none 0 0, by rw [dV, dG_far hl (by omega)]; rfl, fun h2 => by rw [dG_far hl (by omega)] at h2; cases h2⟩, hb1⟩
theorem ref_oDecode_any (v : Value) (l : List Int) (a : Int) (w : World) (hr : Rd w .u8 v l) (hb : isB l) (hl : l.length ≤ 100000) (ha0 : -9223372036854775808 ≤ a) : Calls Try.prog 149 #[v, .int .i64 a] w fun e w' => (∃ u1 u2 u3, e = .returned (dV l a u1 u2 u3) ∧ (dG l a = true → Rd w' .u64 u1 (odW l a (getN l a 8)) ∧ Rd w' .u8 u2 (odR l a (getN l a 8) (getN l (a + 8) 8)) ∧ Rd w' .u64 u3 (odI l a (getN l a 8) (getN l (a + 8) 8)))) ∧ Below w.heap.size w w' := by
  by_cases h : a ≤ 100000
  · exact ref_oDecode_all v l a w hr hb hl h ha0
  · refine (ref_oDecode_far v l a w hr hb hl (by omega)).mono ?_
    rintro e w1 ⟨rfl, hb1⟩
    exact ⟨⟨.slice none 0 0, .slice none 0 0, .slice none 0 0, by rw [dV, dG_far hl (by omega)]; rfl, fun h2 => by rw [dG_far hl (by omega)] at h2; cases h2⟩, hb1⟩
end Go.Proofs.Ytigdchfjcfljjaa
end
