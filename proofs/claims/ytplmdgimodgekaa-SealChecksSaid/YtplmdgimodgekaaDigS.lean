/- SHA-256: Sum. -/
import Derived.Test.YtplmdgimodgekaaDigW
import Derived.Deep.MidRow
namespace Go.Proofs.Ytplmdgimodgekaa
open Go.RowKit Go.Proofs.YtplmdgimodgekaaW.PrintWords Go.Proofs.YtplmdgimodgekaaW.PrintLast Go.Proofs.YtplmdgimodgekaaW.PrintMore
attribute [local go_sem] max2_int min2_int max_two min_two max_three min_three max_four min_four   -- for this text's walks alone
set_option linter.unusedVariables false
set_option linter.unusedSimpArgs false

def padZ (L : List Int) (z : Nat) : List Int := L ++ [128] ++ List.replicate z 0
def be8 (n : Int) (j : Nat) : List Int := (List.range j).map fun i => n * 8 / 2 ^ (56 - 8 * i) % 256
def zP (L : List Int) : Nat := (119 - L.length % 64) % 64
def padP (L : List Int) : List Int := padZ L (zP L) ++ be8 L.length 8
def outB (ws : List Int) (j : Nat) : Int := ws.getD (j / 4) 0 / 2 ^ (24 - 8 * (j % 4)) % 256
def shaW (L : List Int) : List Int := bkN h0L (padP L) ((padP L).length / 64)
def shaP (L : List Int) : List Int := (List.range 32).map (outB (shaW L))
theorem shaP_len (L : List Int) : (shaP L).length = 32 := by simp [shaP]
theorem padZ_len (L : List Int) (z : Nat) : (padZ L z).length = L.length + 1 + z := by simp [padZ]; omega
theorem padZ_0 (L : List Int) : padZ L 0 = L ++ [128] := by simp [padZ]
theorem padZ_succ (L : List Int) (z : Nat) : padZ L z ++ [0] = padZ L (z + 1) := by rw [padZ, padZ, List.replicate_succ', List.append_assoc (L ++ [128])]
theorem padZ_isB {L : List Int} (h : isB L) (z : Nat) : isB (padZ L z) := (h.app (fun x hx => by simp at hx; omega)).app (fun x hx => by have := List.eq_of_mem_replicate hx; omega)
theorem be8_len (n : Int) (j : Nat) : (be8 n j).length = j := by simp [be8]
theorem be8_succ (n : Int) (j : Nat) : be8 n j ++ [n * 8 / 2 ^ (56 - 8 * j) % 256] = be8 n (j + 1) := by rw [be8, be8, List.range_succ, List.map_append]; rfl
theorem there_blk {W : World} {b T : Nat} {cs : Array Value} (H : W.heap[b]? = some (.cells cs T (0, 0))) : W.there b 0 cs.size := fun j hj => by
  rw [Nat.zero_add]
  exact ⟨by rw [blk_cell H j]; simp [hj], blk_frozen H j⟩
theorem range_blk {W : World} {b T : Nat} {cs : List Value} (H : W.heap[b]? = some (.cells cs.toArray T (0, 0))) : W.rangeAt b 0 cs := fun j v hv => by
  rw [Nat.zero_add, blk_cell H j]; simpa using hv
theorem info32 : (Try.prog.info? 72).map (·.size) = some 32 := by kernel_rfl
theorem fill4 (f : Nat → Int) (i : Nat) (h : 4 * i + 3 < 32) {a b c d : Int} (ha : f (4 * i) = a) (hb : f (4 * i + 1) = b) (hc : f (4 * i + 2) = c) (hd : f (4 * i + 3) = d) :
    ((((fillL f 32 (4 * i)).set (4 * i) a).set (4 * i + 1) b).set (4 * i + 2) c).set (4 * i + 3) d = fillL f 32 (4 * (i + 1)) := by
  rw [fillL_set f 32 (4 * i) (by omega) ha, fillL_set f 32 (4 * i + 1) (by omega) hb, fillL_set f 32 (4 * i + 2) (by omega) hc, fillL_set f 32 (4 * i + 3) (by omega) hd]
  rfl
theorem sha_last (L : List Int) (z : Nat) (hz : z = zP L) : blkP (bkN h0L (padZ L z) ((padZ L z).length / 64)) ((padZ L z).drop (64 * ((padZ L z).length / 64)) ++ be8 L.length 8) = shaW L := by
  subst hz
  have h1 : (padZ L (zP L)).length = 64 * ((padZ L (zP L)).length / 64) + 56 := by rw [padZ_len, zP]; omega
  obtain ⟨q, hq⟩ : ∃ q, (padZ L (zP L)).length / 64 = q := ⟨_, rfl⟩
  rw [hq] at h1 ⊢
  have h2 : (padP L).length / 64 = q + 1 := by rw [padP, List.length_append, h1, be8_len]; omega
  rw [shaW, h2, bkN, padP, bkN_app _ _ _ q (by omega), List.drop_append_of_le_length (by omega), List.take_of_length_le]
  rw [List.length_append, List.length_drop, be8_len]; omega
theorem store_new {P : Program} {ops : Array Oper} {o : Oper} {a : Act} (w : World) {W : World} {Q : Exit → Act → World → Prop} {Kc : Act → World → Prop} (hw : Region.wanted o (yielded ops a.tmps) = true) (ty : TypeId) (x y : Operand) (ho : o.op = .store ty x y) (c c' : Array Value) (hW : W = w.alloc (.cells c ty))
    (hx : a.eval x = .pointer (some ⟨w.heap.size, 0, none⟩)) (hy : a.eval y = .agg c') (hi : (P.info? ty).map (·.size) = some c'.size) (hs : c.size = c'.size) (h1 : c'.all (·.oneCell') = true) (hd : o.dst = none) (h : Kc a (w.alloc (.cells c' ty))) :
    if Region.wanted o (yielded ops a.tmps) = true then Oper.wp P o a W Kc Q else Kc (a.put o.dst undef) W := by
  subst hW
  rw [if_pos hw]
  have hr := run_storeAt_new (P := P) w ty c c' hi hs h1
  unfold Oper.wp execOp
  have h2 : Kc (a.put o.dst undef) (w.alloc (.cells c' ty)) := by rw [hd]; exact h
  simp only [ho, hx, hy, hr, Sem.run_bind, Sem.run_pure, Result.andThen_ok]
  exact h2
theorem alloc_size (w : World) (o : Obj) : (w.alloc o).heap.size = w.heap.size + 1 := World.size_alloc ..
theorem infoH : (Try.prog.info? 215).map (·.size) = some 10 := by kernel_rfl
theorem hashA_size {hs : List Int} (hl : hs.length = 8) (v : Value) (n : Int) : (hashA hs v n).size = 10 := by simp [hashA, nums, hl]
theorem infoHA {hs : List Int} (hl : hs.length = 8) (v : Value) (n : Int) : (Try.prog.info? 215).map (·.size) = some (hashA hs v n).size := by rw [hashA_size hl]; exact infoH
theorem ones_hash (hs : List Int) (v : Value) (n : Int) (hv : v.oneCell' = true) : (hashA hs v n).all (·.oneCell') = true := all_oneCell_toArray (fun x hx => by
  simp only [nums, List.mem_append, List.mem_map, List.mem_cons, List.not_mem_nil, or_false] at hx
  rcases hx with ⟨z, _, rfl⟩ | rfl | rfl
  · rfl
  · exact hv
  · rfl)
theorem hash_lit (a0 a1 a2 a3 a4 a5 a6 a7 n : Int) (v : Value) : #[.int .u32 a0, .int .u32 a1, .int .u32 a2, .int .u32 a3, .int .u32 a4, .int .u32 a5, .int .u32 a6, .int .u32 a7, v, .int .u64 n] = hashA [a0, a1, a2, a3, a4, a5, a6, a7] v n := rfl
theorem results_cell {P : Program} {fn : Func} {i : Nat} {t : TypeId} {tmps : Array Value} {W : World} {b : Nat} {v : Value} (hf : fn.results = #[.cell i t]) (ht : tmps.getD i undef = .pointer (some ⟨b, 0, none⟩)) (hl : (loadVar t ⟨b, 0, none⟩).run P W = .ok v W) : (results fn tmps).run P W = .ok v W := by
  have h' : tmps[i]?.getD undef = .pointer (some ⟨b, 0, none⟩) := by simpa using ht
  simp [results, hf, h', asAddr, hl]
theorem below_cells {w : World} {b : Nat} (hb : w.heap.size ≤ b) : ∀ (vs : List Value) (o : Nat) (W : World), Below w.heap.size w W → Below w.heap.size w (W.setCells b o vs)
  | [], _, _, h => h
  | v :: r, o, W, h => by rw [World.setCells]; exact below_cells hb r (o + 1) _ (h.setCell hb v)
theorem sha_fill (L : List Int) : fillL (outB (shaW L)) 32 32 = shaP L := by simp [fillL, shaP]
theorem be8_isB (n : Int) (j : Nat) : isB (be8 n j) := fun x hx => by
  simp only [be8, List.mem_map] at hx
  obtain ⟨i, _, rfl⟩ := hx
  omega
theorem outB_at (ws : List Int) (i r : Nat) (hr : r < 4) : outB ws (4 * i + r) = ws.getD i 0 / 2 ^ (24 - 8 * r) % 256 := by rw [outB, show (4 * i + r) / 4 = i by omega, show (4 * i + r) % 4 = r by omega]
theorem nums_len (k : IntKind) (l : List Int) : (nums k l).length = l.length := by simp [nums]
theorem info32L (L : List Int) : (Try.prog.info? 72).map (·.size) = some (nums .u8 (shaP L)).length := by rw [nums_len, shaP_len]; exact info32
theorem info32A (L : List Int) : (Try.prog.info? 72).map (·.size) = some (nums .u8 (shaP L)).toArray.size := by rw [List.size_toArray]; exact info32L L
theorem there32 {W : World} {b T : Nat} {f : Nat → Int} (L : List Int) (H : W.heap[b]? = some (.cells (nums .u8 (fillL f 32 0)).toArray T (0, 0))) : W.there b 0 (nums .u8 (shaP L)).toArray.size := by
  have := there_blk H
  rw [List.size_toArray, nums_len, fillL_len _ _ _ (by omega)] at this
  rw [List.size_toArray, nums_len, shaP_len]; exact this
theorem index8 (ws : List Int) (x : Int) (i : Nat) (hi : i < 8) (hx : (nums .u32 ws).toArray[i]? = some (.int .u32 x)) (W : World) : (Instr.index 213 (.agg (nums .u32 ws).toArray) (.int .i64 i)).run Try.prog W = .ok (.int .u32 x) W := by
  have hI : (Try.prog.info? 196).map (·.size) = some 1 := by kernel_rfl
  obtain ⟨i5, hi5, hz5⟩ := Option.map_eq_some_iff.1 hI
  have c1 : (0 : Int) ≤ (i : Int) ∧ (i : Int) < 8 := by omega
  have hp : (part 196 (nums .u32 ws).toArray i).run Try.prog W = .ok (.int .u32 x) W := by
    unfold part isAgg
    simp only [Sem.run_bind, run_underlying Try.underlying196, Result.andThen_ok, Sem.run_pure, hx]
    simp
  unfold Instr.index
  simp only [asIntOf, Sem.run_bind, Sem.run_pure, run_underlying Try.underlying213, Result.andThen_ok, sizeOf, typeInfo, hi5]
  simp [hi5, hz5, hp, c1.2]

set_option maxHeartbeats 8000000 in
set_option maxRecDepth 100000 in
theorem Sum_calls (w : World) (g base : Nat) (v : Value) (L : List Int) (H : DigS w g base v L L.length) (hib : isB L) (hL : L.length ≤ 100000) :
    Calls Try.prog 135 #[.pointer (some ⟨g, 0, none⟩)] w fun e w' => e = .returned (.agg (nums .u8 (shaP L)).toArray) ∧ Below w.heap.size w w' := by
  obtain ⟨hH, hO⟩ := H
  have h8 := bkN_8 h0L_8 L (L.length / 64)
  obtain ⟨hs, ehs⟩ : ∃ x, bkN h0L L (L.length / 64) = x := ⟨_, rfl⟩
  rw [ehs] at hH h8
  obtain ⟨rest, er⟩ : ∃ x, L.drop (64 * (L.length / 64)) = x := ⟨_, rfl⟩
  have hrl : rest.length ≤ 63 := by rw [← er, List.length_drop]; omega
  rw [er] at hO
  obtain ⟨A0, c0, ev⟩ := hO.slice
  subst ev
  have HEH := Aside0.mk ehs
  have HER := Aside0.mk er
  have HG := Aside0.mk hH
  have HO := Aside0.mk hO
  have H8 := Aside0.mk h8
  have HIB := Aside0.mk hib
  have HLL := Aside0.mk hL
  obtain ⟨a0, a1, a2, a3, a4, a5, a6, a7, eH, ⟨lo0, hi0⟩, ⟨lo1, hi1⟩, ⟨lo2, hi2⟩, ⟨lo3, hi3⟩, ⟨lo4, hi4⟩, ⟨lo5, hi5⟩, ⟨lo6, hi6⟩, ⟨lo7, hi7⟩⟩ := list8 h8
  have hGG := hashA_get h8.1 (.slice A0 rest.length c0) (L.length : Int)
  have HZ0 := Aside0.mk (show (w.alloc (.cells #[.int .u8 0, .int .u8 0, .int .u8 0, .int .u8 0, .int .u8 0, .int .u8 0, .int .u8 0, .int .u8 0, .int .u8 0, .int .u8 0, .int .u8 0, .int .u8 0, .int .u8 0, .int .u8 0, .int .u8 0, .int .u8 0, .int .u8 0, .int .u8 0, .int .u8 0, .int .u8 0, .int .u8 0, .int .u8 0, .int .u8 0, .int .u8 0, .int .u8 0, .int .u8 0, .int .u8 0, .int .u8 0, .int .u8 0, .int .u8 0, .int .u8 0, .int .u8 0] 72)).heap[w.heap.size]? = some (.cells (nums .u8 (fillL (outB (shaW L)) 32 0)).toArray 72 (0, 0)) from blk_new w _)
  have HB0 := Aside0.mk (below_alloc (Below.refl w.heap.size w) (.cells #[.int .u8 0, .int .u8 0, .int .u8 0, .int .u8 0, .int .u8 0, .int .u8 0, .int .u8 0, .int .u8 0, .int .u8 0, .int .u8 0, .int .u8 0, .int .u8 0, .int .u8 0, .int .u8 0, .int .u8 0, .int .u8 0, .int .u8 0, .int .u8 0, .int .u8 0, .int .u8 0, .int .u8 0, .int .u8 0, .int .u8 0, .int .u8 0, .int .u8 0, .int .u8 0, .int .u8 0, .int .u8 0, .int .u8 0, .int .u8 0, .int .u8 0, .int .u8 0] 72))
  have HG0 := Aside0.mk (show HashV (w.alloc (.cells #[.int .u8 0, .int .u8 0, .int .u8 0, .int .u8 0, .int .u8 0, .int .u8 0, .int .u8 0, .int .u8 0, .int .u8 0, .int .u8 0, .int .u8 0, .int .u8 0, .int .u8 0, .int .u8 0, .int .u8 0, .int .u8 0, .int .u8 0, .int .u8 0, .int .u8 0, .int .u8 0, .int .u8 0, .int .u8 0, .int .u8 0, .int .u8 0, .int .u8 0, .int .u8 0, .int .u8 0, .int .u8 0, .int .u8 0, .int .u8 0, .int .u8 0, .int .u8 0] 72)) g hs (.slice A0 rest.length c0) L.length from blk_alloc hH _)
  have HO0 := Aside0.mk (hO.below (below_alloc (Below.refl w.heap.size w) (.cells #[.int .u8 0, .int .u8 0, .int .u8 0, .int .u8 0, .int .u8 0, .int .u8 0, .int .u8 0, .int .u8 0, .int .u8 0, .int .u8 0, .int .u8 0, .int .u8 0, .int .u8 0, .int .u8 0, .int .u8 0, .int .u8 0, .int .u8 0, .int .u8 0, .int .u8 0, .int .u8 0, .int .u8 0, .int .u8 0, .int .u8 0, .int .u8 0, .int .u8 0, .int .u8 0, .int .u8 0, .int .u8 0, .int .u8 0, .int .u8 0, .int .u8 0, .int .u8 0] 72)))
  have HS0 := Aside0.mk (show (w.alloc (.cells #[.int .u8 0, .int .u8 0, .int .u8 0, .int .u8 0, .int .u8 0, .int .u8 0, .int .u8 0, .int .u8 0, .int .u8 0, .int .u8 0, .int .u8 0, .int .u8 0, .int .u8 0, .int .u8 0, .int .u8 0, .int .u8 0, .int .u8 0, .int .u8 0, .int .u8 0, .int .u8 0, .int .u8 0, .int .u8 0, .int .u8 0, .int .u8 0, .int .u8 0, .int .u8 0, .int .u8 0, .int .u8 0, .int .u8 0, .int .u8 0, .int .u8 0, .int .u8 0] 72)).heap.size = w.heap.size + 1 from alloc_size _ _)
  have HE := Aside0.mk eH
  have hgw : g < w.heap.size := blk_lt hH
  obtain ⟨N, hN⟩ : ∃ N, L.length = N := ⟨_, rfl⟩
  have HN := Aside0.mk hN
  have hN9 : N ≤ 100000 := by omega
  rw [hN] at HG0 hGG
  clear hH hO h8 hib ehs er eH hN hL lo0 hi0 lo1 hi1 lo2 hi2 lo3 hi3 lo4 hi4 lo5 hi5 lo6 hi6 lo7 hi7
  go_enter Try.func135, Try.ntmps135
  go_wp2_with fail
  obtain ⟨wx, hwx⟩ : ∃ wx, w.alloc (.cells #[.int .u8 0, .int .u8 0, .int .u8 0, .int .u8 0, .int .u8 0, .int .u8 0, .int .u8 0, .int .u8 0, .int .u8 0, .int .u8 0, .int .u8 0, .int .u8 0, .int .u8 0, .int .u8 0, .int .u8 0, .int .u8 0, .int .u8 0, .int .u8 0, .int .u8 0, .int .u8 0, .int .u8 0, .int .u8 0, .int .u8 0, .int .u8 0, .int .u8 0, .int .u8 0, .int .u8 0, .int .u8 0, .int .u8 0, .int .u8 0, .int .u8 0, .int .u8 0] 72) = wx := ⟨_, rfl⟩
  rw [hwx] at HZ0 HB0 HG0 HO0 HS0 ⊢
  clear hwx
  have c8 := HG0.out.c8 H8.out.1
  have c9 := HG0.out.c9 H8.out.1
  have c0 := (blk_cell HG0.out 0).trans (hGG 0 (by omega))
  have c1 := (blk_cell HG0.out 1).trans (hGG 1 (by omega))
  have c2 := (blk_cell HG0.out 2).trans (hGG 2 (by omega))
  have c3 := (blk_cell HG0.out 3).trans (hGG 3 (by omega))
  have c4 := (blk_cell HG0.out 4).trans (hGG 4 (by omega))
  have c5 := (blk_cell HG0.out 5).trans (hGG 5 (by omega))
  have c6 := (blk_cell HG0.out 6).trans (hGG 6 (by omega))
  have c7 := (blk_cell HG0.out 7).trans (hGG 7 (by omega))

  rw [HE.out] at c0 c1 c2 c3 c4 c5 c6 c7
  clear hGG
  refine start_ (n := 11) (S := fun w' => w'.cell? ⟨g, 0, none⟩ = some (.int .u32 a0) ∧ w'.cell? ⟨g, 1, none⟩ = some (.int .u32 a1) ∧ w'.cell? ⟨g, 2, none⟩ = some (.int .u32 a2) ∧ w'.cell? ⟨g, 3, none⟩ = some (.int .u32 a3) ∧ w'.cell? ⟨g, 4, none⟩ = some (.int .u32 a4) ∧ w'.cell? ⟨g, 5, none⟩ = some (.int .u32 a5) ∧ w'.cell? ⟨g, 6, none⟩ = some (.int .u32 a6) ∧ w'.cell? ⟨g, 7, none⟩ = some (.int .u32 a7) ∧ w'.cell? ⟨g, 9, none⟩ = some (.int .u64 N)) (ds := [10]) #[false, false, false, false, false, false, false, false, false, false, false] (by kernel_rfl) rfl rfl ⟨c0, c1, c2, c3, c4, c5, c6, c7, c9⟩ (fun hHeld => ?_)
  refine pure_ (i := 0) (N := some 9) (v := ?_) (a' := ?_) #[true, false, false, false, false, false, false, false, false, false, false] rfl rfl (by kernel_rfl) (fun _ _ _ h => h) (Or.inl ⟨by rfl, ?_⟩) ?_ ?_
  rotate_left
  · intro w'
    go_simp
    with_reducible rfl
  rotate_left
  · simp only [Act.put, List.setIfInBounds_toArray, List.set_cons_zero, List.set_cons_succ, i64_w, i32_w]
    rfl
  refine pure_ (i := 1) (N := some 10) (v := ?_) (a' := ?_) #[true, true, false, false, false, false, false, false, false, false, false] rfl rfl (by kernel_rfl) (fun _ _ _ h => h) (Or.inl ⟨by rfl, ?_⟩) ?_ ?_
  rotate_left
  · intro w'
    go_simp
    with_reducible rfl
  rotate_left
  · simp only [Act.put, List.setIfInBounds_toArray, List.set_cons_zero, List.set_cons_succ, i64_w, i32_w]
    rfl
  refine pure_ (i := 2) (N := some 11) (v := ?_) (a' := ?_) #[true, true, true, false, false, false, false, false, false, false, false] rfl rfl (by kernel_rfl) (fun _ _ _ h => h) (Or.inl ⟨by rfl, ?_⟩) ?_ ?_
  rotate_left
  · intro w'
    go_simp
    with_reducible rfl
  rotate_left
  · simp only [Act.put, List.setIfInBounds_toArray, List.set_cons_zero, List.set_cons_succ, i64_w, i32_w]
    rfl
  refine pure_ (i := 4) (N := some 13) (v := ?_) (a' := ?_) #[true, true, true, false, true, false, false, false, false, false, false] rfl rfl (by kernel_rfl) (fun _ _ _ h => h) (Or.inl ⟨by rfl, ?_⟩) ?_ ?_
  rotate_left
  · intro w'
    go_simp
    with_reducible rfl
  rotate_left
  · simp only [Act.put, List.setIfInBounds_toArray, List.set_cons_zero, List.set_cons_succ, i64_w, i32_w]
    rfl
  refine pure_ (i := 5) (N := some 14) (v := ?_) (a' := ?_) #[true, true, true, false, true, true, false, false, false, false, false] rfl rfl (by kernel_rfl) (fun _ _ _ h => h) (Or.inl ⟨by rfl, ?_⟩) ?_ ?_
  rotate_left
  · intro w'
    go_simp
    with_reducible rfl
  rotate_left
  · simp only [Act.put, List.setIfInBounds_toArray, List.set_cons_zero, List.set_cons_succ, i64_w, i32_w]
    rfl
  refine pure_ (i := 6) (N := some 15) (v := ?_) (a' := ?_) #[true, true, true, false, true, true, true, false, false, false, false] rfl rfl (by kernel_rfl) (fun _ _ _ h => h) (Or.inl ⟨by rfl, ?_⟩) ?_ ?_
  rotate_left
  · intro w'
    go_simp
    with_reducible rfl
  rotate_left
  · simp only [Act.put, List.setIfInBounds_toArray, List.set_cons_zero, List.set_cons_succ, i64_w, i32_w]
    rfl
  refine take_ (i := 3) (N := some 12) (v := ?_) (a' := ?_) #[true, true, true, true, true, true, true, false, false, false, false] rfl rfl (by kernel_rfl) (fun _ _ _ h => h) (Or.inl ⟨by rfl, ?_⟩) hHeld ?_ ?_
  rotate_left
  · rintro w' ⟨s0, s1, s2, s3, s4, s5, s6, s7, s8⟩
    go_simp
    with_reducible rfl
  rotate_left
  · simp only [Act.put, List.setIfInBounds_toArray, List.set_cons_zero, List.set_cons_succ, i64_w, i32_w]
    rfl
  refine take_ (i := 7) (N := some 16) (v := ?_) (a' := ?_) #[true, true, true, true, true, true, true, true, false, false, false] rfl rfl (by kernel_rfl) (fun _ _ _ h => h) (Or.inl ⟨by rfl, ?_⟩) hHeld ?_ ?_
  rotate_left
  · rintro w' ⟨s0, s1, s2, s3, s4, s5, s6, s7, s8⟩
    go_simp
    with_reducible rfl
  rotate_left
  · simp only [Act.put, List.setIfInBounds_toArray, List.set_cons_zero, List.set_cons_succ, i64_w, i32_w]
    rfl
  refine pure_ (i := 8) (N := some 17) (v := ?_) (a' := ?_) #[true, true, true, true, true, true, true, true, true, false, false] rfl rfl (by kernel_rfl) (fun _ _ _ h => h) (Or.inl ⟨by rfl, ?_⟩) ?_ ?_
  rotate_left
  · intro w'
    go_simp
    with_reducible rfl
  rotate_left
  · simp only [Act.put, List.setIfInBounds_toArray, List.set_cons_zero, List.set_cons_succ, i64_w, i32_w]
    rfl
  refine one_ (i := 9) (N := some 3) #[true, true, true, true, true, true, true, true, true, true, false] rfl rfl (by kernel_rfl) (by decide) (fun K hK => ?_)
  refine value_ (w1 := ?_) (v := ?_) (by rfl) rfl ?_ ?_
  rotate_left 2
  · go_simp
    constructor
    · rfl
    · rfl
  refine hK.out _ _ ⟨(pw_cell_below (below_alloc (Below.refl _ _) _) hHeld.1), (pw_cell_below (below_alloc (Below.refl _ _) _) hHeld.2.1), (pw_cell_below (below_alloc (Below.refl _ _) _) hHeld.2.2.1), (pw_cell_below (below_alloc (Below.refl _ _) _) hHeld.2.2.2.1), (pw_cell_below (below_alloc (Below.refl _ _) _) hHeld.2.2.2.2.1), (pw_cell_below (below_alloc (Below.refl _ _) _) hHeld.2.2.2.2.2.1), (pw_cell_below (below_alloc (Below.refl _ _) _) hHeld.2.2.2.2.2.2.1), (pw_cell_below (below_alloc (Below.refl _ _) _) hHeld.2.2.2.2.2.2.2.1), (pw_cell_below (below_alloc (Below.refl _ _) _) hHeld.2.2.2.2.2.2.2.2)⟩ (fun hHeld => ?_)
  clear hK K
  refine norm_ (a' := ?_) ?_ ?_
  rotate_left
  · show Act.put _ (some 3) _ = _
    simp only [Act.put, List.setIfInBounds_toArray, List.set_cons_zero, List.set_cons_succ, i64_w, i32_w]
    rfl
  refine last_ (i := 10) (N := none) #[true, true, true, true, true, true, true, true, true, true, true] rfl rfl (by kernel_rfl) (by decide) (fun K hK => ?_)
  refine store_new wx.drew (by rfl) 215 (.tmp 3) (.tmp 17) rfl #[.int .u32 0, .int .u32 0, .int .u32 0, .int .u32 0, .int .u32 0, .int .u32 0, .int .u32 0, .int .u32 0, .slice none 0 0, .int .u64 0] (hashA [a0, a1, a2, a3, a4, a5, a6, a7] (.slice none 0 0) N) rfl rfl (congrArg Value.agg (hash_lit _ _ _ _ _ _ _ _ _ _)) (infoHA rfl _ _) (by rw [hashA_size rfl]; rfl) (ones_hash _ _ _ rfl) rfl ?_
  refine hK.out _ _ ?_
  clear hK K
  refine done_ (by kernel_rfl) ?_
  clear c8 c9 c0 c1 c2 c3 c4 c5 c6 c7 hgw
  obtain ⟨p, hp⟩ : ∃ p, wx.heap.size = p := ⟨_, rfl⟩
  have hpw : w.heap.size < p := by rw [← hp, HS0.out]; omega
  obtain ⟨wy, hwy⟩ : ∃ wy, wx.drew.alloc (.cells (hashA [a0, a1, a2, a3, a4, a5, a6, a7] (.slice none 0 0) N) 215) = wy := ⟨_, rfl⟩
  have HD1 := Aside0.mk (show HashV wy p hs (.slice none 0 0) N by rw [← hwy, ← hp, HE.out]; exact blk_new wx.drew _)
  have HZ1 := Aside0.mk (show wy.heap[w.heap.size]? = some (.cells (nums .u8 (fillL (outB (shaW L)) 32 0)).toArray 72 (0, 0)) by rw [← hwy]; exact blk_alloc (blk_drew HZ0.out) _)
  have HB1 := Aside0.mk (show Below w.heap.size w wy by rw [← hwy]; exact below_alloc (below_drew HB0.out) _)
  have HO1 := Aside0.mk (show OwnO (Value.int .u8) wy base 5 (.slice A0 rest.length c0) rest by rw [← hwy]; exact HO0.out.below (below_alloc (below_drew (Below.refl _ _)) _))
  have HG1 := Aside0.mk (show HashV wy g hs (.slice A0 rest.length c0) N by rw [← hwy]; exact blk_alloc (blk_drew HG0.out) _)
  have z1 := HD1.out.c8 H8.out.1
  have z2 := HG1.out.c8 H8.out.1
  obtain ⟨A4, c4, w4, hrun4, hO4, hg4, hat4⟩ := app8O (W := wy.drew) (base := w.heap.size) (OwnO.nil (Value.int .u8) wy.drew w.heap.size 5) (OwnO.rd (HO1.out.below (below_drew (Below.refl _ _)))) HB1.out.size (by simp; omega)
  rw [List.nil_append] at hrun4 hO4
  have hbw : Below wy.drew.heap.size wy.drew w4 := ⟨hg4.os, hg4.tape, hg4.output, hg4.size, fun k hk => hg4.block k hk (by simp [Value.ownBlock])⟩
  have hd4 : HashV w4 p hs (.slice none 0 0) N := blk_below (blk_drew HD1.out) hbw
  have z3 := hd4.c8 H8.out.1
  have z4 := (show HashV w4 g hs (.slice A0 rest.length c0) N from blk_below (blk_drew HG1.out) hbw).c8 H8.out.1
  have f3 := blk_frozen hd4 8
  have HDS := Aside0.mk (show DigS (w4.setCell ⟨p, 8, none⟩ (.slice A4 rest.length c4)) p w.heap.size (.slice A4 rest.length c4) L N by
    rw [DigS, HEH.out, HER.out]
    exact ⟨hd4.s8 H8.out.1 _, hO4.move (fun k hk => Below.heap_setCell w4 _ _ k (fun e => hO4.ne hd4 (by decide) (by rw [hk, e])))⟩)
  have HZ2 := Aside0.mk (blk_far (blk_below (blk_drew HZ1.out) hbw) (p := ⟨p, 8, none⟩) (by show w.heap.size ≠ p; omega) (.slice A4 rest.length c4))
  have HB2 := Aside0.mk (show Below w.heap.size w (w4.setCell ⟨p, 8, none⟩ (.slice A4 rest.length c4)) from (below_step (below_drew HB1.out) hbw).setCell (p := ⟨p, 8, none⟩) (by show w.heap.size ≤ p; omega) _)
  have HR4 := Aside0.mk hrun4
  clear hrun4 hO4 hg4 hat4 hbw hd4
  rw [hwy, hp]
  clear hwy hp HS0 HZ0 HB0 HG0 HO0
  go_wp2_with fail
  refine start_ (n := 9) (S := fun w' => w'.cell? ⟨p, 8, none⟩ = some (.slice none 0 0) ∧ w'.cell? ⟨g, 8, none⟩ = some (.slice A0 rest.length c0)) (ds := [8]) #[false, false, false, false, false, false, false, false, false] (by kernel_rfl) rfl rfl ⟨z1, z2⟩ (fun hHeld => ?_)
  refine pure_ (i := 0) (N := some 18) (v := ?_) (a' := ?_) #[true, false, false, false, false, false, false, false, false] rfl rfl (by kernel_rfl) (fun _ _ _ h => h) (Or.inl ⟨by rfl, ?_⟩) ?_ ?_
  rotate_left
  · intro w'
    go_simp
    with_reducible rfl
  rotate_left
  · simp only [Act.put, List.setIfInBounds_toArray, List.set_cons_zero, List.set_cons_succ, i64_w, i32_w]
    rfl
  refine pure_ (i := 2) (N := some 20) (v := ?_) (a' := ?_) #[true, false, true, false, false, false, false, false, false] rfl rfl (by kernel_rfl) (fun _ _ _ h => h) (Or.inl ⟨by rfl, ?_⟩) ?_ ?_
  rotate_left
  · intro w'
    go_simp
    with_reducible rfl
  rotate_left
  · simp only [Act.put, List.setIfInBounds_toArray, List.set_cons_zero, List.set_cons_succ, i64_w, i32_w]
    rfl
  refine pure_ (i := 3) (N := some 21) (v := ?_) (a' := ?_) #[true, false, true, true, false, false, false, false, false] rfl rfl (by kernel_rfl) (fun _ _ _ h => h) (Or.inl ⟨by rfl, ?_⟩) ?_ ?_
  rotate_left
  · intro w'
    go_simp
    with_reducible rfl
  rotate_left
  · simp only [Act.put, List.setIfInBounds_toArray, List.set_cons_zero, List.set_cons_succ, i64_w, i32_w]
    rfl
  refine pure_ (i := 4) (N := some 22) (v := ?_) (a' := ?_) #[true, false, true, true, true, false, false, false, false] rfl rfl (by kernel_rfl) (fun _ _ _ h => h) (Or.inl ⟨by rfl, ?_⟩) ?_ ?_
  rotate_left
  · intro w'
    go_simp
    with_reducible rfl
  rotate_left
  · simp only [Act.put, List.setIfInBounds_toArray, List.set_cons_zero, List.set_cons_succ, i64_w, i32_w]
    rfl
  refine take_ (i := 1) (N := some 19) (v := ?_) (a' := ?_) #[true, true, true, true, true, false, false, false, false] rfl rfl (by kernel_rfl) (fun _ _ _ h => h) (Or.inl ⟨by rfl, ?_⟩) hHeld ?_ ?_
  rotate_left
  · rintro w' ⟨s0, s1⟩
    go_simp
    with_reducible rfl
  rotate_left
  · simp only [Act.put, List.setIfInBounds_toArray, List.set_cons_zero, List.set_cons_succ, i64_w, i32_w]
    rfl
  refine take_ (i := 5) (N := some 23) (v := ?_) (a' := ?_) #[true, true, true, true, true, true, false, false, false] rfl rfl (by kernel_rfl) (fun _ _ _ h => h) (Or.inl ⟨by rfl, ?_⟩) hHeld ?_ ?_
  rotate_left
  · rintro w' ⟨s0, s1⟩
    go_simp
    with_reducible rfl
  rotate_left
  · simp only [Act.put, List.setIfInBounds_toArray, List.set_cons_zero, List.set_cons_succ, i64_w, i32_w]
    rfl
  refine one_ (i := 6) (N := some 24) #[true, true, true, true, true, true, true, false, false] rfl rfl (by kernel_rfl) (by decide) (fun K hK => ?_)
  refine app_step (by rfl) (.tmp 19) (.tmp 23) rfl rfl rfl HR4.out ?_
  refine hK.out _ _ ⟨z3, z4⟩ (fun hHeld => ?_)
  clear hK K
  refine norm_ (a' := ?_) ?_ ?_
  rotate_left
  · show Act.put _ (some 24) _ = _
    simp only [Act.put, List.setIfInBounds_toArray, List.set_cons_zero, List.set_cons_succ, i64_w, i32_w]
    rfl
  refine pure_ (i := 7) (N := some 25) (v := ?_) (a' := ?_) #[true, true, true, true, true, true, true, true, false] rfl rfl (by kernel_rfl) (fun _ _ _ h => h) (Or.inl ⟨by rfl, ?_⟩) ?_ ?_
  rotate_left
  · intro w'
    go_simp
    with_reducible rfl
  rotate_left
  · simp only [Act.put, List.setIfInBounds_toArray, List.set_cons_zero, List.set_cons_succ, i64_w, i32_w]
    rfl
  refine last_ (i := 8) (N := none) #[true, true, true, true, true, true, true, true, true] rfl rfl (by kernel_rfl) (by decide) (fun K hK => ?_)
  refine skip_ (w1 := ?_) (by rfl) rfl ?_ ?_
  rotate_left
  · go_simp
    rfl
  refine hK.out _ _ ?_
  clear hK K
  refine done_ (by kernel_rfl) ?_
  clear z1 z2 z3 z4 f3 HR4 HD1 HZ1 HB1 HO1 HG1
  obtain ⟨wz, hwz⟩ : ∃ wz, w4.setCell ⟨p, 8, none⟩ (.slice A4 rest.length c4) = wz := ⟨_, rfl⟩
  rw [hwz] at HDS HZ2 HB2 ⊢
  clear hwz
  have z9 := HDS.out.1.c9 (bkN_8 h0L_8 _ _).1
  have hw8 : IntKind.u64.wrap ((N : Int) * 8) = (N : Int) * 8 := by rw [IntKind.wrap_u64]; omega
  have hw9 : (N : Int) * 8 % 18446744073709551616 = (N : Int) * 8 := by omega
  go_wp2_with fail
  refine (Write_calls _ [128] _ p w.heap.size _ L N (HDS.out.below (below_alloc (Below.refl _ _) _)) (lit_rdE (Value.int .u8) 0 wz 5 [128] (by decide)) (HIB.out.app (fun x hx => by simp at hx; omega)) (below_alloc HB2.out _).size (by omega) (by decide) (by omega) (by omega)).mono ?_
  rintro e w5 ⟨rfl, v5, hd5, hk5, ha5⟩
  rw [← padZ_0] at hd5
  obtain ⟨n5, hn5⟩ : ∃ n, (N : Int) + (([128] : List Int).length : Int) = n := ⟨_, rfl⟩
  rw [hn5] at hd5
  have hn5a : n5 = N + 1 := hn5.symm
  have hn5b : 0 ≤ n5 := by omega
  have hn5c : n5 ≤ 100001 := by omega
  have HD5 := Aside0.mk hd5
  have HZ5 := Aside0.mk (hk5.blk (blk_alloc HZ2.out _) (fun h => h.elim (fun e => by omega) (HDS.out.2.ne HZ2.out (by decide))))
  have HB5 := Aside0.mk (Kp.from (below_alloc HB2.out _) hk5 (fun k hk => hk.elim (fun e => by omega) (fun e => HDS.out.2.ge e)))
  clear hd5 hk5 ha5 hn5 hn5a HDS HZ2 HB2 z9
  obtain ⟨Z, hZ⟩ : ∃ Z, zP L = Z := ⟨_, rfl⟩
  have HZZ := Aside0.mk hZ
  have hZ1 : (119 - N % 64) % 64 = Z := by rw [← hZ, zP, HN.out]
  have HZM := Aside0.mk hZ1
  have hZ2 : (N + 1 + Z) % 64 = 56 := by omega
  have hZ3 : Z ≤ 63 := by omega
  clear hZ hZ1
  go_wp2_with fail
  go_loopg [] Z (fun kq w' => ∃ (z : Nat) (v' : Value) (n : Int), z + kq = Z ∧ 0 ≤ n ∧ n ≤ 200000 + z ∧ Aside0 (DigS w' p w.heap.size v' (padZ L z) n) ∧ Aside0 (w'.heap[w.heap.size]? = some (.cells (nums .u8 (fillL (outB (shaW L)) 32 0)).toArray 72 (0, 0))) ∧ Aside0 (Below w.heap.size w w'))
  case atStart => exact ⟨0, v5, n5, by omega, hn5b, by omega, HD5, HZ5, HB5⟩
  case round =>
    clear HD5 HZ5 HB5 hn5b hn5c
    obtain ⟨z, v', n, hz, hn0, hn1, HD, HZ, HB⟩ := hrel
    obtain ⟨A', c', e'⟩ := HD.out.2.slice
    subst e'
    have HLD := Aside0.mk (show ((padZ L z).drop (64 * ((padZ L z).length / 64))).length = (N + 1 + z) % 64 by rw [List.length_drop, padZ_len, HN.out]; omega)
    obtain ⟨rl, erl⟩ : ∃ x, (padZ L z).drop (64 * ((padZ L z).length / 64)) = x := ⟨_, rfl⟩
    have HRL := Aside0.mk erl
    obtain ⟨d, hd⟩ : ∃ d, ((padZ L z).drop (64 * ((padZ L z).length / 64))).length = d := ⟨_, rfl⟩
    rw [hd] at HD HLD
    have hdd : d = (N + 1 + z) % 64 := HLD.out
    have HDD := Aside0.mk hd
    have hcell := HD.out.1.c8 (bkN_8 h0L_8 _ _).1
    clear hd erl
    by_cases c1 : d = 56
    · skip
      obtain rfl : z = Z := by omega
      obtain ⟨hq, ehq⟩ : ∃ x, bkN h0L (padZ L z) ((padZ L z).length / 64) = x := ⟨_, rfl⟩
      have HQ8 := Aside0.mk (show is8 hq by rw [← ehq]; exact bkN_8 h0L_8 _ _)
      have HQE := Aside0.mk ehq
      have HN8 := Aside0.mk (show rl.length = 56 by rw [← HRL.out, HDD.out, c1])
      obtain ⟨hh6, hh7⟩ := HD.out
      rw [ehq] at hh6
      rw [HRL.out] at hh7
      have HH6 := Aside0.mk hh6
      have HO6 := Aside0.mk hh7
      clear HD hh6 hh7 ehq hz hdd
      go_wp2_with fail
      go_loopw [5, 37] (fun v5 v37 w' => ∃ (i : Nat) (v' : Value), i ≤ 8 ∧ v37 = .int .i64 i ∧ Aside0 (HashV w' p hq v' n) ∧ Aside0 (OwnO (Value.int .u8) w' w.heap.size 5 v' (rl ++ be8 N i)) ∧ Aside0 (w'.heap[w.heap.size]? = some (.cells (nums .u8 (fillL (outB (shaW L)) 32 0)).toArray 72 (0, 0))) ∧ Aside0 (Below w.heap.size w w')) (fun _ v37 _ => 8 - (intOf v37).toNat)
      case atStart => exact ⟨0, _, by omega, rfl, HH6, ⟨by simpa [be8] using HO6.out⟩, HZ, HB⟩
      case round =>
        clear HH6 HO6 HZ HB hcell
        obtain ⟨i, v', hi, rfl, HH, HO, HZ, HB⟩ := hrel
        obtain ⟨A5, c5, e5⟩ := HO.out.slice
        subst e5
        have HL5 := Aside0.mk (show (rl ++ be8 N i).length = 56 + i by rw [List.length_append, HN8.out, be8_len])
        rw [HL5.out] at HH HO
        have z1 := HH.out.c8 HQ8.out.1
        by_cases c2 : i < 8
        · obtain ⟨x, hx⟩ : ∃ x, 8 * (N : Int) / 2 ^ (56 - 8 * i) % 256 = x := ⟨_, rfl⟩
          have hx2 : IntKind.u8.wrap (8 * (N : Int) / 2 ^ (56 - 8 * i)) = x := by rw [IntKind.wrap_u8]; exact hx
          have HSU := Aside0.mk (show (rl ++ be8 N i) ++ [x] = rl ++ be8 N (i + 1) by rw [List.append_assoc, ← hx, Int.mul_comm 8, be8_succ])
          have m0 : IntKind.i64.wrap (8 * (i : Int)) = 8 * (i : Int) := by rw [IntKind.wrap_i64]; omega
          have m1 : IntKind.i64.wrap (56 - 8 * (i : Int)) = 56 - 8 * (i : Int) := by rw [IntKind.wrap_i64]; omega
          have m2 : (56 - 8 * (i : Int)).toNat = 56 - 8 * i := by omega
          have m3 : (0 : Int) ≤ 56 - 8 * (i : Int) := by omega
          have m4 : 56 - 8 * (i : Int) ≤ 64 := by omega
          have m5 : 8 * (i : Int) ≤ 56 := by omega
          obtain ⟨A7, c7, w7, hrun7, hO7, hg7, hat7⟩ := app8O (W := wr.drew.alloc (.cells #[.int .u8 x] 5)) (base := w.heap.size) (HO.out.below (below_alloc (below_drew (Below.refl _ _)) _)) (lit_rdE (Value.int .u8) 0 wr.drew 5 [x] (by simp)) (below_alloc (below_drew HB.out) _).size (by rw [HL5.out]; show 56 + i + 1 ≤ _; omega)
          rw [HSU.out] at hrun7 hO7 hat7
          have HL6 := Aside0.mk (show (rl ++ be8 N (i + 1)).length = 57 + i by rw [List.length_append, HN8.out, be8_len]; omega)
          rw [HL6.out] at hrun7 hO7 hat7
          have hh7 : HashV w7 p hq (.slice A5 (56 + i) c5) n := blk_grown (blk_alloc (blk_drew HH.out) _) hg7 (fun e => (HO.out.below (below_alloc (below_drew (Below.refl _ _)) _) : OwnO (Value.int .u8) (wr.drew.alloc (.cells #[.int .u8 x] 5)) w.heap.size 5 _ _).ne (blk_alloc (blk_drew HH.out) _) (by decide) e.symm)
          have z7 := hh7.c8 HQ8.out.1
          have f7 := blk_frozen hh7 8
          have HH8 := Aside0.mk (hh7.s8 HQ8.out.1 (.slice A7 (57 + i) c7))
          have HO8 := Aside0.mk (show OwnO (Value.int .u8) (w7.setCell ⟨p, 8, none⟩ (.slice A7 (57 + i) c7)) w.heap.size 5 (.slice A7 (57 + i) c7) (rl ++ be8 N (i + 1)) from hO7.move (fun k hk => Below.heap_setCell w7 _ _ k (fun e => hO7.ne hh7 (by decide) (by rw [hk, e]))))
          have hz7 : w7.heap[w.heap.size]? = some (.cells (nums .u8 (fillL (outB (shaW L)) 32 0)).toArray 72 (0, 0)) := (Kp.of_grown hg7).blk (blk_alloc (blk_drew HZ.out) _) (fun e => HO.out.ne HZ.out (by decide) e)
          have HZ8 := Aside0.mk (blk_far hz7 (p := ⟨p, 8, none⟩) (by show w.heap.size ≠ p; omega) (.slice A7 (57 + i) c7))
          have HB8 := Aside0.mk (show Below w.heap.size w (w7.setCell ⟨p, 8, none⟩ (.slice A7 (57 + i) c7)) from (Kp.from (below_alloc (below_drew HB.out) _) (Kp.of_grown hg7) (fun k hk => HO.out.ge hk)).setCell (p := ⟨p, 8, none⟩) (by show w.heap.size ≤ p; omega) _)
          have HR7 := Aside0.mk hrun7
          clear hx hrun7 hO7 hg7 hat7 hh7 hz7
          go_wp2_with fail
          refine start_ (n := 12) (S := fun w' => w'.cell? ⟨p, 8, none⟩ = some (.slice A5 (56 + i) c5)) (ds := [11]) #[false, false, false, false, false, false, false, false, false, false, false, false] (by kernel_rfl) rfl rfl (z1) (fun hHeld => ?_)
          refine pure_ (i := 0) (N := some 40) (v := ?_) (a' := ?_) #[true, false, false, false, false, false, false, false, false, false, false, false] rfl rfl (by kernel_rfl) (fun _ _ _ h => h) (Or.inl ⟨by rfl, ?_⟩) ?_ ?_
          rotate_left
          · intro w'
            go_simp
            with_reducible rfl
          rotate_left
          · simp only [Act.put, List.setIfInBounds_toArray, List.set_cons_zero, List.set_cons_succ, i64_w, i32_w]
            rfl
          refine pure_ (i := 2) (N := some 42) (v := ?_) (a' := ?_) #[true, false, true, false, false, false, false, false, false, false, false, false] rfl rfl (by kernel_rfl) (fun _ _ _ h => h) (Or.inl ⟨by rfl, ?_⟩) ?_ ?_
          rotate_left
          · intro w'
            go_simp
            with_reducible rfl
          rotate_left
          · simp only [Act.put, List.setIfInBounds_toArray, List.set_cons_zero, List.set_cons_succ, i64_w, i32_w]
            rfl
          refine pure_ (i := 3) (N := some 43) (v := ?_) (a' := ?_) #[true, false, true, true, false, false, false, false, false, false, false, false] rfl rfl (by kernel_rfl) (fun _ _ _ h => h) (Or.inl ⟨by rfl, ?_⟩) ?_ ?_
          rotate_left
          · intro w'
            go_simp
            with_reducible rfl
          rotate_left
          · simp only [Act.put, List.setIfInBounds_toArray, List.set_cons_zero, List.set_cons_succ, i64_w, i32_w]
            rfl
          refine pure_ (i := 4) (N := some 44) (v := ?_) (a' := ?_) #[true, false, true, true, true, false, false, false, false, false, false, false] rfl rfl (by kernel_rfl) (fun _ _ _ h => h) (Or.inl ⟨by rfl, ?_⟩) ?_ ?_
          rotate_left
          · intro w'
            go_simp
            with_reducible rfl
          rotate_left
          · simp only [Act.put, List.setIfInBounds_toArray, List.set_cons_zero, List.set_cons_succ, i64_w, i32_w]
            rfl
          refine pure_ (i := 5) (N := some 45) (v := ?_) (a' := ?_) #[true, false, true, true, true, true, false, false, false, false, false, false] rfl rfl (by kernel_rfl) (fun _ _ _ h => h) (Or.inl ⟨by rfl, ?_⟩) ?_ ?_
          rotate_left
          · intro w'
            go_simp
            with_reducible rfl
          rotate_left
          · simp only [Act.put, List.setIfInBounds_toArray, List.set_cons_zero, List.set_cons_succ, i64_w, i32_w]
            rfl
          refine pure_ (i := 6) (N := some 46) (v := ?_) (a' := ?_) #[true, false, true, true, true, true, true, false, false, false, false, false] rfl rfl (by kernel_rfl) (fun _ _ _ h => h) (Or.inl ⟨by rfl, ?_⟩) ?_ ?_
          rotate_left
          · intro w'
            go_simp
            with_reducible rfl
          rotate_left
          · simp only [Act.put, List.setIfInBounds_toArray, List.set_cons_zero, List.set_cons_succ, i64_w, i32_w]
            rfl
          refine pure_ (i := 7) (N := some 47) (v := ?_) (a' := ?_) #[true, false, true, true, true, true, true, true, false, false, false, false] rfl rfl (by kernel_rfl) (fun _ _ _ h => h) (Or.inl ⟨by rfl, ?_⟩) ?_ ?_
          rotate_left
          · intro w'
            go_simp
            with_reducible rfl
          rotate_left
          · simp only [Act.put, List.setIfInBounds_toArray, List.set_cons_zero, List.set_cons_succ, i64_w, i32_w]
            rfl
          refine take_ (i := 1) (N := some 41) (v := ?_) (a' := ?_) #[true, true, true, true, true, true, true, true, false, false, false, false] rfl rfl (by kernel_rfl) (fun _ _ _ h => h) (Or.inl ⟨by rfl, ?_⟩) hHeld ?_ ?_
          rotate_left
          · intro w' s0
            go_simp
            with_reducible rfl
          rotate_left
          · simp only [Act.put, List.setIfInBounds_toArray, List.set_cons_zero, List.set_cons_succ, i64_w, i32_w]
            rfl
          refine one_ (i := 8) (N := some 48) #[true, true, true, true, true, true, true, true, true, false, false, false] rfl rfl (by kernel_rfl) (by decide) (fun K hK => ?_)
          refine value_ (w1 := ?_) (v := ?_) (by rfl) rfl ?_ ?_
          rotate_left 2
          · go_simp
            constructor
            · rfl
            · rfl
          refine hK.out _ _ ((pw_cell_below (below_alloc (Below.refl _ _) _) hHeld)) (fun hHeld => ?_)
          clear hK K
          refine norm_ (a' := ?_) ?_ ?_
          rotate_left
          · show Act.put _ (some 48) _ = _
            simp only [Act.put, List.setIfInBounds_toArray, List.set_cons_zero, List.set_cons_succ, i64_w, i32_w]
            rfl
          refine one_ (i := 9) (N := some 49) #[true, true, true, true, true, true, true, true, true, true, false, false] rfl rfl (by kernel_rfl) (by decide) (fun K hK => ?_)
          refine app_step (by rfl) (.tmp 41) (.tmp 48) rfl rfl rfl HR7.out ?_
          refine hK.out _ _ (z7) (fun hHeld => ?_)
          clear hK K
          refine norm_ (a' := ?_) ?_ ?_
          rotate_left
          · show Act.put _ (some 49) _ = _
            simp only [Act.put, List.setIfInBounds_toArray, List.set_cons_zero, List.set_cons_succ, i64_w, i32_w]
            rfl
          refine pure_ (i := 10) (N := some 50) (v := ?_) (a' := ?_) #[true, true, true, true, true, true, true, true, true, true, true, false] rfl rfl (by kernel_rfl) (fun _ _ _ h => h) (Or.inl ⟨by rfl, ?_⟩) ?_ ?_
          rotate_left
          · intro w'
            go_simp
            with_reducible rfl
          rotate_left
          · simp only [Act.put, List.setIfInBounds_toArray, List.set_cons_zero, List.set_cons_succ, i64_w, i32_w]
            rfl
          refine last_ (i := 11) (N := none) #[true, true, true, true, true, true, true, true, true, true, true, true] rfl rfl (by kernel_rfl) (by decide) (fun K hK => ?_)
          refine skip_ (w1 := ?_) (by rfl) rfl ?_ ?_
          rotate_left
          · go_simp
            rfl
          refine hK.out _ _ ?_
          clear hK K
          refine done_ (by kernel_rfl) ?_
          clear z1 z7 f7 HR7 hx2 m0 m1 m2 m3 m4 m5
          go_wp2_with fail
          go_roundw
          case rel => exact ⟨i + 1, _, by omega, by go_num, HH8, HO8, HZ8, HB8⟩
          case measure => simp [intOf] <;> omega
        · skip
          obtain rfl : i = 8 := by omega
          simp only [Nat.reduceAdd] at HH HO z1
          have HI := Aside0.mk (show isB (rl ++ be8 N 8) by rw [← HRL.out]; exact ((padZ_isB HIB.out z).drop _).app (be8_isB _ _))
          have HW := Aside0.mk (show blkP hq (rl ++ be8 N 8) = shaW L by
            rw [← HQE.out, ← HRL.out]
            have := sha_last L z HZZ.out.symm
            rw [HN.out] at this
            exact this)
          go_wp2_with fail
          refine (block_calls _ (rl ++ be8 N 8) _ p hq _ n HH.out HQ8.out (OwnO.rd HO.out) HI.out HL5.out).mono ?_
          rintro e w6 ⟨rfl, hs6, hk6⟩
          rw [HW.out] at hs6
          have HZ6 := Aside0.mk (hk6.blk HZ.out (fun e => by omega))
          have HB6 := Aside0.mk (Kp.from HB.out hk6 (fun k hk => by omega))
          have h8 := bkN_8 h0L_8 (padP L) ((padP L).length / 64)
          have h8 : is8 (shaW L) := h8
          have HW8 := Aside0.mk h8
          obtain ⟨b0, b1, b2, b3, b4, b5, b6, b7, eW, ⟨lo0, hi0⟩, ⟨lo1, hi1⟩, ⟨lo2, hi2⟩, ⟨lo3, hi3⟩, ⟨lo4, hi4⟩, ⟨lo5, hi5⟩, ⟨lo6, hi6⟩, ⟨lo7, hi7⟩⟩ := list8 h8
          have HEW := Aside0.mk eW
          have hGG := hashA_get h8.1 (.slice A5 64 c5) n
          have hGw := blk_alloc hs6 (.cells #[.int .u8 0, .int .u8 0, .int .u8 0, .int .u8 0, .int .u8 0, .int .u8 0, .int .u8 0, .int .u8 0, .int .u8 0, .int .u8 0, .int .u8 0, .int .u8 0, .int .u8 0, .int .u8 0, .int .u8 0, .int .u8 0, .int .u8 0, .int .u8 0, .int .u8 0, .int .u8 0, .int .u8 0, .int .u8 0, .int .u8 0, .int .u8 0, .int .u8 0, .int .u8 0, .int .u8 0, .int .u8 0, .int .u8 0, .int .u8 0, .int .u8 0, .int .u8 0] 72)
          have c0 := (blk_cell hGw 0).trans (hGG 0 (by omega))
          have c1 := (blk_cell hGw 1).trans (hGG 1 (by omega))
          have c2 := (blk_cell hGw 2).trans (hGG 2 (by omega))
          have c3 := (blk_cell hGw 3).trans (hGG 3 (by omega))
          have c4 := (blk_cell hGw 4).trans (hGG 4 (by omega))
          have c5' := (blk_cell hGw 5).trans (hGG 5 (by omega))
          have c6 := (blk_cell hGw 6).trans (hGG 6 (by omega))
          have c7 := (blk_cell hGw 7).trans (hGG 7 (by omega))
          rw [eW] at c0 c1 c2 c3 c4 c5' c6 c7
          have HA0 := Aside0.mk (show (w6.alloc (.cells #[.int .u8 0, .int .u8 0, .int .u8 0, .int .u8 0, .int .u8 0, .int .u8 0, .int .u8 0, .int .u8 0, .int .u8 0, .int .u8 0, .int .u8 0, .int .u8 0, .int .u8 0, .int .u8 0, .int .u8 0, .int .u8 0, .int .u8 0, .int .u8 0, .int .u8 0, .int .u8 0, .int .u8 0, .int .u8 0, .int .u8 0, .int .u8 0, .int .u8 0, .int .u8 0, .int .u8 0, .int .u8 0, .int .u8 0, .int .u8 0, .int .u8 0, .int .u8 0] 72)).heap[w6.heap.size]? = some (.cells (nums .u8 (fillL (outB (shaW L)) 32 (4 * 0))).toArray 72 (0, 0)) from blk_new w6 _)
          have HZ7 := Aside0.mk (blk_alloc HZ6.out (.cells #[.int .u8 0, .int .u8 0, .int .u8 0, .int .u8 0, .int .u8 0, .int .u8 0, .int .u8 0, .int .u8 0, .int .u8 0, .int .u8 0, .int .u8 0, .int .u8 0, .int .u8 0, .int .u8 0, .int .u8 0, .int .u8 0, .int .u8 0, .int .u8 0, .int .u8 0, .int .u8 0, .int .u8 0, .int .u8 0, .int .u8 0, .int .u8 0, .int .u8 0, .int .u8 0, .int .u8 0, .int .u8 0, .int .u8 0, .int .u8 0, .int .u8 0, .int .u8 0] 72))
          have HB7 := Aside0.mk (below_alloc HB6.out (.cells #[.int .u8 0, .int .u8 0, .int .u8 0, .int .u8 0, .int .u8 0, .int .u8 0, .int .u8 0, .int .u8 0, .int .u8 0, .int .u8 0, .int .u8 0, .int .u8 0, .int .u8 0, .int .u8 0, .int .u8 0, .int .u8 0, .int .u8 0, .int .u8 0, .int .u8 0, .int .u8 0, .int .u8 0, .int .u8 0, .int .u8 0, .int .u8 0, .int .u8 0, .int .u8 0, .int .u8 0, .int .u8 0, .int .u8 0, .int .u8 0, .int .u8 0, .int .u8 0] 72))
          have hwo : w.heap.size < w6.heap.size := blk_lt HZ6.out
          clear hs6 hk6 h8 eW hGG hGw lo0 hi0 lo1 hi1 lo2 hi2 lo3 hi3 lo4 hi4 lo5 hi5 lo6 hi6 lo7 hi7 HZ HB HH HO z1 HZ6 HB6
          go_wp2_with fail
          rw [show (#[.int .u32 b0, .int .u32 b1, .int .u32 b2, .int .u32 b3, .int .u32 b4, .int .u32 b5, .int .u32 b6, .int .u32 b7] : Array Value) = (nums .u32 (shaW L)).toArray from by rw [HEW.out]; rfl]
          obtain ⟨wq, hwq⟩ : ∃ wq, w6.alloc (.cells #[.int .u8 0, .int .u8 0, .int .u8 0, .int .u8 0, .int .u8 0, .int .u8 0, .int .u8 0, .int .u8 0, .int .u8 0, .int .u8 0, .int .u8 0, .int .u8 0, .int .u8 0, .int .u8 0, .int .u8 0, .int .u8 0, .int .u8 0, .int .u8 0, .int .u8 0, .int .u8 0, .int .u8 0, .int .u8 0, .int .u8 0, .int .u8 0, .int .u8 0, .int .u8 0, .int .u8 0, .int .u8 0, .int .u8 0, .int .u8 0, .int .u8 0, .int .u8 0] 72) = wq := ⟨_, rfl⟩
          obtain ⟨o, ho⟩ : ∃ o, w6.heap.size = o := ⟨_, rfl⟩
          rw [hwq] at HA0 HZ7 HB7 ⊢
          rw [ho] at HA0 hwo ⊢
          clear hwq ho c0 c1 c2 c3 c4 c5' c6 c7 HEW
          go_loopw [7, 8, 57] (fun v7 v8 v57 w' => ∃ i : Nat, i ≤ 8 ∧ v57 = .int .i64 i ∧ Aside0 (w'.heap[o]? = some (.cells (nums .u8 (fillL (outB (shaW L)) 32 (4 * i))).toArray 72 (0, 0))) ∧ Aside0 (w'.heap[w.heap.size]? = some (.cells (nums .u8 (fillL (outB (shaW L)) 32 0)).toArray 72 (0, 0))) ∧ Aside0 (Below w.heap.size w w')) (fun _ _ v57 _ => 8 - (intOf v57).toNat)
          case atStart => exact ⟨0, by omega, rfl, HA0, HZ7, HB7⟩
          case round =>
            clear HA0 HZ7 HB7
            obtain ⟨i, hi, rfl, HA, HZ, HB⟩ := hrel
            by_cases c3 : i < 8
            · obtain ⟨x, ex⟩ : ∃ x, (shaW L).getD i 0 = x := ⟨_, rfl⟩
              have hidx := nums_get .u32 (shaW L) i (by rw [HW8.out.1]; exact c3)
              rw [ex] at hidx
              obtain ⟨x0, x1⟩ : 0 ≤ x ∧ x ≤ 4294967295 := by
                rw [← ex, List.getD_eq_getElem?_getD, List.getElem?_eq_getElem (by rw [HW8.out.1]; exact c3)]
                exact HW8.out.2 _ (List.getElem_mem _)
              have HV0 := Aside0.mk (show outB (shaW L) (4 * i) = x / 16777216 from (outB_at _ i 0 (by omega)).trans (by rw [ex]; simp; omega))
              have HV1 := Aside0.mk (show outB (shaW L) (4 * i + 1) = x / 65536 % 256 from (outB_at _ i 1 (by omega)).trans (by rw [ex]; simp))
              have HV2 := Aside0.mk (show outB (shaW L) (4 * i + 2) = x / 256 % 256 from (outB_at _ i 2 (by omega)).trans (by rw [ex]; simp))
              have HV3 := Aside0.mk (show outB (shaW L) (4 * i + 3) = x % 256 from (outB_at _ i 3 (by omega)).trans (by rw [ex]; show x / 1 % 256 = _; rw [Int.ediv_one]))
              have hix := index8 (shaW L) x i c3 hidx
              clear ex hidx
              have m0 : IntKind.i64.wrap (4 * (i : Int)) = 4 * (i : Int) := by rw [IntKind.wrap_i64]; omega
              have m1 : IntKind.i64.wrap (4 * (i : Int) + 1) = 4 * (i : Int) + 1 := by rw [IntKind.wrap_i64]; omega
              have m2 : IntKind.i64.wrap (4 * (i : Int) + 2) = 4 * (i : Int) + 2 := by rw [IntKind.wrap_i64]; omega
              have m3 : IntKind.i64.wrap (4 * (i : Int) + 3) = 4 * (i : Int) + 3 := by rw [IntKind.wrap_i64]; omega
              have n0 : (4 * (i : Int)).toNat = 4 * i := by omega
              have n1 : (4 * (i : Int) + 1).toNat = 4 * i + 1 := by omega
              have n2 : (4 * (i : Int) + 2).toNat = 4 * i + 2 := by omega
              have n3 : (4 * (i : Int) + 3).toNat = 4 * i + 3 := by omega
              have f0 := blk_frozen HA.out (4 * i)
              have f1 := blk_frozen HA.out (4 * i + 1)
              have f2 := blk_frozen HA.out (4 * i + 2)
              have f3 := blk_frozen HA.out (4 * i + 3)
              obtain ⟨y0, k0⟩ : ∃ y, wr.cell? ⟨o, 4 * i, none⟩ = some y := ⟨_, (blk_cell HA.out _).trans (Array.getElem?_eq_getElem (by rw [List.size_toArray, nums_len, fillL_len _ _ _ (by omega)]; omega))⟩
              obtain ⟨y1, k1⟩ : ∃ y, wr.cell? ⟨o, 4 * i + 1, none⟩ = some y := ⟨_, (blk_cell HA.out _).trans (Array.getElem?_eq_getElem (by rw [List.size_toArray, nums_len, fillL_len _ _ _ (by omega)]; omega))⟩
              obtain ⟨y2, k2⟩ : ∃ y, wr.cell? ⟨o, 4 * i + 2, none⟩ = some y := ⟨_, (blk_cell HA.out _).trans (Array.getElem?_eq_getElem (by rw [List.size_toArray, nums_len, fillL_len _ _ _ (by omega)]; omega))⟩
              obtain ⟨y3, k3⟩ : ∃ y, wr.cell? ⟨o, 4 * i + 3, none⟩ = some y := ⟨_, (blk_cell HA.out _).trans (Array.getElem?_eq_getElem (by rw [List.size_toArray, nums_len, fillL_len _ _ _ (by omega)]; omega))⟩
              have HA2 := Aside0.mk (show ((((wr.setCell ⟨o, 4 * i, none⟩ (.int .u8 (x / 16777216))).setCell ⟨o, 4 * i + 1, none⟩ (.int .u8 (x / 65536 % 256))).setCell ⟨o, 4 * i + 2, none⟩ (.int .u8 (x / 256 % 256))).setCell ⟨o, 4 * i + 3, none⟩ (.int .u8 (x % 256))).heap[o]? = some (.cells (nums .u8 (fillL (outB (shaW L)) 32 (4 * (i + 1)))).toArray 72 (0, 0)) by
                rw [blk_set (blk_set (blk_set (blk_set HA.out _ _) _ _) _ _) _ _, nums_set, nums_set, nums_set, nums_set, fill4 _ i (by omega) HV0.out HV1.out HV2.out HV3.out])
              have HZ4 := Aside0.mk (blk_far (blk_far (blk_far (blk_far HZ.out (p := ⟨o, 4 * i, none⟩) (by show w.heap.size ≠ o; omega) (.int .u8 (x / 16777216))) (p := ⟨o, 4 * i + 1, none⟩) (by show w.heap.size ≠ o; omega) (.int .u8 (x / 65536 % 256))) (p := ⟨o, 4 * i + 2, none⟩) (by show w.heap.size ≠ o; omega) (.int .u8 (x / 256 % 256))) (p := ⟨o, 4 * i + 3, none⟩) (by show w.heap.size ≠ o; omega) (.int .u8 (x % 256)))
              have HB4 := Aside0.mk (show Below w.heap.size w ((((wr.setCell ⟨o, 4 * i, none⟩ (.int .u8 (x / 16777216))).setCell ⟨o, 4 * i + 1, none⟩ (.int .u8 (x / 65536 % 256))).setCell ⟨o, 4 * i + 2, none⟩ (.int .u8 (x / 256 % 256))).setCell ⟨o, 4 * i + 3, none⟩ (.int .u8 (x % 256))) from (((HB.out.setCell (p := ⟨o, 4 * i, none⟩) (by show w.heap.size ≤ o; omega) _).setCell (p := ⟨o, 4 * i + 1, none⟩) (by show w.heap.size ≤ o; omega) _).setCell (p := ⟨o, 4 * i + 2, none⟩) (by show w.heap.size ≤ o; omega) _).setCell (p := ⟨o, 4 * i + 3, none⟩) (by show w.heap.size ≤ o; omega) _)
              go_wp2_with fail
              refine ⟨⟨i + 1, by omega, by go_num, HA2, HZ4, HB4⟩, ?_⟩
              simp [intOf] <;> omega
            · obtain rfl : i = 8 := by omega
              have HA2 := Aside0.mk (show wr.heap[o]? = some (.cells (nums .u8 (shaP L)).toArray 72 (0, 0)) by rw [← sha_fill]; exact HA.out)
              have HT := Aside0.mk (there32 L HZ.out)
              have H1 := Aside0.mk (ones_nums .u8 (shaP L))
              clear HA HZ
              go_wp2_with (first | (refine wpList_load_mid rfl 72 (.tmp 6) rfl o 0 rfl (nums .u8 (shaP L)) (.array 32 5) (range_blk HA2.out) Try.underlying72 rfl (info32L L) ?_) | (refine wpList_store_mid rfl 72 (.tmp 2) (.tmp 88) rfl w.heap.size 0 (nums .u8 (shaP L)).toArray rfl rfl HT.out (info32A L) H1.out ?_))
              exact bodyPost_ret (results_cell (i := 2) rfl rfl (run_loadVar_mid _ w.heap.size 0 72 (nums .u8 (shaP L)) (.array 32 5) (World.rangeAt_setCells_same _ _ _ _ HT.out) Try.underlying72 rfl (info32L L))) rfl ⟨rfl, below_cells (Nat.le_refl _) _ _ _ HB.out⟩
    · have c1' : ¬ ((d : Int) = 56) := by omega
      have hzz : z < Z := by omega
      clear hdd
      go_wp2_with fail
      refine (Write_calls _ [0] _ p w.heap.size _ (padZ L z) n (HD.out.below (below_alloc (Below.refl _ _) _)) (lit_rdE (Value.int .u8) 0 wr 5 [0] (by decide)) ((padZ_isB HIB.out z).app (fun x hx => by simp at hx; omega)) (below_alloc HB.out _).size (by omega) (by decide) (by omega) (by omega)).mono ?_
      rintro e w6 ⟨rfl, v6, hd6, hk6, ha6⟩
      rw [padZ_succ] at hd6
      have HD6 := Aside0.mk hd6
      have HZ6 := Aside0.mk (hk6.blk (blk_alloc HZ.out _) (fun h => h.elim (fun e => by omega) (HD.out.2.ne HZ.out (by decide))))
      have HB6 := Aside0.mk (Kp.from (below_alloc HB.out _) hk6 (fun k hk => hk.elim (fun e => by omega) (fun e => HD.out.2.ge e)))
      clear hd6 hk6 ha6
      go_wp2_with fail
      go_roundg (Z - (z + 1))
      case measure => omega
      case rel => exact ⟨z + 1, _, _, by omega, by simp; omega, by simp; omega, HD6, HZ6, HB6⟩
end Go.Proofs.Ytplmdgimodgekaa
