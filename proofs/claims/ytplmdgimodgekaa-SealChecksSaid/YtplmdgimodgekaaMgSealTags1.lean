import Derived.Test.YtplmdgimodgekaaDigY
import Derived.Test.YtplmdgimodgekaaWriter
import Derived.Lib.SlBytesConst
import Derived.Lib.SmallJoins
import Derived.Test.YtplmdgimodgekaaReader2
set_option linter.unusedVariables false
set_option linter.unusedSimpArgs false
section
/- Seals: keys. -/
namespace Go.Proofs.Ytplmdgimodgekaa
open Go.RowKit Go.Proofs.YtplmdgimodgekaaW.PrintWords Go.Proofs.YtplmdgimodgekaaW.PrintLast Go.Proofs.YtplmdgimodgekaaW.PrintMore
attribute [local go_sem] max2_int min2_int max_two min_two max_three min_three max_four min_four
def bgP (s : List Int) : List Int := kyP [98, 101, 103, 105, 110] s
def afP (k : List Int) : List Int := kyP [97, 102, 116, 101, 114] k
/-- The key of an epoch. -/
def keyE (s : List Int) : Nat → List Int
  | 0 => bgP s
  | n + 1 => afP (keyE s n)
theorem kyP_len (k s : List Int) : (kyP k s).length = 32 := shaP_len _
theorem kyP_isB (k s : List Int) : isB (kyP k s) := shaP_isB _
theorem bgP_len (s : List Int) : (bgP s).length = 32 := kyP_len _ _
theorem afP_len (s : List Int) : (afP s).length = 32 := kyP_len _ _
theorem bgP_isB (s : List Int) : isB (bgP s) := kyP_isB _ _
theorem afP_isB (s : List Int) : isB (afP s) := kyP_isB _ _
theorem keyE_len (s : List Int) : ∀ n, (keyE s n).length = 32
  | 0 => bgP_len s
  | n + 1 => afP_len _
theorem keyE_isB (s : List Int) : ∀ n, isB (keyE s n)
  | 0 => bgP_isB s
  | n + 1 => afP_isB _
theorem info32S {l : List Int} (h : l.length = 32) : (Try.prog.info? 72).map (·.size) = some (nums .u8 l).toArray.size := by rw [List.size_toArray]; exact info32N h
theorem sz32S {l : List Int} (h : l.length = 32) : 32 = (nums .u8 l).toArray.size := by rw [List.size_toArray, nums_len, h]
theorem there32S {W : World} {b T : Nat} {l m : List Int} (hl : l.length = 32) (hm : m.length = 32) (H : W.heap[b]? = some (.cells (nums .u8 m).toArray T (0, 0))) : W.there b 0 (nums .u8 l).toArray.size := by
  have := there_blk H
  rw [List.size_toArray, nums_len, hm] at this
  rw [List.size_toArray, nums_len, hl]; exact this
/-- Cells stored into the middle of a block. -/
theorem blk_setCells {b T : Nat} : ∀ (vs pre mid post : List Value) (W : World), W.heap[b]? = some (.cells (pre ++ mid ++ post).toArray T (0, 0)) → vs.length = mid.length → (W.setCells b pre.length vs).heap[b]? = some (.cells (pre ++ vs ++ post).toArray T (0, 0))
  | [], pre, [], post, W, h, _ => h
  | v :: r, pre, m :: mid, post, W, h, hl => by
    rw [World.setCells]
    have h1 := blk_set h pre.length v
    have e : ((pre ++ m :: mid ++ post).toArray.setIfInBounds pre.length v) = ((pre ++ [v]) ++ mid ++ post).toArray := by simp
    rw [e] at h1
    have := blk_setCells r (pre ++ [v]) mid post _ h1 (by simpa using hl)
    simpa using this
  | [], pre, _ :: _, post, W, h, hl => by simp at hl
  | _ :: _, pre, [], post, W, h, hl => by simp at hl
theorem kp_cells {b : Nat} : ∀ (vs : List Value) (o : Nat) (W : World), Kp (fun k => k = b) W (W.setCells b o vs)
  | [], _, W => Kp.refl _ _
  | v :: r, o, W => by rw [World.setCells]; exact (Kp.set W ⟨b, o, none⟩ v).trans (kp_cells r (o + 1) _) (fun k hk => .inl hk)
/-- A constant's row of bytes, with the run-time's mark. -/
theorem lit_mark (W : World) (e : TypeId) (xs : List Int) (fr : Nat × Nat) (hm : xs.length ≤ 9223372036854775807) : Rd (W.alloc (.cells (nums .u8 xs).toArray e fr)) .u8 (.slice (some ⟨W.heap.size, 0, none⟩) xs.length xs.length) xs := by
  refine ⟨_, _, rfl, Nat.le_refl _, rfl, hm, fun _ => ⟨_, rfl, fun i hi => ?_⟩⟩
  rw [Addr.add_mid, Nat.zero_add, World.cell?_alloc_mark]
  simp [nums, List.getD_eq_getElem?_getD, List.getElem?_eq_getElem hi]
/-- A range of a block, as a slice. -/
theorem rd_range {W : World} {b o n c : Nat} {l : List Int} (h : W.rangeAt b o (nums .u8 l)) (hl : l.length = n) (hn : n ≤ c) (hm : n ≤ 9223372036854775807) : Rd W .u8 (.slice (some ⟨b, o, none⟩) n c) l := by
  subst hl
  refine ⟨_, _, rfl, hn, rfl, hm, fun _ => ⟨_, rfl, fun i hi => ?_⟩⟩
  rw [Addr.add_mid]
  exact h i _ (by simp [nums, List.getD_eq_getElem?_getD, List.getElem?_eq_getElem hi])
theorem range_below {W W1 : World} {b o : Nat} {cs : List Value} (h : W.rangeAt b o cs) (hb : Below W.heap.size W W1) : W1.rangeAt b o cs := fun j v hv => pw_cell_below hb (h j v hv)
set_option maxHeartbeats 8000000 in
set_option maxRecDepth 100000 in
theorem begin_calls (u : Value) (s : List Int) (w : World) (hr : Rd w .u8 u s) (hib : isB s) (hL : s.length ≤ 90000) :
    Calls Try.prog 66 #[u] w fun e w' => e = .returned (.agg (nums .u8 (bgP s)).toArray) ∧ Below w.heap.size w w' := by
  obtain ⟨A0, c0, ev, _⟩ := hr.mid
  subst ev
  have HR := Aside0.mk hr
  have HIB := Aside0.mk hib
  have HL := Aside0.mk hL
  have HZ0 := Aside0.mk (show (w.alloc (.cells #[.int .u8 0, .int .u8 0, .int .u8 0, .int .u8 0, .int .u8 0, .int .u8 0, .int .u8 0, .int .u8 0, .int .u8 0, .int .u8 0, .int .u8 0, .int .u8 0, .int .u8 0, .int .u8 0, .int .u8 0, .int .u8 0, .int .u8 0, .int .u8 0, .int .u8 0, .int .u8 0, .int .u8 0, .int .u8 0, .int .u8 0, .int .u8 0, .int .u8 0, .int .u8 0, .int .u8 0, .int .u8 0, .int .u8 0, .int .u8 0, .int .u8 0, .int .u8 0] 72)).heap[w.heap.size]? = some (.cells (nums .u8 (List.replicate 32 0)).toArray 72 (0, 0)) from blk_new w _)
  have HB0 := Aside0.mk (below_alloc (Below.refl w.heap.size w) (.cells #[.int .u8 0, .int .u8 0, .int .u8 0, .int .u8 0, .int .u8 0, .int .u8 0, .int .u8 0, .int .u8 0, .int .u8 0, .int .u8 0, .int .u8 0, .int .u8 0, .int .u8 0, .int .u8 0, .int .u8 0, .int .u8 0, .int .u8 0, .int .u8 0, .int .u8 0, .int .u8 0, .int .u8 0, .int .u8 0, .int .u8 0, .int .u8 0, .int .u8 0, .int .u8 0, .int .u8 0, .int .u8 0, .int .u8 0, .int .u8 0, .int .u8 0, .int .u8 0] 72))
  clear hr hib hL
  go_enter Try.func66, Try.ntmps66
  go_upto_region 1 with fail
  obtain ⟨wx, hwx⟩ : ∃ wx, w.alloc (.cells #[.int .u8 0, .int .u8 0, .int .u8 0, .int .u8 0, .int .u8 0, .int .u8 0, .int .u8 0, .int .u8 0, .int .u8 0, .int .u8 0, .int .u8 0, .int .u8 0, .int .u8 0, .int .u8 0, .int .u8 0, .int .u8 0, .int .u8 0, .int .u8 0, .int .u8 0, .int .u8 0, .int .u8 0, .int .u8 0, .int .u8 0, .int .u8 0, .int .u8 0, .int .u8 0, .int .u8 0, .int .u8 0, .int .u8 0, .int .u8 0, .int .u8 0, .int .u8 0] 72) = wx := ⟨_, rfl⟩
  rw [hwx] at HZ0 HB0 ⊢
  clear hwx
  have hcv := Lib.run_convert_bytes_const (P := Try.prog) wx 37 5 #[.int .u8 98, .int .u8 101, .int .u8 103, .int .u8 105, .int .u8 110] 5 5 Try.underlying37 Try.underlying5
  have HB1 := Aside0.mk (below_alloc (Below.refl wx.heap.size wx) (.cells #[.int .u8 98, .int .u8 101, .int .u8 103, .int .u8 105, .int .u8 110] 5 (5, 6)))
  have HLT := Aside0.mk (show Rd (wx.alloc (.cells #[.int .u8 98, .int .u8 101, .int .u8 103, .int .u8 105, .int .u8 110] 5 (5, 6))) .u8 (.slice (some ⟨wx.heap.size, 0, none⟩) 5 5) [98, 101, 103, 105, 110] from lit_mark wx 5 [98, 101, 103, 105, 110] (5, 6) (by decide))
  go_wp2_with fail
  with_reducible refine (dKeyed_calls _ _ [98, 101, 103, 105, 110] s _ HLT.out (lit_isB (by decide)) (HR.out.below (below_step HB0.out HB1.out)) HIB.out HL.out (by decide)).mono ?_
  rintro e w3 ⟨rfl, hb⟩
  have HB3 := Aside0.mk (below_step (below_step HB0.out HB1.out) hb)
  have HT := Aside0.mk (there32S (bgP_len s) List.length_replicate (blk_below HZ0.out (below_step HB1.out hb)))
  have H1 := Aside0.mk (ones_nums .u8 (bgP s))
  rw [show kyP [98, 101, 103, 105, 110] s = bgP s from rfl]
  clear hb
  go_wp2_with (first | (refine wpList_store_mid rfl 72 (.tmp 2) (.tmp 6) rfl w.heap.size 0 (nums .u8 (bgP s)).toArray rfl rfl HT.out (info32S (bgP_len s)) H1.out ?_))
  exact bodyPost_ret (results_cell (i := 2) rfl rfl (run_loadVar_mid _ w.heap.size 0 72 (nums .u8 (bgP s)) (.array 32 5) (World.rangeAt_setCells_same _ _ _ _ HT.out) Try.underlying72 rfl (info32N (bgP_len s)))) rfl ⟨rfl, below_cells (Nat.le_refl _) _ _ _ HB3.out⟩
set_option maxHeartbeats 8000000 in
set_option maxRecDepth 100000 in
theorem after_calls (k : List Int) (w : World) (hl : k.length = 32) (hib : isB k) :
    Calls Try.prog 67 #[.agg (nums .u8 k).toArray] w fun e w' => e = .returned (.agg (nums .u8 (afP k)).toArray) ∧ Below w.heap.size w w' := by
  have HIB := Aside0.mk hib
  have HL := Aside0.mk hl
  have HA := Aside0.mk (blk_new w (.cells (nums .u8 k).toArray 72))
  have HBA := Aside0.mk (below_alloc (Below.refl w.heap.size w) (.cells (nums .u8 k).toArray 72))
  clear hib hl
  go_enter Try.func67, Try.ntmps67
  have HZ0 := Aside0.mk (show ((w.alloc (.cells (nums .u8 k).toArray 72)).alloc (.cells #[.int .u8 0, .int .u8 0, .int .u8 0, .int .u8 0, .int .u8 0, .int .u8 0, .int .u8 0, .int .u8 0, .int .u8 0, .int .u8 0, .int .u8 0, .int .u8 0, .int .u8 0, .int .u8 0, .int .u8 0, .int .u8 0, .int .u8 0, .int .u8 0, .int .u8 0, .int .u8 0, .int .u8 0, .int .u8 0, .int .u8 0, .int .u8 0, .int .u8 0, .int .u8 0, .int .u8 0, .int .u8 0, .int .u8 0, .int .u8 0, .int .u8 0, .int .u8 0] 72)).heap[w.heap.size + 1]? = some (.cells (nums .u8 (List.replicate 32 0)).toArray 72 (0, 0)) by rw [show w.heap.size + 1 = (w.alloc (.cells (nums .u8 k).toArray 72)).heap.size from (Array.size_push _).symm]; exact blk_new _ _)
  have HAK := Aside0.mk (blk_alloc HA.out (.cells #[.int .u8 0, .int .u8 0, .int .u8 0, .int .u8 0, .int .u8 0, .int .u8 0, .int .u8 0, .int .u8 0, .int .u8 0, .int .u8 0, .int .u8 0, .int .u8 0, .int .u8 0, .int .u8 0, .int .u8 0, .int .u8 0, .int .u8 0, .int .u8 0, .int .u8 0, .int .u8 0, .int .u8 0, .int .u8 0, .int .u8 0, .int .u8 0, .int .u8 0, .int .u8 0, .int .u8 0, .int .u8 0, .int .u8 0, .int .u8 0, .int .u8 0, .int .u8 0] 72))
  have HB0 := Aside0.mk (below_alloc HBA.out (.cells #[.int .u8 0, .int .u8 0, .int .u8 0, .int .u8 0, .int .u8 0, .int .u8 0, .int .u8 0, .int .u8 0, .int .u8 0, .int .u8 0, .int .u8 0, .int .u8 0, .int .u8 0, .int .u8 0, .int .u8 0, .int .u8 0, .int .u8 0, .int .u8 0, .int .u8 0, .int .u8 0, .int .u8 0, .int .u8 0, .int .u8 0, .int .u8 0, .int .u8 0, .int .u8 0, .int .u8 0, .int .u8 0, .int .u8 0, .int .u8 0, .int .u8 0, .int .u8 0] 72))
  go_upto_region 1 with (first | (refine wpList_store_fresh rfl 72 (.tmp 1) (.tmp 0) rfl _ (nums .u8 k).toArray rfl rfl (info32S HL.out) (sz32S HL.out) (ones_nums _ _) ?_))
  obtain ⟨wx, hwx⟩ : ∃ wx, (w.alloc (.cells (nums .u8 k).toArray 72)).alloc (.cells #[.int .u8 0, .int .u8 0, .int .u8 0, .int .u8 0, .int .u8 0, .int .u8 0, .int .u8 0, .int .u8 0, .int .u8 0, .int .u8 0, .int .u8 0, .int .u8 0, .int .u8 0, .int .u8 0, .int .u8 0, .int .u8 0, .int .u8 0, .int .u8 0, .int .u8 0, .int .u8 0, .int .u8 0, .int .u8 0, .int .u8 0, .int .u8 0, .int .u8 0, .int .u8 0, .int .u8 0, .int .u8 0, .int .u8 0, .int .u8 0, .int .u8 0, .int .u8 0] 72) = wx := ⟨_, rfl⟩
  rw [hwx] at HZ0 HB0 HAK ⊢
  clear hwx HA HBA
  have hcv := Lib.run_convert_bytes_const (P := Try.prog) wx 37 5 #[.int .u8 97, .int .u8 102, .int .u8 116, .int .u8 101, .int .u8 114] 5 5 Try.underlying37 Try.underlying5
  have HB1 := Aside0.mk (below_alloc (Below.refl wx.heap.size wx) (.cells #[.int .u8 97, .int .u8 102, .int .u8 116, .int .u8 101, .int .u8 114] 5 (5, 6)))
  have HLT := Aside0.mk (show Rd (wx.alloc (.cells #[.int .u8 97, .int .u8 102, .int .u8 116, .int .u8 101, .int .u8 114] 5 (5, 6))) .u8 (.slice (some ⟨wx.heap.size, 0, none⟩) 5 5) [97, 102, 116, 101, 114] from lit_mark wx 5 [97, 102, 116, 101, 114] (5, 6) (by decide))
  have HRK := Aside0.mk (range_below (range_blk HAK.out) HB1.out)
  go_wp2_with fail
  with_reducible refine (dKeyed_calls _ _ [97, 102, 116, 101, 114] k _ HLT.out (lit_isB (by decide)) (rd_range HRK.out HL.out (Nat.le_refl _) (by decide)) HIB.out (by rw [HL.out]; decide) (by decide)).mono ?_
  rintro e w3 ⟨rfl, hb⟩
  have HB3 := Aside0.mk (below_step (below_step HB0.out HB1.out) hb)
  have HT := Aside0.mk (there32S (afP_len k) List.length_replicate (blk_below HZ0.out (below_step HB1.out hb)))
  have H1 := Aside0.mk (ones_nums .u8 (afP k))
  rw [show kyP [97, 102, 116, 101, 114] k = afP k from rfl]
  clear hb
  go_wp2_with (first | (refine wpList_store_mid rfl 72 (.tmp 2) (.tmp 6) rfl (w.heap.size + 1) 0 (nums .u8 (afP k)).toArray rfl rfl HT.out (info32S (afP_len k)) H1.out ?_))
  exact bodyPost_ret (results_cell (i := 2) rfl rfl (run_loadVar_mid _ (w.heap.size + 1) 0 72 (nums .u8 (afP k)) (.array 32 5) (World.rangeAt_setCells_same _ _ _ _ HT.out) Try.underlying72 rfl (info32N (afP_len k)))) rfl ⟨rfl, below_cells (Nat.le_succ _) _ _ _ HB3.out⟩
/-- A build of a struct with an array in it. -/
theorem fold_set (p : Nat) : ∀ (vs pre mid post : List Value) (n : Nat), p + n = pre.length → vs.length = mid.length → (vs.zipIdx n).foldl (fun (cs : Array Value) x => cs.setIfInBounds (p + x.2) x.1) (pre ++ mid ++ post).toArray = (pre ++ vs ++ post).toArray
  | [], pre, [], post, n, _, _ => rfl
  | v :: r, pre, m :: mid, post, n, hp, hl => by
    rw [List.zipIdx_cons, List.foldl_cons]
    have e : ((pre ++ m :: mid ++ post).toArray.setIfInBounds (p + n) v) = ((pre ++ [v]) ++ mid ++ post).toArray := by rw [hp]; simp
    simp only [e]
    have := fold_set p r (pre ++ [v]) mid post (n + 1) (by simp; omega) (by simpa using hl)
    simpa using this
  | [], pre, _ :: _, post, n, _, hl => by simp at hl
  | _ :: _, pre, [], post, n, _, hl => by simp at hl
/-- The seal. -/
def slC (e t : Int) (k : List Int) : List Value := [.int .u64 e, .int .u64 t] ++ nums .u8 k
def SlV (W : World) (g : Nat) (e t : Int) (k : List Int) : Prop := W.heap[g]? = some (.cells (slC e t k).toArray 167 (0, 0))
theorem SlV.below {W W1 : World} {g : Nat} {e t : Int} {k : List Int} (h : SlV W g e t k) (hb : Below W.heap.size W W1) : SlV W1 g e t k := blk_below h hb
theorem SlV.c0 {W : World} {g : Nat} {e t : Int} {k : List Int} (h : SlV W g e t k) : W.cell? ⟨g, 0, none⟩ = some (.int .u64 e) := by have := blk_cell h 0; simpa [slC] using this
theorem SlV.c1 {W : World} {g : Nat} {e t : Int} {k : List Int} (h : SlV W g e t k) : W.cell? ⟨g, 1, none⟩ = some (.int .u64 t) := by have := blk_cell h 1; simpa [slC] using this
theorem SlV.f {W : World} {g : Nat} {e t : Int} {k : List Int} (h : SlV W g e t k) (i : Nat) : W.frozen? ⟨g, i, none⟩ = false := blk_frozen h i
theorem SlV.key {W : World} {g : Nat} {e t : Int} {k : List Int} (h : SlV W g e t k) : W.rangeAt g 2 (nums .u8 k) := fun j v hv => by
  rw [blk_cell h (2 + j)]
  show (slC e t k).toArray[2 + j]? = some v
  rw [slC]
  simp only [List.getElem?_toArray]
  rw [List.getElem?_append_right (by simp), show 2 + j - [Value.int .u64 e, Value.int .u64 t].length = j by simp]
  exact hv
theorem SlV.s0 {W : World} {g : Nat} {e t : Int} {k : List Int} (h : SlV W g e t k) (x : Int) : SlV (W.setCell ⟨g, 0, none⟩ (.int .u64 x)) g x t k := by have := blk_set h 0 (.int .u64 x); simpa [SlV, slC] using this
theorem SlV.s1 {W : World} {g : Nat} {e t : Int} {k : List Int} (h : SlV W g e t k) (x : Int) : SlV (W.setCell ⟨g, 1, none⟩ (.int .u64 x)) g e x k := by have := blk_set h 1 (.int .u64 x); simpa [SlV, slC] using this
theorem SlV.sk {W : World} {g : Nat} {e t : Int} {k k' : List Int} (h : SlV W g e t k) (hl : k'.length = k.length) : SlV (W.setCells g 2 (nums .u8 k')) g e t k' := by
  have := blk_setCells (nums .u8 k') [.int .u64 e, .int .u64 t] (nums .u8 k) [] W (by simpa [SlV, slC] using h) (by rw [nums_len, nums_len, hl])
  simpa [SlV, slC] using this
theorem SlV.there {W : World} {g : Nat} {e t : Int} {k k' : List Int} (h : SlV W g e t k) (hl : k'.length = k.length) : W.there g 2 (nums .u8 k').toArray.size := fun j hj => by
  rw [List.size_toArray, nums_len, hl] at hj
  refine ⟨?_, blk_frozen h _⟩
  rw [h.key j (.int .u8 (k.getD j 0)) (by simp [nums, List.getD_eq_getElem?_getD, List.getElem?_eq_getElem hj])]
  rfl
set_option maxHeartbeats 8000000 in
set_option maxRecDepth 100000 in
theorem sealNew_calls (u : Value) (s : List Int) (w : World) (hr : Rd w .u8 u s) (hib : isB s) (hL : s.length ≤ 90000) :
    Calls Try.prog 64 #[u] w fun e w' => ∃ g, e = .returned (.pointer (some ⟨g, 0, none⟩)) ∧ SlV w' g 0 0 (keyE s 0) ∧ w.heap.size ≤ g ∧ Below w.heap.size w w' := by
  have HC := Aside0.mk (fun w1 (h : Rd w1 .u8 u s) => begin_calls u s w1 h hib hL)
  have HR := Aside0.mk hr
  clear hr
  go_enter Try.func64, Try.ntmps64
  go_wp2_with fail
  with_reducible refine (HC.out _ HR.out).mono ?_
  rintro e w1 ⟨rfl, hb⟩
  have HB := Aside0.mk hb
  clear hb
  have hfl : (nums .u8 (bgP s)).length = 32 := by rw [nums_len, bgP_len]
  have hfo : List.foldl (fun (cs : Array Value) x => cs.setIfInBounds (2 + x.2) x.1) #[.int .u64 0, .int .u64 0, .int .u8 0, .int .u8 0, .int .u8 0, .int .u8 0, .int .u8 0, .int .u8 0, .int .u8 0, .int .u8 0, .int .u8 0, .int .u8 0, .int .u8 0, .int .u8 0, .int .u8 0, .int .u8 0, .int .u8 0, .int .u8 0, .int .u8 0, .int .u8 0, .int .u8 0, .int .u8 0, .int .u8 0, .int .u8 0, .int .u8 0, .int .u8 0, .int .u8 0, .int .u8 0, .int .u8 0, .int .u8 0, .int .u8 0, .int .u8 0, .int .u8 0, .int .u8 0] (nums .u8 (bgP s)).zipIdx = (slC 0 0 (bgP s)).toArray := by
    have := fold_set 2 (nums .u8 (bgP s)) [.int .u64 0, .int .u64 0] (nums .u8 (List.replicate 32 0)) [] 0 rfl (by rw [hfl]; rfl)
    rw [List.append_nil, List.append_nil] at this
    exact this
  go_wp2_with fail
  go_ret
  exact ⟨_, rfl, blk_new w1 _, HB.out.size, below_alloc HB.out _⟩
set_option maxHeartbeats 8000000 in
set_option maxRecDepth 100000 in
theorem sealNext_calls (w : World) (g : Nat) (e t : Int) (k : List Int) (h : SlV w g e t k) (hl : k.length = 32) (hib : isB k) (e0 : 0 ≤ e) (e1 : e < 1000) :
    Calls Try.prog 53 #[.pointer (some ⟨g, 0, none⟩)] w fun v w' => v = .returned (.int .i64 0) ∧ SlV w' g (e + 1) t (afP k) ∧ Kp (fun b => b = g) w w' := by
  have HS := Aside0.mk h
  have HL := Aside0.mk hl
  have HIB := Aside0.mk hib
  have c0 := h.c0
  have f0 := h.f 0
  have hw1 : IntKind.u64.wrap (e + 1) = e + 1 := by rw [IntKind.wrap_u64]; omega
  clear h hl hib
  go_enter Try.func53, Try.ntmps53
  go_upto_region 6 with fail
  have HS1 := Aside0.mk (HS.out.s0 (e + 1))
  have HK1 := Aside0.mk (Kp.set w ⟨g, 0, none⟩ (.int .u64 (e + 1)))
  obtain ⟨wx, hwx⟩ : ∃ wx, w.setCell ⟨g, 0, none⟩ (.int .u64 (e + 1)) = wx := ⟨_, rfl⟩
  rw [hwx] at HS1 HK1 ⊢
  clear hwx c0 f0 hw1
  go_wp2_with (first | (refine wpList_load_mid rfl 72 (.tmp 22) rfl g 2 rfl (nums .u8 k) (.array 32 5) HS1.out.key Try.underlying72 rfl (info32N HL.out) ?_) | fail)
  with_reducible refine (after_calls k _ HL.out HIB.out).mono ?_
  rintro v w2 ⟨rfl, hb⟩
  have HS2 := Aside0.mk (HS1.out.below hb)
  have HK2 := Aside0.mk (HK1.out.below hb)
  have hLA : (afP k).length = k.length := by rw [afP_len, HL.out]
  have HLA := Aside0.mk hLA
  clear hb hLA
  go_wp2_with (first | (refine wpList_store_mid rfl 72 (.tmp 26) (.tmp 24) rfl g 2 (nums .u8 (afP k)).toArray rfl rfl (HS2.out.there HLA.out) (info32S (afP_len k)) (ones_nums _ _) ?_) | fail)
  go_ret
  exact ⟨rfl, HS2.out.sk HLA.out, HK2.out.trans (kp_cells _ _ _) (fun _ hk => .inl hk)⟩
theorem sealNext_nil (w : World) : Calls Try.prog 53 #[.pointer none] w fun v w' => v = .returned (.int .i64 3) ∧ w' = w := by
  go_enter Try.func53, Try.ntmps53
  go_wp2_with fail
  go_ret
  exact ⟨rfl, rfl⟩
theorem sealEpoch_nil (w : World) : Calls Try.prog 54 #[.pointer none] w fun v w' => v = .returned (.int .u64 0) ∧ w' = w := by
  go_enter Try.func54, Try.ntmps54
  go_wp2_with fail
  go_ret
  exact ⟨rfl, rfl⟩
set_option maxHeartbeats 8000000 in
set_option maxRecDepth 100000 in
theorem sealEpoch_calls (w : World) (g : Nat) (e t : Int) (k : List Int) (h : SlV w g e t k) : Calls Try.prog 54 #[.pointer (some ⟨g, 0, none⟩)] w fun v w' => v = .returned (.int .u64 e) ∧ Below w.heap.size w w' := by
  have c0 := h.c0
  clear h
  go_enter Try.func54, Try.ntmps54
  go_wp2_with fail
  go_ret
  exact ⟨rfl, Below.refl _ _⟩
end Go.Proofs.Ytplmdgimodgekaa
end
section
/- Seals: the sum of a run of bytes, tags. -/
namespace Go.Proofs.Ytplmdgimodgekaa
open Go.RowKit Go.Proofs.YtplmdgimodgekaaW.PrintWords Go.Proofs.YtplmdgimodgekaaW.PrintLast Go.Proofs.YtplmdgimodgekaaW.PrintMore
attribute [local go_sem] max2_int min2_int max_two min_two max_three min_three max_four min_four
/-- What a tag's sum is of. -/
def suX (e : Int) (a b : Nat) (L : List Int) : List Int := words8 [e, (a : Int), (b : Int)] ++ (L.drop a).take (b - a)
def suP (k : List Int) (e : Int) (a b : Nat) (L : List Int) : List Int := kyP k (suX e a b L)
theorem suP_len (k : List Int) (e : Int) (a b : Nat) (L : List Int) : (suP k e a b L).length = 32 := kyP_len _ _
theorem suP_isB (k : List Int) (e : Int) (a b : Nat) (L : List Int) : isB (suP k e a b L) := kyP_isB _ _
theorem suX_len (e : Int) (a b : Nat) (L : List Int) (h1 : a ≤ b) (h2 : b ≤ L.length) : (suX e a b L).length = 24 + (b - a) := by rw [suX, List.length_append, words8_len, List.length_take, List.length_drop]; simp; omega
theorem store_mid_if {P : Program} {ops : Array Oper} {o : Oper} {a : Act} {W : World} {Q : Exit → Act → World → Prop} {Kc : Act → World → Prop} (hw : Region.wanted o (yielded ops a.tmps) = true) (ty : TypeId) (x y : Operand) (ho : o.op = .store ty x y)
    (b off : Nat) (cells : Array Value) (hx : a.eval x = .pointer (some ⟨b, off, none⟩)) (hy : a.eval y = .agg cells) (ht : W.there b off cells.size) (hi : (P.info? ty).map (·.size) = some cells.size) (h1 : cells.all (·.oneCell') = true) (hd : o.dst = none) (h : Kc a (W.setCells b off cells.toList)) :
    if Region.wanted o (yielded ops a.tmps) = true then Oper.wp P o a W Kc Q else Kc (a.put o.dst undef) W := by
  rw [if_pos hw]
  refine wp_store_mid ty x y ho b off cells hx hy ht hi h1 ?_
  rw [hd]
  exact h
/-- b[from:to], by unsigned numbers. -/
theorem Rd.midU {w0 : World} {A : Option Addr} {n c : Nat} {xs : List Int} (h : Rd w0 .u8 (.slice A n c) xs) (hn : xs.length = n) (ki : IntKind) (a b : Nat) (hab : a ≤ b) (hb : b ≤ n) :
    ∃ A', (∀ W : World, (Instr.slice 37 (.slice A n c) (some (.int ki (a : Int))) (some (.int ki (b : Int))) none).run Try.prog W = .ok (.slice A' (b - a) (c - a)) W) ∧ (∀ w : World, Rd w .u8 (.slice A n c) xs → Rd w .u8 (.slice A' (b - a) (c - a)) ((xs.drop a).take (b - a))) := by
  obtain ⟨A2, c2, ev, hc, _⟩ := h
  simp only [Value.slice.injEq] at ev
  obtain ⟨rfl, rfl, rfl⟩ := ev
  have hI : (Try.prog.info? 5).map (·.size) = some 1 := by kernel_rfl
  obtain ⟨i, hi, hz⟩ := Option.map_eq_some_iff.1 hI
  obtain ⟨A', h2, h3, h4⟩ := print_cut_int (P := Try.prog) (k := .u8) 37 5 Try.underlying37 hi hz A c xs (a : Int) (by omega) (by omega) hc
  rw [Int.toNat_natCast] at h2 h3 h4
  have hel : Try.prog.elem 37 = 5 := by simp [Program.elem, Try.underlying37]
  have hu : Try.prog.underlying 37 = some (.slice (Try.prog.elem 37)) := by rw [hel]; exact Try.underlying37
  refine ⟨A', fun W => ?_, fun w hw => ?_⟩
  · have e1 := h2 W
    rw [run_slice_l W 37 A xs.length c hu .i64 (a : Int) (Int.natCast_nonneg _) (by omega), hel] at e1
    rw [run_slice_lh W 37 A xs.length c hu ki ki (a : Int) (b : Int) (Int.natCast_nonneg _) (by omega) (by omega), hel]
    have hsz : (sizeOf 5).run Try.prog W = .ok 1 W := by simp [sizeOf, typeInfo, hi, hz]
    rw [hsz] at e1 ⊢
    simp only [Result.andThen, sliced, Int.toNat_natCast, Result.ok.injEq, Value.slice.injEq] at e1 ⊢
    refine ⟨⟨?_, ?_⟩, ?_⟩ <;> first | exact e1.1.1 | trivial
  · obtain ⟨A2, c2, ev, _, hr⟩ := hw
    simp only [Value.slice.injEq] at ev
    obtain ⟨rfl, _, rfl⟩ := ev
    have := reads_take (h3 w hr) (b - a) (by rw [List.length_drop]; omega)
    rw [show ((xs.drop a).take (b - a)).length = b - a by rw [List.length_take, List.length_drop]; omega] at this
    exact ⟨A', _, by rw [show ((xs.drop a).take (b - a)).length = b - a by rw [List.length_take, List.length_drop]; omega], by rw [List.length_take, List.length_drop]; omega, by rw [show ((xs.drop a).take (b - a)).length = b - a by rw [List.length_take, List.length_drop]; omega]; exact this⟩
set_option maxHeartbeats 8000000 in
set_option maxRecDepth 100000 in
theorem sealSum_calls (k : List Int) (e : Int) (a b : Nat) (u : Value) (L : List Int) (w : World) (hk : k.length = 32) (hkb : isB k) (hr : Rd w .u8 u L) (hib : isB L) (hL : L.length ≤ 80000) (hab : a ≤ b) (hbL : b ≤ L.length) (e0 : 0 ≤ e) (e1 : e ≤ 18446744073709551615) :
    Calls Try.prog 68 #[.agg (nums .u8 k).toArray, .int .u64 e, .int .u64 (a : Int), .int .u64 (b : Int), u] w fun v w' => v = .returned (.agg (nums .u8 (suP k e a b L)).toArray) ∧ Below w.heap.size w w' := by
  obtain ⟨N, hN⟩ : ∃ N, L.length = N := ⟨_, rfl⟩
  obtain ⟨A0, c0, ev, hcap, hm, _⟩ := hr.mid
  subst ev
  have HKL := Aside0.mk hk
  have HKB := Aside0.mk hkb
  have HR := Aside0.mk hr
  have HIB := Aside0.mk hib
  have HN := Aside0.mk hN
  have HXL := Aside0.mk (suX_len e a b L hab hbL)
  have HXB := Aside0.mk (show isB (suX e a b L) from (words8_isB _).app ((hib.drop _).take _))
  have HSL := Aside0.mk (suP_len k e a b L)
  rw [hN] at hL hbL hcap hm HR ⊢
  have HA := Aside0.mk (blk_new w (.cells (nums .u8 k).toArray 72))
  have HBA := Aside0.mk (below_alloc (Below.refl w.heap.size w) (.cells (nums .u8 k).toArray 72))
  have HZ0 := Aside0.mk (show ((w.alloc (.cells (nums .u8 k).toArray 72)).alloc (.cells #[.int .u8 0, .int .u8 0, .int .u8 0, .int .u8 0, .int .u8 0, .int .u8 0, .int .u8 0, .int .u8 0, .int .u8 0, .int .u8 0, .int .u8 0, .int .u8 0, .int .u8 0, .int .u8 0, .int .u8 0, .int .u8 0, .int .u8 0, .int .u8 0, .int .u8 0, .int .u8 0, .int .u8 0, .int .u8 0, .int .u8 0, .int .u8 0, .int .u8 0, .int .u8 0, .int .u8 0, .int .u8 0, .int .u8 0, .int .u8 0, .int .u8 0, .int .u8 0] 72)).heap[w.heap.size + 1]? = some (.cells (nums .u8 (List.replicate 32 0)).toArray 72 (0, 0)) by rw [show w.heap.size + 1 = (w.alloc (.cells (nums .u8 k).toArray 72)).heap.size from (Array.size_push _).symm]; exact blk_new _ _)
  have HAK := Aside0.mk (blk_alloc HA.out (.cells #[.int .u8 0, .int .u8 0, .int .u8 0, .int .u8 0, .int .u8 0, .int .u8 0, .int .u8 0, .int .u8 0, .int .u8 0, .int .u8 0, .int .u8 0, .int .u8 0, .int .u8 0, .int .u8 0, .int .u8 0, .int .u8 0, .int .u8 0, .int .u8 0, .int .u8 0, .int .u8 0, .int .u8 0, .int .u8 0, .int .u8 0, .int .u8 0, .int .u8 0, .int .u8 0, .int .u8 0, .int .u8 0, .int .u8 0, .int .u8 0, .int .u8 0, .int .u8 0] 72))
  have HB0 := Aside0.mk (below_alloc HBA.out (.cells #[.int .u8 0, .int .u8 0, .int .u8 0, .int .u8 0, .int .u8 0, .int .u8 0, .int .u8 0, .int .u8 0, .int .u8 0, .int .u8 0, .int .u8 0, .int .u8 0, .int .u8 0, .int .u8 0, .int .u8 0, .int .u8 0, .int .u8 0, .int .u8 0, .int .u8 0, .int .u8 0, .int .u8 0, .int .u8 0, .int .u8 0, .int .u8 0, .int .u8 0, .int .u8 0, .int .u8 0, .int .u8 0, .int .u8 0, .int .u8 0, .int .u8 0, .int .u8 0] 72))
  clear hk hkb hr hib hN
  go_enter Try.func68, Try.ntmps68
  go_upto_region 1 with (first | (refine wpList_store_fresh rfl 72 (.tmp 5) (.tmp 0) rfl _ (nums .u8 k).toArray rfl rfl (info32S HKL.out) (sz32S HKL.out) (ones_nums _ _) ?_))
  obtain ⟨wx, hwx⟩ : ∃ wx, (w.alloc (.cells (nums .u8 k).toArray 72)).alloc (.cells #[.int .u8 0, .int .u8 0, .int .u8 0, .int .u8 0, .int .u8 0, .int .u8 0, .int .u8 0, .int .u8 0, .int .u8 0, .int .u8 0, .int .u8 0, .int .u8 0, .int .u8 0, .int .u8 0, .int .u8 0, .int .u8 0, .int .u8 0, .int .u8 0, .int .u8 0, .int .u8 0, .int .u8 0, .int .u8 0, .int .u8 0, .int .u8 0, .int .u8 0, .int .u8 0, .int .u8 0, .int .u8 0, .int .u8 0, .int .u8 0, .int .u8 0, .int .u8 0] 72) = wx := ⟨_, rfl⟩
  rw [hwx] at HZ0 HB0 HAK ⊢
  clear hwx HA HBA
  have HWN := Aside0.mk (blk_new wx (.cells #[.slice none 0 0] 155))
  have HB1 := Aside0.mk (below_alloc (Below.refl wx.heap.size wx) (.cells #[.slice none 0 0] 155))
  go_upto_region 2 with fail
  obtain ⟨gw, hgw⟩ : ∃ g, wx.heap.size = g := ⟨_, rfl⟩
  rw [hgw] at HWN
  first | rw [hgw] | skip
  obtain ⟨wy, hwy⟩ : ∃ wy, wx.alloc (.cells #[.slice none 0 0] 155) = wy := ⟨_, rfl⟩
  rw [hwy] at HWN HB1 ⊢
  have hgy : gw < wy.heap.size := blk_lt HWN.out
  have hgw0 : wx.heap.size ≤ gw := by rw [← hgw]; exact Nat.le_refl _
  clear hgw hwy
  have HW0 := Aside0.mk (show WrV (wy.alloc (.cells #[.int .u64 e, .int .u64 a, .int .u64 b] 45)) gw gw (.slice none 0 0) [] from ⟨blk_alloc HWN.out _, Own.nil _ _ _ _⟩)
  have HLT := Aside0.mk (show Rd (wy.alloc (.cells #[.int .u64 e, .int .u64 a, .int .u64 b] 45)) .u64 (.slice (some ⟨wy.heap.size, 0, none⟩) 3 3) [e, (a : Int), (b : Int)] from lit_rdE (Value.int .u64) 0 wy 45 [e, (a : Int), (b : Int)] (by simp))
  have HB2 := Aside0.mk (below_alloc (Below.refl wy.heap.size wy) (.cells #[.int .u64 e, .int .u64 a, .int .u64 b] 45))
  have HWW := Aside0.mk (show isW [e, (a : Int), (b : Int)] by intro x hx; simp only [List.mem_cons, List.not_mem_nil, or_false] at hx; rcases hx with rfl | rfl | rfl <;> omega)
  go_wp2_with fail
  with_reducible refine (Writer_Words_calls _ [e, (a : Int), (b : Int)] HWW.out _ gw gw _ [] HW0.out HLT.out (fun A n c h _ => by cases h; exact ⟨by simp; omega, by simp [Value.ownBlock]⟩) (by simp; omega) (by simp)).mono ?_
  rintro v w3 ⟨rfl, v3, hv3, hk3, ha3⟩
  rw [List.nil_append] at hv3
  have hK3 : Kp (fun b => b = gw) (wy.alloc (.cells #[.int .u64 e, .int .u64 a, .int .u64 b] 45)) w3 := hk3.mono (fun b hb => hb.elim id (fun h => by simp [Value.ownBlock] at h))
  have HV3 := Aside0.mk hv3
  have HB3 := Aside0.mk (show Below wx.heap.size wx w3 from Kp.from (below_step HB1.out HB2.out) hK3 (fun k hk => by rw [hk]; exact hgw0))
  have hgw3 := Aside0.mk (show gw ≤ w3.heap.size from Nat.le_of_lt (blk_lt hv3.1))
  clear hv3 hk3 ha3 hK3 HW0 HLT HWN HB1 HB2 HWW
  obtain ⟨A', hsl, hrd⟩ := Rd.midU HR.out HN.out .u64 a b hab hbL
  have HRD := Aside0.mk hrd
  clear hrd
  go_wp2_with fail
  clear hsl
  with_reducible refine (Writer_Raw_calls _ ((L.drop a).take (b - a)) _ gw gw v3 _ HV3.out (HRD.out _ (HR.out.below (below_step HB0.out HB3.out))) hgw3.out (by rw [words8_len, List.length_take, List.length_drop, HN.out]; simp; omega)).mono ?_
  rintro v w4 ⟨rfl, v4, hv4, hk4, ha4⟩
  have HV4 := Aside0.mk (show WrV w4 gw gw v4 (suX e a b L) from hv4)
  have HB4 := Aside0.mk (show Below wx.heap.size wx w4 from Kp.from HB3.out hk4 (fun k hk => hk.elim (fun h => by rw [h]; exact hgw0) (fun h => Nat.le_trans hgw0 (HV3.out.2.ge h))))
  have HRK := Aside0.mk (range_below (range_blk HAK.out) HB4.out)
  have HT := Aside0.mk (fun (W : World) (hb : Below w4.heap.size w4 W) => there32S HSL.out List.length_replicate (blk_below HZ0.out (below_step HB4.out hb)))
  have HBW := Aside0.mk (below_step HB0.out HB4.out)
  have x0 : w4.cell? ⟨gw, 0, none⟩ = some v4 := blk_cell0 HV4.out.1
  clear hv4 hk4 ha4 HV3 HB3 HRD HZ0 HAK HB0 HB4 hgw3 hgy hgw0
  go_upto_region 4 with fail
  refine start_ (n := 4) (S := fun w' => w'.cell? ⟨gw, 0, none⟩ = some v4) (ds := [3]) #[false,false,false,false] (by kernel_rfl) rfl rfl (x0) (fun hHeld => ?_)
  refine pure_ (i := 0) (N := some 22) (v := ?_) (a' := ?_) #[true,false,false,false] rfl rfl (by kernel_rfl) (fun _ _ _ h => h) (Or.inl ⟨by rfl, ?_⟩) ?_ ?_
  rotate_left
  · intro w'
    go_simp
    with_reducible rfl
  rotate_left
  · simp only [Act.put, List.setIfInBounds_toArray, List.set_cons_zero, List.set_cons_succ, i64_w, i32_w]
    rfl
  refine one_ (i := 1) (N := some 23) #[true,true,false,false] rfl rfl (by kernel_rfl) (by decide) (fun K hK => ?_)
  refine goes_ Try.func92 (by kernel_rfl) rfl #[.pointer (some ⟨gw, 0, none⟩)] (by rfl) rfl rfl (by (try simp only [List.map_toArray, List.map_cons, List.map_nil]); first | done | rfl) ?_
  with_reducible refine (Writer_Done_calls _ gw gw v4 _ (HV4.out.below (below_drew (Below.refl _ _))) (by rw [HXL.out]; omega)).mono ?_
  rintro v w5 ⟨v5, rfl, ho5, hb5⟩
  refine ⟨_, rfl, ?_⟩
  refine hK.out _ _ ((pw_cell_below hb5 hHeld)) (fun hHeld => ?_)
  clear hK K
  refine norm_ (a' := ?_) ?_ ?_
  rotate_left
  · show Act.put _ (some 23) _ = _
    simp only [Act.put, List.setIfInBounds_toArray, List.set_cons_zero, List.set_cons_succ, i64_w, i32_w]
    rfl
  refine one_ (i := 2) (N := some 24) #[true,true,true,false] rfl rfl (by kernel_rfl) (by decide) (fun K hK => ?_)
  refine goes_ Try.func107 (by kernel_rfl) rfl #[.slice (some ⟨w.heap.size, 0, none⟩) 32 32, v5] (by rfl) rfl rfl (by (try simp only [List.map_toArray, List.map_cons, List.map_nil]); first | done | rfl) ?_
  with_reducible refine (dKeyed_calls _ _ k (suX e a b L) _ (rd_range (range_below HRK.out (below_step (below_drew (Below.refl _ _)) hb5)) HKL.out (Nat.le_refl _) (by decide)) HKB.out ho5.rd HXB.out (by rw [HXL.out]; omega) (by rw [HKL.out]; decide)).mono ?_
  rintro v w6 ⟨rfl, hb6⟩
  refine ⟨_, rfl, ?_⟩
  refine hK.out _ _ ((pw_cell_below hb6 hHeld)) (fun hHeld => ?_)
  clear hK K
  refine norm_ (a' := ?_) ?_ ?_
  rotate_left
  · show Act.put _ (some 24) _ = _
    simp only [Act.put, List.setIfInBounds_toArray, List.set_cons_zero, List.set_cons_succ, i64_w, i32_w]
    rfl
  refine last_ (i := 3) (N := none) #[true,true,true,true] rfl rfl (by kernel_rfl) (by decide) (fun K hK => ?_)
  refine store_mid_if (by rfl) 72 (.tmp 10) (.tmp 24) rfl (w.heap.size + 1) 0 (nums .u8 (suP k e a b L)).toArray rfl rfl (HT.out _ (below_step (below_step (below_drew (Below.refl _ _)) hb5) hb6)) (info32S HSL.out) (ones_nums _ _) rfl ?_
  refine hK.out _ _ ?_
  clear hK K
  refine done_ (by kernel_rfl) ?_
  have HB6 := Aside0.mk (below_step (below_step (below_step HBW.out (below_drew (Below.refl _ _))) hb5) hb6)
  have HT6 := Aside0.mk (HT.out _ (below_step (below_step (below_drew (Below.refl _ _)) hb5) hb6))
  clear hb5 hb6 ho5 x0
  go_wp2_with fail
  exact bodyPost_ret (results_cell (i := 10) rfl rfl (run_loadVar_mid _ (w.heap.size + 1) 0 72 (nums .u8 (suP k e a b L)) (.array 32 5) (World.rangeAt_setCells_same _ _ _ _ HT6.out) Try.underlying72 rfl (info32N HSL.out))) rfl ⟨rfl, below_cells (Nat.le_succ _) _ _ _ HB6.out⟩
theorem load_mid_if {P : Program} {ops : Array Oper} {o : Oper} {a : Act} {W : World} {Q : Exit → Act → World → Prop} {Kc : Act → World → Prop} (hw : Region.wanted o (yielded ops a.tmps) = true) (ty : TypeId) (x : Operand) (ho : o.op = .load ty x)
    (b off : Nat) (hx : a.eval x = .pointer (some ⟨b, off, none⟩)) (cs : List Value) (d : TypeDesc) (hc : W.rangeAt b off cs) (hu : P.underlying ty = some d) (hd : d.isRow = true) (hi : (P.info? ty).map (·.size) = some cs.length) (h : Kc (a.put o.dst (.agg cs.toArray)) W) :
    if Region.wanted o (yielded ops a.tmps) = true then Oper.wp P o a W Kc Q else Kc (a.put o.dst undef) W := by
  rw [if_pos hw]
  exact wp_load_mid ty x ho b off hx cs d hc hu hd hi h
/-- A tag's cells. -/
def tgC (e f t : Int) (s : List Int) : List Value := [.int .u64 e, .int .u64 f, .int .u64 t] ++ nums .u8 s
theorem tgC_len {e f t : Int} {s : List Int} (h : s.length = 32) : (tgC e f t s).length = 35 := by rw [tgC, List.length_append, nums_len, h]; rfl
theorem info35 : (Try.prog.info? 74).map (·.size) = some 35 := by kernel_rfl
theorem info35L {e f t : Int} {s : List Int} (h : s.length = 32) : (Try.prog.info? 74).map (·.size) = some (tgC e f t s).length := by rw [tgC_len h]; exact info35
theorem info35S {e f t : Int} {s : List Int} (h : s.length = 32) : (Try.prog.info? 74).map (·.size) = some (tgC e f t s).toArray.size := by rw [List.size_toArray]; exact info35L h
theorem ones_tag (e f t : Int) (s : List Int) : (tgC e f t s).toArray.all (·.oneCell') = true := all_oneCell_toArray (fun x hx => by
  simp only [tgC, nums, List.mem_append, List.mem_map, List.mem_cons, List.not_mem_nil, or_false] at hx
  rcases hx with (rfl | rfl | rfl) | ⟨z, _, rfl⟩ <;> rfl)
theorem tgC_sum {W : World} {b T : Nat} {e f t : Int} {s : List Int} (h : W.heap[b]? = some (.cells (tgC e f t s).toArray T (0, 0))) : W.rangeAt b 3 (nums .u8 s) := fun j v hv => by
  rw [blk_cell h (3 + j)]
  show (tgC e f t s).toArray[3 + j]? = some v
  rw [tgC]
  simp only [List.getElem?_toArray]
  rw [List.getElem?_append_right (by simp), show 3 + j - [Value.int .u64 e, Value.int .u64 f, Value.int .u64 t].length = j by simp]
  exact hv
theorem tgC_there {W : World} {b T : Nat} {e f t : Int} {s s' : List Int} (h : W.heap[b]? = some (.cells (tgC e f t s).toArray T (0, 0))) (hl : s'.length = s.length) : W.there b 3 (nums .u8 s').toArray.size := fun j hj => by
  rw [List.size_toArray, nums_len, hl] at hj
  refine ⟨?_, blk_frozen h _⟩
  rw [tgC_sum h j (.int .u8 (s.getD j 0)) (by simp [nums, List.getD_eq_getElem?_getD, List.getElem?_eq_getElem hj])]
  rfl
theorem tgC_there0 {W : World} {b T : Nat} {e f t e' f' t' : Int} {s s' : List Int} (h : W.heap[b]? = some (.cells (tgC e f t s).toArray T (0, 0))) (hl : s'.length = s.length) : W.there b 0 (tgC e' f' t' s').toArray.size := by
  have := there_blk h
  rw [List.size_toArray, tgC, List.length_append, nums_len] at this ⊢
  rw [hl]; exact this
theorem tgC_set {W : World} {b T : Nat} {e f t : Int} {s s' : List Int} (h : W.heap[b]? = some (.cells (tgC e f t s).toArray T (0, 0))) (hl : s'.length = s.length) : (W.setCells b 3 (nums .u8 s').toArray.toList).heap[b]? = some (.cells (tgC e f t s').toArray T (0, 0)) := by
  have := blk_setCells (nums .u8 s') [.int .u64 e, .int .u64 f, .int .u64 t] (nums .u8 s) [] W (by simpa [tgC] using h) (by rw [nums_len, nums_len, hl])
  simpa [tgC] using this
theorem results_cell2 {P : Program} {fn : Func} {i j : Nat} {t : TypeId} {tmps : Array Value} {W : World} {b : Nat} {v u : Value} (hf : fn.results = #[.cell i t, .tmp j]) (ht : tmps.getD i undef = .pointer (some ⟨b, 0, none⟩)) (hu : tmps.getD j undef = u) (hl : (loadVar t ⟨b, 0, none⟩).run P W = .ok v W) : (results fn tmps).run P W = .ok (.tuple #[v, u]) W := by
  have h' : tmps[i]?.getD undef = .pointer (some ⟨b, 0, none⟩) := by simpa using ht
  have hu' : tmps[j]?.getD undef = u := by simpa using hu
  simp [results, hf, h', hu', asAddr, hl]
theorem sealTag_nil (w : World) (u : Value) : Calls Try.prog 52 #[.pointer none, u] w fun v w' => v = .returned (.tuple #[.agg (tgC 0 0 0 (List.replicate 32 0)).toArray, .int .i64 3]) ∧ Below w.heap.size w w' := by
  have HZ := Aside0.mk (show (w.alloc (.cells #[.int .u64 0, .int .u64 0, .int .u64 0, .int .u8 0, .int .u8 0, .int .u8 0, .int .u8 0, .int .u8 0, .int .u8 0, .int .u8 0, .int .u8 0, .int .u8 0, .int .u8 0, .int .u8 0, .int .u8 0, .int .u8 0, .int .u8 0, .int .u8 0, .int .u8 0, .int .u8 0, .int .u8 0, .int .u8 0, .int .u8 0, .int .u8 0, .int .u8 0, .int .u8 0, .int .u8 0, .int .u8 0, .int .u8 0, .int .u8 0, .int .u8 0, .int .u8 0, .int .u8 0, .int .u8 0, .int .u8 0] 74)).heap[w.heap.size]? = some (.cells (tgC 0 0 0 (List.replicate 32 0)).toArray 74 (0, 0)) from blk_new w _)
  have HB := Aside0.mk (below_alloc (Below.refl w.heap.size w) (.cells #[.int .u64 0, .int .u64 0, .int .u64 0, .int .u8 0, .int .u8 0, .int .u8 0, .int .u8 0, .int .u8 0, .int .u8 0, .int .u8 0, .int .u8 0, .int .u8 0, .int .u8 0, .int .u8 0, .int .u8 0, .int .u8 0, .int .u8 0, .int .u8 0, .int .u8 0, .int .u8 0, .int .u8 0, .int .u8 0, .int .u8 0, .int .u8 0, .int .u8 0, .int .u8 0, .int .u8 0, .int .u8 0, .int .u8 0, .int .u8 0, .int .u8 0, .int .u8 0, .int .u8 0, .int .u8 0, .int .u8 0] 74))
  go_enter Try.func52, Try.ntmps52
  go_upto_region 1 with fail
  obtain ⟨wx, hwx⟩ : ∃ wx, w.alloc (.cells #[.int .u64 0, .int .u64 0, .int .u64 0, .int .u8 0, .int .u8 0, .int .u8 0, .int .u8 0, .int .u8 0, .int .u8 0, .int .u8 0, .int .u8 0, .int .u8 0, .int .u8 0, .int .u8 0, .int .u8 0, .int .u8 0, .int .u8 0, .int .u8 0, .int .u8 0, .int .u8 0, .int .u8 0, .int .u8 0, .int .u8 0, .int .u8 0, .int .u8 0, .int .u8 0, .int .u8 0, .int .u8 0, .int .u8 0, .int .u8 0, .int .u8 0, .int .u8 0, .int .u8 0, .int .u8 0, .int .u8 0] 74) = wx := ⟨_, rfl⟩
  rw [hwx] at HZ HB ⊢
  clear hwx
  have HT := Aside0.mk (tgC_there0 (e' := 0) (f' := 0) (t' := 0) HZ.out (show (List.replicate 32 (0 : Int)).length = (List.replicate 32 (0 : Int)).length from rfl))
  go_wp2_with (first | (refine wpList_store_mid rfl 74 (.tmp 4) (.tmp 10) rfl w.heap.size 0 (tgC 0 0 0 (List.replicate 32 0)).toArray rfl rfl HT.out (info35S List.length_replicate) (ones_tag _ _ _ _) ?_) | fail)
  exact bodyPost_ret (results_cell2 (i := 4) (j := 5) rfl rfl rfl (run_loadVar_mid _ w.heap.size 0 74 (tgC 0 0 0 (List.replicate 32 0)) _ (World.rangeAt_setCells_same _ _ _ _ HT.out) Try.underlying74 rfl (info35L List.length_replicate))) rfl ⟨rfl, below_cells (Nat.le_refl _) _ _ _ HB.out⟩
set_option maxHeartbeats 8000000 in
set_option maxRecDepth 100000 in
theorem sealTag_none (w : World) (g : Nat) (e t : Int) (k : List Int) (u : Value) (L : List Int) (h : SlV w g e t k) (hr : Rd w .u8 u L) (hL : L.length ≤ 80000) (ht : (L.length : Int) ≤ t) :
    Calls Try.prog 52 #[.pointer (some ⟨g, 0, none⟩), u] w fun v w' => v = .returned (.tuple #[.agg (tgC 0 0 0 (List.replicate 32 0)).toArray, .int .i64 6]) ∧ Below w.heap.size w w' := by
  obtain ⟨N, hN⟩ : ∃ N, L.length = N := ⟨_, rfl⟩
  obtain ⟨A0, c0, ev, _⟩ := hr.mid
  subst ev
  rw [hN] at hL ht ⊢
  have HZ := Aside0.mk (show (w.alloc (.cells #[.int .u64 0, .int .u64 0, .int .u64 0, .int .u8 0, .int .u8 0, .int .u8 0, .int .u8 0, .int .u8 0, .int .u8 0, .int .u8 0, .int .u8 0, .int .u8 0, .int .u8 0, .int .u8 0, .int .u8 0, .int .u8 0, .int .u8 0, .int .u8 0, .int .u8 0, .int .u8 0, .int .u8 0, .int .u8 0, .int .u8 0, .int .u8 0, .int .u8 0, .int .u8 0, .int .u8 0, .int .u8 0, .int .u8 0, .int .u8 0, .int .u8 0, .int .u8 0, .int .u8 0, .int .u8 0, .int .u8 0] 74)).heap[w.heap.size]? = some (.cells (tgC 0 0 0 (List.replicate 32 0)).toArray 74 (0, 0)) from blk_new w _)
  have HB := Aside0.mk (below_alloc (Below.refl w.heap.size w) (.cells #[.int .u64 0, .int .u64 0, .int .u64 0, .int .u8 0, .int .u8 0, .int .u8 0, .int .u8 0, .int .u8 0, .int .u8 0, .int .u8 0, .int .u8 0, .int .u8 0, .int .u8 0, .int .u8 0, .int .u8 0, .int .u8 0, .int .u8 0, .int .u8 0, .int .u8 0, .int .u8 0, .int .u8 0, .int .u8 0, .int .u8 0, .int .u8 0, .int .u8 0, .int .u8 0, .int .u8 0, .int .u8 0, .int .u8 0, .int .u8 0, .int .u8 0, .int .u8 0, .int .u8 0, .int .u8 0, .int .u8 0] 74))
  have HS := Aside0.mk h
  have hw : IntKind.u64.wrap (N : Int) = (N : Int) := by rw [IntKind.wrap_u64]; omega
  clear h hr hN
  go_enter Try.func52, Try.ntmps52
  go_upto_region 1 with fail
  obtain ⟨wx, hwx⟩ : ∃ wx, w.alloc (.cells #[.int .u64 0, .int .u64 0, .int .u64 0, .int .u8 0, .int .u8 0, .int .u8 0, .int .u8 0, .int .u8 0, .int .u8 0, .int .u8 0, .int .u8 0, .int .u8 0, .int .u8 0, .int .u8 0, .int .u8 0, .int .u8 0, .int .u8 0, .int .u8 0, .int .u8 0, .int .u8 0, .int .u8 0, .int .u8 0, .int .u8 0, .int .u8 0, .int .u8 0, .int .u8 0, .int .u8 0, .int .u8 0, .int .u8 0, .int .u8 0, .int .u8 0, .int .u8 0, .int .u8 0, .int .u8 0, .int .u8 0] 74) = wx := ⟨_, rfl⟩
  rw [hwx] at HZ HB ⊢
  clear hwx
  have HT := Aside0.mk (tgC_there0 (e' := 0) (f' := 0) (t' := 0) HZ.out (show (List.replicate 32 (0 : Int)).length = (List.replicate 32 (0 : Int)).length from rfl))
  have x1 : wx.cell? ⟨g, 1, none⟩ = some (.int .u64 t) := (HS.out.below HB.out).c1
  go_wp2_with (first | (refine wpList_store_mid rfl 74 (.tmp 4) (.tmp 20) rfl w.heap.size 0 (tgC 0 0 0 (List.replicate 32 0)).toArray rfl rfl HT.out (info35S List.length_replicate) (ones_tag _ _ _ _) ?_) | fail)
  exact bodyPost_ret (results_cell2 (i := 4) (j := 5) rfl rfl rfl (run_loadVar_mid _ w.heap.size 0 74 (tgC 0 0 0 (List.replicate 32 0)) _ (World.rangeAt_setCells_same _ _ _ _ HT.out) Try.underlying74 rfl (info35L List.length_replicate))) rfl ⟨rfl, below_cells (Nat.le_refl _) _ _ _ HB.out⟩
theorem tgC_c {W : World} {b T : Nat} {e f t : Int} {s : List Int} (h : W.heap[b]? = some (.cells (tgC e f t s).toArray T (0, 0))) : W.cell? ⟨b, 0, none⟩ = some (.int .u64 e) ∧ W.cell? ⟨b, 1, none⟩ = some (.int .u64 f) ∧ W.cell? ⟨b, 2, none⟩ = some (.int .u64 t) :=
  ⟨by have := blk_cell h 0; simpa [tgC] using this, by have := blk_cell h 1; simpa [tgC] using this, by have := blk_cell h 2; simpa [tgC] using this⟩
set_option maxHeartbeats 8000000 in
set_option maxRecDepth 100000 in
theorem sealTag_calls (w : World) (g : Nat) (e : Int) (a : Nat) (k : List Int) (u : Value) (L : List Int) (h : SlV w g e (a : Int) k) (hk : k.length = 32) (hkb : isB k) (hr : Rd w .u8 u L) (hib : isB L) (hL : L.length ≤ 80000) (ht : a < L.length) (e0 : 0 ≤ e) (e1 : e ≤ 18446744073709551615) :
    Calls Try.prog 52 #[.pointer (some ⟨g, 0, none⟩), u] w fun v w' => v = .returned (.tuple #[.agg (tgC e (a : Int) (L.length : Int) (suP k e a L.length L)).toArray, .int .i64 0]) ∧ SlV w' g e (L.length : Int) k ∧ Kp (fun b => b = g) w w' := by
  obtain ⟨N, hN⟩ : ∃ N, L.length = N := ⟨_, rfl⟩
  obtain ⟨A0, c0, ev, _⟩ := hr.mid
  subst ev
  have HSL := Aside0.mk (suP_len k e a N L)
  have CS := Aside0.mk (fun w1 (h1 : Rd w1 .u8 (.slice A0 L.length c0) L) => sealSum_calls k e a N (.slice A0 L.length c0) L w1 hk hkb h1 hib hL (by omega) (by omega) e0 e1)
  rw [hN] at hL ht hr CS ⊢
  have HR := Aside0.mk hr
  have HKL := Aside0.mk hk
  have HZ := Aside0.mk (show (w.alloc (.cells #[.int .u64 0, .int .u64 0, .int .u64 0, .int .u8 0, .int .u8 0, .int .u8 0, .int .u8 0, .int .u8 0, .int .u8 0, .int .u8 0, .int .u8 0, .int .u8 0, .int .u8 0, .int .u8 0, .int .u8 0, .int .u8 0, .int .u8 0, .int .u8 0, .int .u8 0, .int .u8 0, .int .u8 0, .int .u8 0, .int .u8 0, .int .u8 0, .int .u8 0, .int .u8 0, .int .u8 0, .int .u8 0, .int .u8 0, .int .u8 0, .int .u8 0, .int .u8 0, .int .u8 0, .int .u8 0, .int .u8 0] 74)).heap[w.heap.size]? = some (.cells (tgC 0 0 0 (List.replicate 32 0)).toArray 74 (0, 0)) from blk_new w _)
  have HB := Aside0.mk (below_alloc (Below.refl w.heap.size w) (.cells #[.int .u64 0, .int .u64 0, .int .u64 0, .int .u8 0, .int .u8 0, .int .u8 0, .int .u8 0, .int .u8 0, .int .u8 0, .int .u8 0, .int .u8 0, .int .u8 0, .int .u8 0, .int .u8 0, .int .u8 0, .int .u8 0, .int .u8 0, .int .u8 0, .int .u8 0, .int .u8 0, .int .u8 0, .int .u8 0, .int .u8 0, .int .u8 0, .int .u8 0, .int .u8 0, .int .u8 0, .int .u8 0, .int .u8 0, .int .u8 0, .int .u8 0, .int .u8 0, .int .u8 0, .int .u8 0, .int .u8 0] 74))
  have HS := Aside0.mk h
  have HGW := Aside0.mk (blk_lt h)
  have hw : IntKind.u64.wrap (N : Int) = (N : Int) := by rw [IntKind.wrap_u64]; omega
  clear h hr hN hk hkb hib
  go_enter Try.func52, Try.ntmps52
  go_upto_region 1 with fail
  obtain ⟨wx, hwx⟩ : ∃ wx, w.alloc (.cells #[.int .u64 0, .int .u64 0, .int .u64 0, .int .u8 0, .int .u8 0, .int .u8 0, .int .u8 0, .int .u8 0, .int .u8 0, .int .u8 0, .int .u8 0, .int .u8 0, .int .u8 0, .int .u8 0, .int .u8 0, .int .u8 0, .int .u8 0, .int .u8 0, .int .u8 0, .int .u8 0, .int .u8 0, .int .u8 0, .int .u8 0, .int .u8 0, .int .u8 0, .int .u8 0, .int .u8 0, .int .u8 0, .int .u8 0, .int .u8 0, .int .u8 0, .int .u8 0, .int .u8 0, .int .u8 0, .int .u8 0] 74) = wx := ⟨_, rfl⟩
  rw [hwx] at HZ HB ⊢
  clear hwx
  have HSX := Aside0.mk (HS.out.below HB.out)
  have x0 := HSX.out.c0
  have x1 := HSX.out.c1
  go_upto_region 5 with fail
  refine start_ (n := 14) (S := fun w' => w'.cell? ⟨g, 0, none⟩ = some (.int .u64 e) ∧ w'.cell? ⟨g, 1, none⟩ = some (.int .u64 (a : Int))) (ds := [13]) #[false,false,false,false,false,false,false,false,false,false,false,false,false,false] (by kernel_rfl) rfl rfl ⟨x0, x1⟩ (fun hHeld => ?_)
  refine pure_ (i := 0) (N := some 21) (v := ?_) (a' := ?_) #[true,false,false,false,false,false,false,false,false,false,false,false,false,false] rfl rfl (by kernel_rfl) (fun _ _ _ h => h) (Or.inl ⟨by rfl, ?_⟩) ?_ ?_
  rotate_left
  · intro w'
    go_simp
    with_reducible rfl
  rotate_left
  · simp only [Act.put, List.setIfInBounds_toArray, List.set_cons_zero, List.set_cons_succ, i64_w, i32_w]
    rfl
  refine pure_ (i := 1) (N := some 22) (v := ?_) (a' := ?_) #[true,true,false,false,false,false,false,false,false,false,false,false,false,false] rfl rfl (by kernel_rfl) (fun _ _ _ h => h) (Or.inl ⟨by rfl, ?_⟩) ?_ ?_
  rotate_left
  · intro w'
    go_simp
    with_reducible rfl
  rotate_left
  · simp only [Act.put, List.setIfInBounds_toArray, List.set_cons_zero, List.set_cons_succ, i64_w, i32_w]
    rfl
  refine pure_ (i := 2) (N := some 23) (v := ?_) (a' := ?_) #[true,true,true,false,false,false,false,false,false,false,false,false,false,false] rfl rfl (by kernel_rfl) (fun _ _ _ h => h) (Or.inl ⟨by rfl, ?_⟩) ?_ ?_
  rotate_left
  · intro w'
    go_simp
    with_reducible rfl
  rotate_left
  · simp only [Act.put, List.setIfInBounds_toArray, List.set_cons_zero, List.set_cons_succ, i64_w, i32_w]
    rfl
  refine pure_ (i := 4) (N := some 25) (v := ?_) (a' := ?_) #[true,true,true,false,true,false,false,false,false,false,false,false,false,false] rfl rfl (by kernel_rfl) (fun _ _ _ h => h) (Or.inl ⟨by rfl, ?_⟩) ?_ ?_
  rotate_left
  · intro w'
    go_simp
    with_reducible rfl
  rotate_left
  · simp only [Act.put, List.setIfInBounds_toArray, List.set_cons_zero, List.set_cons_succ, i64_w, i32_w]
    rfl
  refine pure_ (i := 5) (N := some 26) (v := ?_) (a' := ?_) #[true,true,true,false,true,true,false,false,false,false,false,false,false,false] rfl rfl (by kernel_rfl) (fun _ _ _ h => h) (Or.inl ⟨by rfl, ?_⟩) ?_ ?_
  rotate_left
  · intro w'
    go_simp
    with_reducible rfl
  rotate_left
  · simp only [Act.put, List.setIfInBounds_toArray, List.set_cons_zero, List.set_cons_succ, i64_w, i32_w]
    rfl
  refine pure_ (i := 6) (N := some 27) (v := ?_) (a' := ?_) #[true,true,true,false,true,true,true,false,false,false,false,false,false,false] rfl rfl (by kernel_rfl) (fun _ _ _ h => h) (Or.inl ⟨by rfl, ?_⟩) ?_ ?_
  rotate_left
  · intro w'
    go_simp
    with_reducible rfl
  rotate_left
  · simp only [Act.put, List.setIfInBounds_toArray, List.set_cons_zero, List.set_cons_succ, i64_w, i32_w]
    rfl
  refine pure_ (i := 8) (N := some 29) (v := ?_) (a' := ?_) #[true,true,true,false,true,true,true,false,true,false,false,false,false,false] rfl rfl (by kernel_rfl) (fun _ _ _ h => h) (Or.inl ⟨by rfl, ?_⟩) ?_ ?_
  rotate_left
  · intro w'
    go_simp
    with_reducible rfl
  rotate_left
  · simp only [Act.put, List.setIfInBounds_toArray, List.set_cons_zero, List.set_cons_succ, i64_w, i32_w]
    rfl
  refine pure_ (i := 9) (N := some 30) (v := ?_) (a' := ?_) #[true,true,true,false,true,true,true,false,true,true,false,false,false,false] rfl rfl (by kernel_rfl) (fun _ _ _ h => h) (Or.inl ⟨by rfl, ?_⟩) ?_ ?_
  rotate_left
  · intro w'
    go_simp
    with_reducible rfl
  rotate_left
  · simp only [Act.put, List.setIfInBounds_toArray, List.set_cons_zero, List.set_cons_succ, i64_w, i32_w]
    rfl
  refine pure_ (i := 10) (N := some 31) (v := ?_) (a' := ?_) #[true,true,true,false,true,true,true,false,true,true,true,false,false,false] rfl rfl (by kernel_rfl) (fun _ _ _ h => h) (Or.inl ⟨by rfl, ?_⟩) ?_ ?_
  rotate_left
  · intro w'
    go_simp
    with_reducible rfl
  rotate_left
  · simp only [Act.put, List.setIfInBounds_toArray, List.set_cons_zero, List.set_cons_succ, i64_w, i32_w]
    rfl
  refine take_ (i := 3) (N := some 24) (v := ?_) (a' := ?_) #[true,true,true,true,true,true,true,false,true,true,true,false,false,false] rfl rfl (by kernel_rfl) (fun _ _ _ h => h) (Or.inl ⟨by rfl, ?_⟩) hHeld ?_ ?_
  rotate_left
  · rintro w' ⟨s0, s1⟩
    go_simp
    with_reducible rfl
  rotate_left
  · simp only [Act.put, List.setIfInBounds_toArray, List.set_cons_zero, List.set_cons_succ, i64_w, i32_w]
    rfl
  refine take_ (i := 7) (N := some 28) (v := ?_) (a' := ?_) #[true,true,true,true,true,true,true,true,true,true,true,false,false,false] rfl rfl (by kernel_rfl) (fun _ _ _ h => h) (Or.inl ⟨by rfl, ?_⟩) hHeld ?_ ?_
  rotate_left
  · rintro w' ⟨s0, s1⟩
    go_simp
    with_reducible rfl
  rotate_left
  · simp only [Act.put, List.setIfInBounds_toArray, List.set_cons_zero, List.set_cons_succ, i64_w, i32_w]
    rfl
  refine pure_ (i := 11) (N := some 32) (v := ?_) (a' := ?_) #[true,true,true,true,true,true,true,true,true,true,true,true,false,false] rfl rfl (by kernel_rfl) (fun _ _ _ h => h) (Or.inl ⟨by rfl, ?_⟩) ?_ ?_
  rotate_left
  · intro w'
    go_simp
    with_reducible rfl
  rotate_left
  · simp only [Act.put, List.setIfInBounds_toArray, List.set_cons_zero, List.set_cons_succ, i64_w, i32_w]
    rfl
  refine one_ (i := 12) (N := some 6) #[true,true,true,true,true,true,true,true,true,true,true,true,true,false] rfl rfl (by kernel_rfl) (by decide) (fun K hK => ?_)
  refine value_ (w1 := ?_) (v := ?_) (by rfl) rfl ?_ ?_
  rotate_left 2
  · go_simp
    constructor
    · rfl
    · rfl
  refine hK.out _ _ ⟨(pw_cell_below (below_alloc (Below.refl _ _) _) hHeld.1), (pw_cell_below (below_alloc (Below.refl _ _) _) hHeld.2)⟩ (fun hHeld => ?_)
  clear hK K
  refine norm_ (a' := ?_) ?_ ?_
  rotate_left
  · show Act.put _ (some 6) _ = _
    simp only [Act.put, List.setIfInBounds_toArray, List.set_cons_zero, List.set_cons_succ, i64_w, i32_w]
    rfl
  refine last_ (i := 13) (N := none) #[true,true,true,true,true,true,true,true,true,true,true,true,true,true] rfl rfl (by kernel_rfl) (by decide) (fun K hK => ?_)
  refine store_new wx.drew (by rfl) 74 (.tmp 6) (.tmp 32) rfl #[.int .u64 0, .int .u64 0, .int .u64 0, .int .u8 0, .int .u8 0, .int .u8 0, .int .u8 0, .int .u8 0, .int .u8 0, .int .u8 0, .int .u8 0, .int .u8 0, .int .u8 0, .int .u8 0, .int .u8 0, .int .u8 0, .int .u8 0, .int .u8 0, .int .u8 0, .int .u8 0, .int .u8 0, .int .u8 0, .int .u8 0, .int .u8 0, .int .u8 0, .int .u8 0, .int .u8 0, .int .u8 0, .int .u8 0, .int .u8 0, .int .u8 0, .int .u8 0, .int .u8 0, .int .u8 0, .int .u8 0] (tgC e (a : Int) (N : Int) (List.replicate 32 0)).toArray rfl rfl rfl (info35S List.length_replicate) (by kernel_rfl) (ones_tag _ _ _ _) rfl ?_
  refine hK.out _ _ ?_
  clear hK K
  refine done_ (by kernel_rfl) ?_
  obtain ⟨p, hp⟩ : ∃ p, wx.heap.size = p := ⟨_, rfl⟩
  have HT1 := Aside0.mk (blk_new wx.drew (.cells (tgC e (a : Int) (N : Int) (List.replicate 32 0)).toArray 74))
  have HBY := Aside0.mk (below_alloc (below_drew (Below.refl wx.heap.size wx)) (.cells (tgC e (a : Int) (N : Int) (List.replicate 32 0)).toArray 74))
  rw [show wx.drew.heap.size = p from hp] at HT1
  rw [hp]
  obtain ⟨wy, hwy⟩ : ∃ wy, wx.drew.alloc (.cells (tgC e (a : Int) (N : Int) (List.replicate 32 0)).toArray 74) = wy := ⟨_, rfl⟩
  rw [hwy] at HT1 HBY ⊢
  have HPX := Aside0.mk (show wx.heap.size ≤ p by rw [← hp]; exact Nat.le_refl _)
  have HGP := Aside0.mk (show g ≠ p by have := HGW.out; have := HB.out.size; omega)
  have HWP := Aside0.mk (show w.heap.size ≠ p by have := blk_lt HZ.out; omega)
  clear hwy hp x0 x1
  have HSY := Aside0.mk (HSX.out.below HBY.out)
  have HBX := Aside0.mk (below_step HB.out HBY.out)
  obtain ⟨y0, y1, y2⟩ := tgC_c HT1.out
  have CSS := Aside0.mk (CS.out _ (HR.out.below (below_drew HBX.out)))
  have HTT := Aside0.mk (fun (W : World) (hb : Below wy.heap.size wy W) => tgC_there (s' := suP k e a N L) (blk_below HT1.out hb) (by rw [HSL.out, List.length_replicate]))
  clear CS HSX
  go_upto_region 6 with fail
  refine start_ (n := 14) (S := fun w' => w'.cell? ⟨p, 0, none⟩ = some (.int .u64 e) ∧ w'.cell? ⟨p, 1, none⟩ = some (.int .u64 (a : Int)) ∧ w'.cell? ⟨p, 2, none⟩ = some (.int .u64 (N : Int))) (ds := [13]) #[false,false,false,false,false,false,false,false,false,false,false,false,false,false] (by kernel_rfl) rfl rfl ⟨y0, y1, y2⟩ (fun hHeld => ?_)
  refine pure_ (i := 0) (N := some 33) (v := ?_) (a' := ?_) #[true,false,false,false,false,false,false,false,false,false,false,false,false,false] rfl rfl (by kernel_rfl) (fun _ _ _ h => h) (Or.inl ⟨by rfl, ?_⟩) ?_ ?_
  rotate_left
  · intro w'
    go_simp
    with_reducible rfl
  rotate_left
  · simp only [Act.put, List.setIfInBounds_toArray, List.set_cons_zero, List.set_cons_succ, i64_w, i32_w]
    rfl
  refine pure_ (i := 1) (N := some 34) (v := ?_) (a' := ?_) #[true,true,false,false,false,false,false,false,false,false,false,false,false,false] rfl rfl (by kernel_rfl) (fun _ _ _ h => h) (Or.inl ⟨by rfl, ?_⟩) ?_ ?_
  rotate_left
  · intro w'
    go_simp
    with_reducible rfl
  rotate_left
  · simp only [Act.put, List.setIfInBounds_toArray, List.set_cons_zero, List.set_cons_succ, i64_w, i32_w]
    rfl
  refine pure_ (i := 2) (N := some 35) (v := ?_) (a' := ?_) #[true,true,true,false,false,false,false,false,false,false,false,false,false,false] rfl rfl (by kernel_rfl) (fun _ _ _ h => h) (Or.inl ⟨by rfl, ?_⟩) ?_ ?_
  rotate_left
  · intro w'
    go_simp
    with_reducible rfl
  rotate_left
  · simp only [Act.put, List.setIfInBounds_toArray, List.set_cons_zero, List.set_cons_succ, i64_w, i32_w]
    rfl
  refine pure_ (i := 4) (N := some 37) (v := ?_) (a' := ?_) #[true,true,true,false,true,false,false,false,false,false,false,false,false,false] rfl rfl (by kernel_rfl) (fun _ _ _ h => h) (Or.inl ⟨by rfl, ?_⟩) ?_ ?_
  rotate_left
  · intro w'
    go_simp
    with_reducible rfl
  rotate_left
  · simp only [Act.put, List.setIfInBounds_toArray, List.set_cons_zero, List.set_cons_succ, i64_w, i32_w]
    rfl
  refine pure_ (i := 6) (N := some 39) (v := ?_) (a' := ?_) #[true,true,true,false,true,false,true,false,false,false,false,false,false,false] rfl rfl (by kernel_rfl) (fun _ _ _ h => h) (Or.inl ⟨by rfl, ?_⟩) ?_ ?_
  rotate_left
  · intro w'
    go_simp
    with_reducible rfl
  rotate_left
  · simp only [Act.put, List.setIfInBounds_toArray, List.set_cons_zero, List.set_cons_succ, i64_w, i32_w]
    rfl
  refine pure_ (i := 8) (N := some 41) (v := ?_) (a' := ?_) #[true,true,true,false,true,false,true,false,true,false,false,false,false,false] rfl rfl (by kernel_rfl) (fun _ _ _ h => h) (Or.inl ⟨by rfl, ?_⟩) ?_ ?_
  rotate_left
  · intro w'
    go_simp
    with_reducible rfl
  rotate_left
  · simp only [Act.put, List.setIfInBounds_toArray, List.set_cons_zero, List.set_cons_succ, i64_w, i32_w]
    rfl
  refine pure_ (i := 10) (N := some 43) (v := ?_) (a' := ?_) #[true,true,true,false,true,false,true,false,true,false,true,false,false,false] rfl rfl (by kernel_rfl) (fun _ _ _ h => h) (Or.inl ⟨by rfl, ?_⟩) ?_ ?_
  rotate_left
  · intro w'
    go_simp
    with_reducible rfl
  rotate_left
  · simp only [Act.put, List.setIfInBounds_toArray, List.set_cons_zero, List.set_cons_succ, i64_w, i32_w]
    rfl
  refine take_ (i := 5) (N := some 38) (v := ?_) (a' := ?_) #[true,true,true,false,true,true,true,false,true,false,true,false,false,false] rfl rfl (by kernel_rfl) (fun _ _ _ h => h) (Or.inl ⟨by rfl, ?_⟩) hHeld ?_ ?_
  rotate_left
  · rintro w' ⟨s0, s1, s2⟩
    go_simp
    with_reducible rfl
  rotate_left
  · simp only [Act.put, List.setIfInBounds_toArray, List.set_cons_zero, List.set_cons_succ, i64_w, i32_w]
    rfl
  refine take_ (i := 7) (N := some 40) (v := ?_) (a' := ?_) #[true,true,true,false,true,true,true,true,true,false,true,false,false,false] rfl rfl (by kernel_rfl) (fun _ _ _ h => h) (Or.inl ⟨by rfl, ?_⟩) hHeld ?_ ?_
  rotate_left
  · rintro w' ⟨s0, s1, s2⟩
    go_simp
    with_reducible rfl
  rotate_left
  · simp only [Act.put, List.setIfInBounds_toArray, List.set_cons_zero, List.set_cons_succ, i64_w, i32_w]
    rfl
  refine take_ (i := 9) (N := some 42) (v := ?_) (a' := ?_) #[true,true,true,false,true,true,true,true,true,true,true,false,false,false] rfl rfl (by kernel_rfl) (fun _ _ _ h => h) (Or.inl ⟨by rfl, ?_⟩) hHeld ?_ ?_
  rotate_left
  · rintro w' ⟨s0, s1, s2⟩
    go_simp
    with_reducible rfl
  rotate_left
  · simp only [Act.put, List.setIfInBounds_toArray, List.set_cons_zero, List.set_cons_succ, i64_w, i32_w]
    rfl
  refine one_ (i := 3) (N := some 36) #[true,true,true,true,true,true,true,true,true,true,true,false,false,false] rfl rfl (by kernel_rfl) (by decide) (fun K hK => ?_)
  refine load_mid_if (by rfl) 72 (.tmp 35) rfl g 2 rfl (nums .u8 k) _ (range_below HSY.out.key (below_drew (Below.refl _ _))) Try.underlying72 rfl (info32N HKL.out) ?_
  refine hK.out _ _ ⟨hHeld.1, hHeld.2.1, hHeld.2.2⟩ (fun hHeld => ?_)
  clear hK K
  refine norm_ (a' := ?_) ?_ ?_
  rotate_left
  · show Act.put _ (some 36) _ = _
    simp only [Act.put, List.setIfInBounds_toArray, List.set_cons_zero, List.set_cons_succ, i64_w, i32_w]
    rfl
  refine one_ (i := 11) (N := some 44) #[true,true,true,true,true,true,true,true,true,true,true,true,false,false] rfl rfl (by kernel_rfl) (by decide) (fun K hK => ?_)
  refine goes_ Try.func68 (by kernel_rfl) rfl #[.agg (nums .u8 k).toArray, .int .u64 e, .int .u64 (a : Int), .int .u64 (N : Int), .slice A0 N c0] (by rfl) rfl rfl (by (try simp only [List.map_toArray, List.map_cons, List.map_nil]); first | done | rfl) ?_
  with_reducible refine (CSS.out).mono ?_
  rintro v w6 ⟨rfl, hb6⟩
  refine ⟨_, rfl, ?_⟩
  refine hK.out _ _ ⟨(pw_cell_below hb6 hHeld.1), (pw_cell_below hb6 hHeld.2.1), (pw_cell_below hb6 hHeld.2.2)⟩ (fun hHeld => ?_)
  clear hK K
  refine norm_ (a' := ?_) ?_ ?_
  rotate_left
  · show Act.put _ (some 44) _ = _
    simp only [Act.put, List.setIfInBounds_toArray, List.set_cons_zero, List.set_cons_succ, i64_w, i32_w]
    rfl
  refine pure_ (i := 12) (N := some 45) (v := ?_) (a' := ?_) #[true,true,true,true,true,true,true,true,true,true,true,true,true,false] rfl rfl (by kernel_rfl) (fun _ _ _ h => h) (Or.inl ⟨by rfl, ?_⟩) ?_ ?_
  rotate_left
  · intro w'
    go_simp
    with_reducible rfl
  rotate_left
  · simp only [Act.put, List.setIfInBounds_toArray, List.set_cons_zero, List.set_cons_succ, i64_w, i32_w]
    rfl
  refine last_ (i := 13) (N := none) #[true,true,true,true,true,true,true,true,true,true,true,true,true,true] rfl rfl (by kernel_rfl) (by decide) (fun K hK => ?_)
  refine store_mid_if (by rfl) 72 (.tmp 45) (.tmp 44) rfl p 3 (nums .u8 (suP k e a N L)).toArray rfl rfl (HTT.out _ (below_step (below_drew (Below.refl _ _)) hb6)) (info32S HSL.out) (ones_nums _ _) rfl ?_
  refine hK.out _ _ ?_
  clear hK K
  refine done_ (by kernel_rfl) ?_
  have hb6' := below_step (below_drew (Below.refl wy.heap.size wy)) hb6
  have hT6 := blk_below HT1.out hb6'
  have HKZ := Aside0.mk (kp_cells (b := p) (nums .u8 (suP k e a N L)).toArray.toList 3 w6)
  have HTZ := Aside0.mk (tgC_set (s' := suP k e a N L) hT6 (by rw [HSL.out, List.length_replicate]))
  have HSZ := Aside0.mk (show SlV (w6.setCells p 3 (nums .u8 (suP k e a N L)).toArray.toList) g e (a : Int) k from HKZ.out.blk (HSY.out.below hb6') HGP.out)
  have HZZ := Aside0.mk (HKZ.out.blk (blk_below HZ.out (below_step HBY.out hb6')) HWP.out)
  have HK1 := Aside0.mk ((Kp.of_below (below_step HBX.out hb6') (fun b => b = g)).trans HKZ.out (fun b hb => .inr (by rw [hb]; exact Nat.le_trans HB.out.size HPX.out)))
  obtain ⟨wz, hwz⟩ : ∃ wz, w6.setCells p 3 (nums .u8 (suP k e a N L)).toArray.toList = wz := ⟨_, rfl⟩
  rw [hwz] at HTZ HSZ HZZ HK1 ⊢
  clear hwz hb6 hb6' hT6 HKZ y0 y1 y2 HTT CSS HSY HBX HBY HT1 HZ HB HPX
  obtain ⟨y0, y1, y2⟩ := tgC_c HTZ.out
  have z1 := HSZ.out.c1
  have zf := HSZ.out.f 1
  go_upto_region 8 with fail
  have HSF := Aside0.mk (HSZ.out.s1 (N : Int))
  have HTF := Aside0.mk (blk_far HTZ.out (p := ⟨g, 1, none⟩) (Ne.symm HGP.out) (.int .u64 (N : Int)))
  have HZF := Aside0.mk (blk_far HZZ.out (p := ⟨g, 1, none⟩) (by have := HGW.out; show w.heap.size ≠ g; omega) (.int .u64 (N : Int)))
  have HKF := Aside0.mk (HK1.out.trans (Kp.set wz ⟨g, 1, none⟩ (.int .u64 (N : Int))) (fun b hb => .inl hb))
  obtain ⟨wf, hwf⟩ : ∃ wf, wz.setCell ⟨g, 1, none⟩ (.int .u64 (N : Int)) = wf := ⟨_, rfl⟩
  rw [hwf] at HSF HTF HZF HKF ⊢
  clear hwf y0 y1 y2 z1 zf
  have HTH := Aside0.mk (tgC_there0 (e' := e) (f' := (a : Int)) (t' := (N : Int)) (s' := suP k e a N L) HZF.out (by rw [HSL.out, List.length_replicate]))
  go_wp2_with (first | (refine wpList_load_mid rfl 74 (.tmp 6) rfl p 0 rfl (tgC e (a : Int) (N : Int) (suP k e a N L)) _ (range_blk HTF.out) Try.underlying74 rfl (info35L HSL.out) ?_) | (refine wpList_store_mid rfl 74 (.tmp 4) (.tmp 51) rfl w.heap.size 0 (tgC e (a : Int) (N : Int) (suP k e a N L)).toArray rfl rfl HTH.out (info35S HSL.out) (ones_tag _ _ _ _) ?_) | fail)
  refine bodyPost_ret (results_cell2 (i := 4) (j := 5) rfl rfl rfl (run_loadVar_mid _ w.heap.size 0 74 (tgC e (a : Int) (N : Int) (suP k e a N L)) _ (World.rangeAt_setCells_same _ _ _ _ HTH.out) Try.underlying74 rfl (info35L HSL.out))) rfl ⟨rfl, ?_, ?_⟩
  · exact (kp_cells (b := w.heap.size) _ 0 wf).blk HSF.out (by have := HGW.out; omega)
  · exact HKF.out.trans (kp_cells (b := w.heap.size) _ 0 wf) (fun b hb => .inr (by rw [hb]; exact Nat.le_refl _))
end Go.Proofs.Ytplmdgimodgekaa
end
section
/- Seals: rows of tags; Encode. -/
namespace Go.Proofs.Ytplmdgimodgekaa
open Go.RowKit Go.Proofs.YtplmdgimodgekaaW.PrintWords Go.Proofs.YtplmdgimodgekaaW.PrintLast Go.Proofs.YtplmdgimodgekaaW.PrintMore
attribute [local go_sem] max2_int min2_int max_two min_two max_three min_three max_four min_four
/-- A tag. -/
structure Tg where
  e : Int
  f : Int
  t : Int
  s : List Int
def Tg.cells (x : Tg) : List Value := tgC x.e x.f x.t x.s
def Tg.ok (x : Tg) : Prop := isW [x.e, x.f, x.t] ∧ x.s.length = 32 ∧ isB x.s
def Tg.zero : Tg := ⟨0, 0, 0, []⟩
theorem Tg.len {x : Tg} (h : x.ok) : x.cells.length = 35 := tgC_len h.2.1
theorem Tg.sz {x : Tg} (h : x.ok) : 35 = x.cells.toArray.size := by rw [List.size_toArray, Tg.len h]
theorem Tg.infoL {x : Tg} (h : x.ok) : (Try.prog.info? 74).map (·.size) = some x.cells.length := info35L h.2.1
theorem Tg.infoS {x : Tg} (h : x.ok) : (Try.prog.info? 74).map (·.size) = some x.cells.toArray.size := info35S h.2.1
theorem Tg.ones (x : Tg) : x.cells.toArray.all (·.oneCell') = true := ones_tag _ _ _ _
def tcs (xs : List Tg) : List Value := xs.flatMap Tg.cells
theorem tcs_app (xs ys : List Tg) : tcs (xs ++ ys) = tcs xs ++ tcs ys := List.flatMap_append
theorem tcs_len : ∀ (xs : List Tg), (∀ x ∈ xs, x.ok) → (tcs xs).length = xs.length * 35
  | [], _ => rfl
  | x :: xs, h => by
    rw [tcs, List.flatMap_cons, List.length_append, ← tcs, tcs_len xs (fun y hy => h y (by simp [hy])), Tg.len (h x (by simp)), List.length_cons]
    omega
theorem tcs_at : ∀ (xs : List Tg), (∀ x ∈ xs, x.ok) → ∀ (i : Nat) (hi : i < xs.length) (j : Nat), j < 35 → (tcs xs)[i * 35 + j]? = (xs[i]).cells[j]?
  | [], _, i, hi, _, _ => by simp at hi
  | x :: xs, h, 0, _, j, hj => by
    rw [tcs, List.flatMap_cons, Nat.zero_mul, Nat.zero_add, List.getElem?_append_left (by rw [Tg.len (h x (by simp))]; exact hj)]
    rfl
  | x :: xs, h, i + 1, hi, j, hj => by
    rw [tcs, List.flatMap_cons, List.getElem?_append_right (by rw [Tg.len (h x (by simp))]; omega), Tg.len (h x (by simp)), show (i + 1) * 35 + j - 35 = i * 35 + j by omega]
    exact tcs_at xs (fun y hy => h y (by simp [hy])) i (by simpa using hi) j hj
/-- Tags that are read. -/
def TRd (W : World) (v : Value) (xs : List Tg) : Prop := ∃ A c, v = .slice A xs.length c ∧ xs.length ≤ c ∧ (0 < xs.length → ∃ b o, A = some ⟨b, o, none⟩ ∧ b < W.heap.size ∧ ∀ i (hi : i < xs.length), W.rangeAt b (o + i * 35) (xs[i]).cells)
theorem TRd.nil (W : World) : TRd W (.slice none 0 0) [] := ⟨none, 0, rfl, Nat.le_refl _, fun h => by simp at h⟩
theorem TRd.below {W W1 : World} {v : Value} {xs : List Tg} (h : TRd W v xs) (hb : Below W.heap.size W W1) : TRd W1 v xs := by
  obtain ⟨A, c, e, hc, h⟩ := h
  exact ⟨A, c, e, hc, fun h0 => by
    obtain ⟨b, o, e, hl, hr⟩ := h h0
    exact ⟨b, o, e, Nat.lt_of_lt_of_le hl hb.size, fun i hi => range_below (hr i hi) hb⟩⟩
theorem TRd.get {W : World} {A : Option Addr} {n c : Nat} {xs : List Tg} (h : TRd W (.slice A n c) xs) (h0 : 0 < xs.length) : ∃ b o, A = some ⟨b, o, none⟩ ∧ b < W.heap.size ∧ ∀ i (hi : i < xs.length), W.rangeAt b (o + i * 35) (xs[i]).cells := by
  obtain ⟨A2, c2, ev, _, hr⟩ := h
  simp only [Value.slice.injEq] at ev
  obtain ⟨rfl, _, _⟩ := ev
  exact hr h0
/-- A row of tags of one's own. -/
def TRow (W : World) (base : Nat) (v : Value) (xs : List Tg) : Prop := W.ownsRow base 74 35 v xs.length (tcs xs)
theorem TRow.nil (W : World) (base : Nat) : TRow W base (.slice none 0 0) [] := ⟨rfl, .inl ⟨rfl, rfl⟩⟩
theorem TRow.move {W W' : World} {base : Nat} {v : Value} {xs : List Tg} (h : TRow W base v xs) (hm : ∀ k, v.ownBlock = some k → W'.heap[k]? = W.heap[k]?) : TRow W' base v xs := by
  obtain ⟨hl, h⟩ := h
  refine ⟨hl, h.imp id ?_⟩
  rintro ⟨g, cap, cur, rfl, hb, hg, r⟩
  exact ⟨g, cap, cur, rfl, hb, (hm g rfl).trans hg, r⟩
theorem TRow.lt {W : World} {base : Nat} {v : Value} {xs : List Tg} (h : TRow W base v xs) {k : Nat} (hk : v.ownBlock = some k) : base ≤ k ∧ k < W.heap.size := by
  rcases h.2 with ⟨rfl, _⟩ | ⟨g, cap, cur, rfl, hb, hg, r⟩
  · cases hk
  · injection hk with hk
    subst hk
    exact ⟨hb, blk_lt hg⟩
theorem TRow.below {W W' : World} {base : Nat} {v : Value} {xs : List Tg} (h : TRow W base v xs) (hb : Below W.heap.size W W') : TRow W' base v xs := h.move fun k hk => hb.block k (h.lt hk).2
theorem TRow.ne {W : World} {base : Nat} {v : Value} {xs : List Tg} (h : TRow W base v xs) {g t : Nat} {cs : Array Value} (hg : W.heap[g]? = some (.cells cs t (0, 0))) (hne : 74 ≠ t) : v.ownBlock ≠ some g := fun hk => by
  rcases h.2 with ⟨rfl, _⟩ | ⟨g', cap, cur, rfl, hb, hg', r⟩
  · cases hk
  · injection hk with hk
    rw [show g' = g from hk] at hg'
    rw [hg] at hg'
    injection hg' with e
    injection e with _ e
    exact hne e.symm
theorem TRow.slice {W : World} {base : Nat} {v : Value} {xs : List Tg} (h : TRow W base v xs) {k : Nat} (hk : xs.length = k) : ∃ A c, v = .slice A k c := by
  subst hk
  rcases h.2 with ⟨rfl, h0⟩ | ⟨g, cap, cur, rfl, _⟩
  · exact ⟨none, 0, by rw [h0]⟩
  · exact ⟨_, _, rfl⟩
theorem TRow.rd {W : World} {base : Nat} {v : Value} {xs : List Tg} (h : TRow W base v xs) (hok : ∀ x ∈ xs, x.ok) : TRd W v xs := by
  obtain ⟨hl, h⟩ := h
  rcases h with ⟨rfl, h0⟩ | ⟨g, cap, cur, rfl, hb, hg, hn, hm, hs, ht⟩
  · exact ⟨none, 0, by rw [h0], by omega, fun h => by omega⟩
  · refine ⟨_, _, rfl, by omega, fun _ => ⟨g, 0, rfl, blk_lt hg, fun i hi j u hu => ?_⟩⟩
    have hj : j < 35 := by rw [← Tg.len (hok (xs[i]) (List.getElem_mem hi))]; exact (List.getElem?_eq_some_iff.1 hu).1
    rw [blk_cell hg, Nat.zero_add]
    rw [← tcs_at xs hok i hi j hj] at hu
    rw [← hu, ← ht, List.getElem?_take_of_lt (by rw [← hl, tcs_len xs hok] at *; omega), Array.getElem?_toList]
theorem TRow.kp {W W' : World} {base : Nat} {v : Value} {xs : List Tg} {S : Nat → Prop} (h : TRow W base v xs) (hk : Kp S W W') (hn : ∀ k, v.ownBlock = some k → ¬ S k) : TRow W' base v xs := h.move fun k hk' => hk.block k (h.lt hk').2 (hn k hk')
theorem infoTG : (Try.prog.info? 74).map (fun i => (i.zero, i.size, i.bytes)) = some (some (.agg #[.int .u64 0, .int .u64 0, .int .u64 0, .int .u8 0, .int .u8 0, .int .u8 0, .int .u8 0, .int .u8 0, .int .u8 0, .int .u8 0, .int .u8 0, .int .u8 0, .int .u8 0, .int .u8 0, .int .u8 0, .int .u8 0, .int .u8 0, .int .u8 0, .int .u8 0, .int .u8 0, .int .u8 0, .int .u8 0, .int .u8 0, .int .u8 0, .int .u8 0, .int .u8 0, .int .u8 0, .int .u8 0, .int .u8 0, .int .u8 0, .int .u8 0, .int .u8 0, .int .u8 0, .int .u8 0, .int .u8 0]), 35, 56) := by kernel_rfl
/-- append: a tag more. -/
theorem app_tag {W : World} {base : Nat} {v : Value} {xs : List Tg} (x : Tg) (hx : x.ok) (hok : ∀ y ∈ xs, y.ok) {k : Nat} (HO : TRow W base v xs) (hk : xs.length = k) (hbase : base ≤ W.heap.size) (hl : k ≤ 1000000) :
    ∃ A1 c1 w1, (Builtin.append_ #[40, 40] 40 #[v, .slice (some ⟨W.heap.size, 0, none⟩) 1 1]).run Try.prog (W.alloc (.cells x.cells.toArray 74)) = .ok (.slice A1 (k + 1) c1) w1 ∧ TRow w1 base (.slice A1 (k + 1) c1) (xs ++ [x]) ∧ Kp (fun b => v.ownBlock = some b) W w1 := by
  subst hk
  obtain ⟨i, hi, hzz⟩ := Option.map_eq_some_iff.1 infoTG
  simp only [Prod.mk.injEq] at hzz
  obtain ⟨hz0, hz1, hz2⟩ := hzz
  have HW := HO.below (below_alloc (Below.refl _ _) (.cells x.cells.toArray 74))
  obtain ⟨v', w', hr, ho, hg, _⟩ := run_append_own (P := Try.prog) (W.alloc (.cells x.cells.toArray 74)) base 40 40 74 i (.agg #[.int .u64 0, .int .u64 0, .int .u64 0, .int .u8 0, .int .u8 0, .int .u8 0, .int .u8 0, .int .u8 0, .int .u8 0, .int .u8 0, .int .u8 0, .int .u8 0, .int .u8 0, .int .u8 0, .int .u8 0, .int .u8 0, .int .u8 0, .int .u8 0, .int .u8 0, .int .u8 0, .int .u8 0, .int .u8 0, .int .u8 0, .int .u8 0, .int .u8 0, .int .u8 0, .int .u8 0, .int .u8 0, .int .u8 0, .int .u8 0, .int .u8 0, .int .u8 0, .int .u8 0, .int .u8 0, .int .u8 0]) 35 56 Try.underlying40 hi hz0 hz1 hz2 rfl (by omega) v xs.length (tcs xs) HW ⟨W.heap.size, 0, none⟩ 1 1 x.cells (by rw [Tg.len hx]) (fun j u hu => by
      rw [Addr.add_mid, Nat.zero_add, blk_cell (blk_new W _) j]
      simpa using hu) (fun u hu => by
      have := ones_tag x.e x.f x.t x.s
      exact (Array.all_eq_true'.1 this) u (by simpa [Tg.cells] using hu)) (by unfold maxLen; omega) (by omega) (by simp; omega)
  have ho2 : TRow w' base v' (xs ++ [x]) := by
    rw [TRow, tcs_app, List.length_append, show tcs [x] = x.cells by simp [tcs]]
    exact ho
  obtain ⟨A1, c1, rfl⟩ := ho2.slice (by rw [List.length_append])
  exact ⟨A1, c1, w', hr, ho2, (Kp.of_below (below_alloc (Below.refl _ _) _) _).trans (Kp.of_grown hg) (fun k hk => .inl hk)⟩
/-- What tags are written as. -/
def encT (xs : List Tg) : List Int := xs.flatMap fun x => words8 [x.e, x.f, x.t] ++ x.s
theorem encT_snoc (xs : List Tg) (i : Nat) (hi : i < xs.length) : encT (xs.take (i + 1)) = encT (xs.take i) ++ words8 [xs[i].e, xs[i].f, xs[i].t] ++ xs[i].s := by
  rw [List.take_add_one, List.getElem?_eq_getElem hi, encT, List.flatMap_append, ← encT, List.append_assoc]
  simp
theorem encT_len : ∀ (xs : List Tg), (∀ x ∈ xs, x.ok) → (encT xs).length = 56 * xs.length
  | [], _ => rfl
  | x :: xs, h => by
    rw [encT, List.flatMap_cons, List.length_append, ← encT, encT_len xs (fun y hy => h y (by simp [hy])), List.length_append, words8_len, (h x (by simp)).2.1, List.length_cons]
    simp
    omega
set_option maxHeartbeats 8000000 in
set_option maxRecDepth 100000 in
theorem sealEncode_calls (v : Value) (xs : List Tg) (w : World) (h : TRd w v xs) (hok : ∀ x ∈ xs, x.ok) (hn : xs.length ≤ 10000) :
    Calls Try.prog 45 #[v] w fun e w' => ∃ u, e = .returned u ∧ Own (Value.int .u8) w' w.heap.size 5 u (encT xs) ∧ Below w.heap.size w w' := by
  have HT := Aside0.mk h
  obtain ⟨n, hN⟩ : ∃ n, xs.length = n := ⟨_, rfl⟩
  obtain ⟨A, c, rfl, hc, _⟩ := h
  have HN := Aside0.mk hN
  have HOK := Aside0.mk hok
  rw [hN] at hn hc HT ⊢
  have HWN := Aside0.mk (blk_new w (.cells #[.slice none 0 0] 155))
  have HB1 := Aside0.mk (below_alloc (Below.refl w.heap.size w) (.cells #[.slice none 0 0] 155))
  clear hok hN
  go_enter Try.func45, Try.ntmps45
  go_upto_region 2 with fail
  obtain ⟨gw, hgw⟩ : ∃ g, w.heap.size = g := ⟨_, rfl⟩
  rw [hgw] at HWN ⊢
  obtain ⟨wy, hwy⟩ : ∃ wy, w.alloc (.cells #[.slice none 0 0] 155) = wy := ⟨_, rfl⟩
  rw [hwy] at HWN HB1 ⊢
  have HGW := Aside0.mk hgw
  clear hgw hwy
  have HW0 := Aside0.mk (show WrV wy gw gw (.slice none 0 0) (encT (xs.take 0)) from ⟨HWN.out, Own.nil _ _ _ _⟩)
  go_upto_block 0 with (fail)
  go_cut [] (fun wx => Aside0 (∃ v, WrV wx gw gw v (encT xs)) ∧ Aside0 (Below w.heap.size w wx))
  case first =>
    go_wp2_with fail
    go_loopw [8] (fun v8 w' => ∃ (i : Nat) (v : Value), i ≤ n ∧ v8 = .int .i64 i ∧ Aside0 (WrV w' gw gw v (encT (xs.take i))) ∧ Aside0 (Below w.heap.size w w')) (fun v8 _ => n - (intOf v8).toNat)
    case atStart => exact ⟨0, _, by omega, rfl, HW0, HB1⟩
    case round =>
      obtain ⟨i, v, hi, rfl, HV, HB⟩ := hrel
      by_cases c2 : i < n
      · have hil : i < xs.length := by rw [HN.out]; exact c2
        obtain ⟨x, hx⟩ : ∃ x, xs[i] = x := ⟨_, rfl⟩
        have HX := Aside0.mk (HOK.out x (by rw [← hx]; exact List.getElem_mem hil))
        have HEN := Aside0.mk (encT_snoc xs i hil)
        rw [hx] at HEN
        obtain ⟨b, o, rfl, hbl, hr⟩ := HT.out.get (by omega)
        have HR := Aside0.mk (range_below (hr i hil) HB.out)
        rw [hx] at HR
        clear hr hx
        go_upto_region 5 with (first | (refine wpList_load_mid rfl 74 (.tmp 10) rfl b (o + i * 35) rfl x.cells _ HR.out Try.underlying74 rfl (Tg.infoL HX.out) ?_) | (refine wpList_store_fresh rfl 74 (.tmp 5) (.tmp 11) rfl _ x.cells.toArray rfl rfl (Tg.infoS HX.out) (Tg.sz HX.out) (Tg.ones x) ?_) | fail)
        have HTB := Aside0.mk (blk_new wr (.cells x.cells.toArray 74))
        have HB2 := Aside0.mk (below_alloc (Below.refl wr.heap.size wr) (.cells x.cells.toArray 74))
        obtain ⟨gt, hgt⟩ : ∃ g, wr.heap.size = g := ⟨_, rfl⟩
        rw [hgt] at HTB ⊢
        obtain ⟨wt, hwt⟩ : ∃ wt, wr.alloc (.cells x.cells.toArray 74) = wt := ⟨_, rfl⟩
        rw [hwt] at HTB HB2 ⊢
        have HGT := Aside0.mk (show gw ≠ gt by have := blk_lt HV.out.1; omega)
        have HGT2 := Aside0.mk (show ∀ k, v.ownBlock = some k → k ≠ gt by intro k hk; have := HV.out.2.lt hk; omega)
        have HV1 := Aside0.mk (HV.out.below HB2.out)
        clear hgt hwt
        obtain ⟨y0, y1, y2⟩ := tgC_c (e := x.e) (f := x.f) (t := x.t) (s := x.s) HTB.out
        have HW3 := Aside0.mk (show WrV (wt.alloc (.cells #[.int .u64 x.e, .int .u64 x.f, .int .u64 x.t] 45)) gw gw v (encT (xs.take i)) from HV1.out.below (below_alloc (Below.refl _ _) _))
        have HLT := Aside0.mk (show Rd (wt.alloc (.cells #[.int .u64 x.e, .int .u64 x.f, .int .u64 x.t] 45)) .u64 (.slice (some ⟨wt.heap.size, 0, none⟩) 3 3) [x.e, x.f, x.t] from lit_rdE (Value.int .u64) 0 wt 45 [x.e, x.f, x.t] (by simp))
        have HB3 := Aside0.mk (below_alloc (Below.refl wt.heap.size wt) (.cells #[.int .u64 x.e, .int .u64 x.f, .int .u64 x.t] 45))
        have HLL := Aside0.mk (show (encT (xs.take i)).length ≤ 560000 by rw [encT_len _ (fun y hy => HOK.out y (List.mem_of_mem_take hy)), List.length_take]; omega)
        have HGS := Aside0.mk (show gw ≤ wt.heap.size from Nat.le_of_lt (blk_lt HV1.out.1))
        have HFR := Aside0.mk (fun (k : Nat) (hk : k = gw ∨ v.ownBlock = some k) => (hk.elim (fun h => by rw [h]; exact blk_lt HV1.out.1) (fun h => HV1.out.2.lt h) : k < wt.heap.size))
        have HX1 := Aside0.mk HX.out.1
        have HXL := Aside0.mk HX.out.2.1
        go_wp2_with fail
        with_reducible refine (Writer_Words_calls _ [x.e, x.f, x.t] HX1.out _ gw gw _ _ HW3.out HLT.out (fun A n c h _ => by cases h; exact ⟨fun h => by have := HFR.out _ (.inl rfl); have : wt.heap.size = gw := h; omega, fun h => by have := HFR.out _ (.inr h); have : wt.heap.size < wt.heap.size := this; omega⟩) (Nat.le_trans HGS.out HB3.out.size) (by have := HLL.out; simp; omega)).mono ?_
        rintro e w3 ⟨rfl, v3, hv3, hk3, ha3⟩
        have HV3 := Aside0.mk hv3
        have HT3 := Aside0.mk (hk3.blk (blk_below HTB.out HB3.out) (fun h => h.elim (fun h => HGT.out h.symm) (fun h => HGT2.out _ h rfl)))
        have HB4 := Aside0.mk (Kp.from (below_step HB.out (below_step HB2.out HB3.out)) hk3 (fun k hk => hk.elim (fun h => by rw [h, HGW.out]; exact Nat.le_refl _) (fun h => by rw [HGW.out]; exact HV.out.2.ge h)))
        clear hv3 hk3 ha3 y0 y1 y2
        have HG3 := Aside0.mk (Nat.le_of_lt (blk_lt HV3.out.1))
        have HRS := Aside0.mk (rd_range (n := 32) (c := 32) (tgC_sum (e := x.e) (f := x.f) (t := x.t) (s := x.s) HT3.out) HX.out.2.1 (Nat.le_refl _) (by decide))
        go_wp2_with fail
        with_reducible refine (Writer_Raw_calls _ x.s _ gw gw v3 _ HV3.out HRS.out HG3.out (by have := HLL.out; rw [List.length_append, words8_len, HXL.out]; simp; omega)).mono ?_
        rintro e w4 ⟨rfl, v4, hv4, hk4, ha4⟩
        have HV4 := Aside0.mk (show WrV w4 gw gw v4 (encT (xs.take (i + 1))) by rw [HEN.out]; exact hv4)
        have HB5 := Aside0.mk (Kp.from HB4.out hk4 (fun k hk => hk.elim (fun h => by rw [h, HGW.out]; exact Nat.le_refl _) (fun h => by rw [HGW.out]; exact HV3.out.2.ge h)))
        clear hv4 hk4 ha4
        go_wp2_with fail
        go_roundw
        case rel => exact ⟨i + 1, v4, by omega, by go_num, HV4, HB5⟩
        case measure => simp [intOf] <;> omega
      · obtain rfl : i = n := by omega
        go_wp2_with fail
        go_meet
        rw [← HN.out, List.take_length] at HV
        exact ⟨⟨_, HV.out⟩, HB⟩
  case rest =>
  obtain ⟨⟨v, hv⟩, hB⟩ := hcut
  have HV := hv
  have HLL := Aside0.mk (show (encT xs).length ≤ 560000 by rw [encT_len _ HOK.out, HN.out]; omega)
  go_wp2_with fail
  with_reducible refine (Writer_Done_calls _ gw gw v _ HV (by have := HLL.out; omega)).mono ?_
  rintro e w5 ⟨v5, rfl, ho5, hb5⟩
  go_wp2_with fail
  go_ret
  exact ⟨_, rfl, ho5.weaken hB.out.size, below_step hB.out hb5⟩
end Go.Proofs.Ytplmdgimodgekaa
end
section
/- Seals: Decode. -/
namespace Go.Proofs.Ytplmdgimodgekaa
open Go.RowKit Go.Proofs.YtplmdgimodgekaaW.PrintWords Go.Proofs.YtplmdgimodgekaaW.PrintLast Go.Proofs.YtplmdgimodgekaaW.PrintMore
attribute [local go_sem] max2_int min2_int max_two min_two max_three min_three max_four min_four
def tgAt (L : List Int) (a : Int) : Tg := ⟨getN L (a + 8 * ((0 : Nat) : Int)) 8, getN L (a + 8 * ((1 : Nat) : Int)) 8, getN L (a + 8 * ((2 : Nat) : Int)) 8, rawAt L (a + 24) 32⟩
theorem tgAt_words (L : List Int) (a : Int) : wordsAt L a 3 = [(tgAt L a).e, (tgAt L a).f, (tgAt L a).t] := rfl
def decT (L : List Int) (n : Nat) : List Tg := (List.range n).map fun i : Nat => tgAt L (56 * (i : Int))
theorem decT_len (L : List Int) (n : Nat) : (decT L n).length = n := by simp [decT]
theorem decT_succ (L : List Int) (n : Nat) : decT L (n + 1) = decT L n ++ [tgAt L (56 * (n : Int))] := by simp [decT, List.range_succ]
theorem tgAt_ok {L : List Int} (hb : isB L) (a : Nat) (h : a + 56 ≤ L.length) : (tgAt L (a : Int)).ok := by
  refine ⟨?_, ?_, rawAt_isB hb _ _⟩
  · rw [← tgAt_words]
    exact wordsAt_isW L hb _ _
  · have := rawAt_len L ((a : Int) + 24) 32 (by omega) (by omega) (by omega)
    show (rawAt L ((a : Int) + 24) 32).length = 32
    omega
theorem decT_ok {L : List Int} (hb : isB L) (n : Nat) (h : 56 * n ≤ L.length) : ∀ x ∈ decT L n, x.ok := fun x hx => by
  simp only [decT, List.mem_map, List.mem_range] at hx
  obtain ⟨i, hi, rfl⟩ := hx
  have := tgAt_ok hb (56 * i) (by omega)
  rwa [show ((56 * i : Nat) : Int) = 56 * (i : Int) by omega] at this
theorem arr_at (A : Option Addr) (c : Nat) (W : World) : (Instr.arrayAt 72 (.slice A 32 c)).run Try.prog W = .ok (.pointer A) W := by
  unfold Instr.arrayAt
  rw [Sem.run_bind, run_underlying Try.underlying72 W]
  rfl
theorem Own.range {W : World} {base g n c : Nat} {xs : List Int} (h : Own (Value.int .u8) W base 5 (.slice (some ⟨g, 0, none⟩) n c) xs) : W.rangeAt g 0 (nums .u8 xs) := fun j v hv => by
  obtain ⟨A, c', e, _, _, hr⟩ := h.rdE' 0
  simp only [Value.slice.injEq] at e
  obtain ⟨rfl, _, _⟩ := e
  have hj : j < xs.length := by rw [← nums_len .u8 xs]; exact (List.getElem?_eq_some_iff.1 hv).1
  obtain ⟨ad, e, hc⟩ := hr.2.2 (by omega)
  simp only [Option.some.injEq] at e
  subst e
  have := hc j hj
  rw [Addr.add_mid] at this
  rw [this, ← hv]
  simp [nums, List.getD_eq_getElem?_getD, List.getElem?_eq_getElem hj]
theorem Own.block {W : World} {base e n c : Nat} {v : Value} {k : IntKind} {xs : List Int} (h : Own (Value.int k) W base e v xs) (h0 : 0 < xs.length) : ∃ g c cur, v = .slice (some ⟨g, 0, none⟩) xs.length c ∧ W.heap[g]? = some (.cells cur e (0, 0)) ∧ base ≤ g ∧ xs.length ≤ c := by
  rcases h.2 with ⟨_, h1⟩ | ⟨g, cap, cur, rfl, hb, hg, hn, _⟩
  · omega
  · exact ⟨g, cap, cur, rfl, hg, hb, hn⟩
theorem Own.three {W : World} {base e g n c : Nat} {x y z : Int} (h : Own (Value.int .u64) W base e (.slice (some ⟨g, 0, none⟩) n c) [x, y, z]) : W.cell? ⟨g, 0, none⟩ = some (.int .u64 x) ∧ W.cell? ⟨g, 1, none⟩ = some (.int .u64 y) ∧ W.cell? ⟨g, 2, none⟩ = some (.int .u64 z) := by
  obtain ⟨A, c', e, _, _, hr⟩ := h.rdE' 0
  simp only [Value.slice.injEq] at e
  obtain ⟨rfl, _, _⟩ := e
  obtain ⟨ad, e, hc⟩ := hr.2.2 (by simp)
  simp only [Option.some.injEq] at e
  subst e
  exact ⟨by have := hc 0 (by simp); rw [Addr.add_mid] at this; exact this, by have := hc 1 (by simp); rw [Addr.add_mid] at this; exact this, by have := hc 2 (by simp); rw [Addr.add_mid] at this; exact this⟩
theorem tgC_fold {x : Tg} (h : x.ok) : List.foldl (fun (cs : Array Value) y => cs.setIfInBounds (3 + y.2) y.1) #[.int .u64 x.e, .int .u64 x.f, .int .u64 x.t, .int .u8 0, .int .u8 0, .int .u8 0, .int .u8 0, .int .u8 0, .int .u8 0, .int .u8 0, .int .u8 0, .int .u8 0, .int .u8 0, .int .u8 0, .int .u8 0, .int .u8 0, .int .u8 0, .int .u8 0, .int .u8 0, .int .u8 0, .int .u8 0, .int .u8 0, .int .u8 0, .int .u8 0, .int .u8 0, .int .u8 0, .int .u8 0, .int .u8 0, .int .u8 0, .int .u8 0, .int .u8 0, .int .u8 0, .int .u8 0, .int .u8 0, .int .u8 0] (nums .u8 x.s).zipIdx = x.cells.toArray := by
  have := fold_set 3 (nums .u8 x.s) [.int .u64 x.e, .int .u64 x.f, .int .u64 x.t] (nums .u8 (List.replicate 32 0)) [] 0 rfl (by rw [nums_len, h.2.1]; rfl)
  rw [List.append_nil, List.append_nil] at this
  exact this
theorem tgC_fold0 {x : Tg} (h : x.ok) : List.foldl (fun (cs : Array Value) y => cs.setIfInBounds y.2 y.1) #[.int .u64 0, .int .u64 0, .int .u64 0, .int .u8 0, .int .u8 0, .int .u8 0, .int .u8 0, .int .u8 0, .int .u8 0, .int .u8 0, .int .u8 0, .int .u8 0, .int .u8 0, .int .u8 0, .int .u8 0, .int .u8 0, .int .u8 0, .int .u8 0, .int .u8 0, .int .u8 0, .int .u8 0, .int .u8 0, .int .u8 0, .int .u8 0, .int .u8 0, .int .u8 0, .int .u8 0, .int .u8 0, .int .u8 0, .int .u8 0, .int .u8 0, .int .u8 0, .int .u8 0, .int .u8 0, .int .u8 0] x.cells.zipIdx = x.cells.toArray := by
  have := fold_set 0 x.cells [] (tgC 0 0 0 (List.replicate 32 0)) [] 0 rfl (by rw [Tg.len h, tgC_len List.length_replicate])
  rw [List.append_nil, List.append_nil, List.nil_append, List.nil_append] at this
  simp only [Nat.zero_add] at this
  exact this
set_option maxHeartbeats 8000000 in
set_option maxRecDepth 100000 in
theorem sealDecode_no (v : Value) (L : List Int) (w : World) (hr : Rd w .u8 v L) (hn : L.length ≤ 1000000) (hm : L.length % 56 ≠ 0) :
    Calls Try.prog 46 #[v] w fun e w' => e = .returned (.tuple #[.slice none 0 0, .bool false]) ∧ Below w.heap.size w w' := by
  obtain ⟨N, hN⟩ : ∃ N, L.length = N := ⟨_, rfl⟩
  obtain ⟨A0, c0, ev, _⟩ := hr.mid
  subst ev
  rw [hN] at hn hm ⊢
  have h1 : (N : Int).tmod 56 = (N : Int) % 56 := Int.tmod_eq_emod_of_nonneg (by omega)
  have h2 : ((N : Int) % 56 != 0) = true := by simp; omega
  clear hr hN
  go_enter Try.func46, Try.ntmps46
  go_wp2_with fail
  go_ret2
  exact ⟨rfl, Below.refl _ _⟩
set_option maxHeartbeats 8000000 in
set_option maxRecDepth 100000 in
theorem sealDecode_yes (v : Value) (L : List Int) (w : World) (hr : Rd w .u8 v L) (hb : isB L) (hn : L.length ≤ 1000000) (n : Nat) (hm : L.length = 56 * n) :
    Calls Try.prog 46 #[v] w fun e w' => ∃ u, e = .returned (.tuple #[u, .bool true]) ∧ TRow w' w.heap.size u (decT L n) ∧ Below w.heap.size w w' := by
  obtain ⟨N, hN⟩ : ∃ N, L.length = N := ⟨_, rfl⟩
  obtain ⟨A0, c0, ev, _⟩ := hr.mid
  subst ev
  rw [hN] at hn hm hr ⊢
  have HR := Aside0.mk hr
  have HIB := Aside0.mk hb
  have HN := Aside0.mk hN
  have h1 : (N : Int).tmod 56 = 0 := by rw [Int.tmod_eq_emod_of_nonneg (by omega)]; omega
  have h3 : (N : Int) % 56 = 0 := by omega
  have hm1 : N ≤ 56 * n := by omega
  have hm2 : 56 * n ≤ N := by omega
  clear hr hN hb hm
  go_enter Try.func46, Try.ntmps46
  go_upto_block 0 with (fail)
  clear h1 h3
  go_cut [4] (fun v wx => TRow wx w.heap.size v (decT L n) ∧ Aside0 (Below w.heap.size w wx))
  case first =>
    go_wp2_with fail
    go_loopw [4, 5] (fun v4 v5 w' => ∃ (i : Nat), i ≤ n ∧ v5 = .int .i64 ((56 * i : Nat) : Int) ∧ Aside0 (TRow w' w.heap.size v4 (decT L i)) ∧ Aside0 (Below w.heap.size w w')) (fun _ v5 _ => N - (intOf v5).toNat)
    case atStart => exact ⟨0, by omega, rfl, Aside0.mk (TRow.nil _ _), Aside0.mk (Below.refl _ _)⟩
    case round =>
      obtain ⟨i, hi, rfl, HT, HB⟩ := hrel
      by_cases c2 : i < n
      · have c3 : 56 * i < N := by omega
        have c4 : 56 * i + 56 ≤ N := by omega
        have HTO := Aside0.mk (tgAt_ok HIB.out (56 * i) (by rw [HN.out]; omega))
        obtain ⟨x, hx⟩ : ∃ x, tgAt L ((56 * i : Nat) : Int) = x := ⟨_, rfl⟩
        have HXE := Aside0.mk (show decT L (i + 1) = decT L i ++ [x] by rw [decT_succ, ← hx, show ((56 * i : Nat) : Int) = 56 * (i : Int) by omega])
        have HXW := Aside0.mk (show wordsAt L ((56 * i : Nat) : Int) 3 = [x.e, x.f, x.t] by rw [← hx]; exact tgAt_words L _)
        have HXR := Aside0.mk (show rawAt L (((56 * i : Nat) : Int) + 24) 32 = x.s by rw [← hx]; rfl)
        rw [hx] at HTO
        obtain ⟨p, hp⟩ : ∃ p : Nat, 56 * i = p := ⟨_, rfl⟩
        rw [hp] at c3 c4 HXW HXR ⊢
        clear hx
        go_upto_region 7 with fail
        go_wp2_with fail
        with_reducible refine (le_Read_calls (.slice A0 N c0) L (p : Int) wr (HR.out.below HB.out) (by rw [HN.out]; omega)).mono ?_
        rintro e w1 ⟨rfl, hb, hrr⟩
        rw [if_pos (by rw [HN.out]; omega)] at hrr
        have HRR := Aside0.mk hrr
        have HB1 := Aside0.mk hb
        obtain ⟨gr, hgr⟩ : ∃ g, wr.heap.size = g := ⟨_, rfl⟩
        rw [hgr] at HRR ⊢
        have HGR := Aside0.mk hgr
        have HFAR := Aside0.mk (fun (A : Addr) (n c : Nat) (e : Value.slice A0 N c0 = .slice (some A) n c) (h0 : 0 < L.length) => (by have := rd_old' HR.out e h0; have := HB.out.size; have := HGR.out; omega : A.block ≠ gr))
        clear hrr hb hgr
        go_wp2_with fail
        with_reducible refine (Reader_Words_calls 3 w1 gr (.slice A0 N c0) L (p : Int) false HRR.out (HR.out.below (below_step HB.out HB1.out)) HIB.out HFAR.out (by omega) (by rw [HN.out]; omega) (by rw [HN.out]; omega)).mono ?_
        rintro e w2 ⟨u, rfl, hu, hrw, hkp⟩
        rw [show wOk false (L.length : Int) (p : Int) 3 = true by rw [HN.out]; simp [wOk]; omega] at hu hrw
        rw [show (bif true then wordsAt L (p : Int) (3 : Int).toNat else []) = [x.e, x.f, x.t] from HXW.out] at hu
        have HU := Aside0.mk hu
        have HRR2 := Aside0.mk (show RrV w2 gr (.slice A0 N c0) ((p : Int) + 24) false from hrw)
        have HB2 := Aside0.mk (show Below wr.heap.size wr w2 from Kp.from HB1.out hkp (fun k hk => by rw [hk, HGR.out]; exact Nat.le_refl _))
        obtain ⟨gu, cu, curu, rfl, hgu, hbu, hcu⟩ := hu.block (by simp) (n := 0) (c := 0)
        have HGU := Aside0.mk (show gu ≠ gr by have := HGR.out; have := HB1.out.size; have := blk_lt HRR.out; omega)
        have HUB := Aside0.mk (fun (W : World) (hW : W.heap[gu]? = w2.heap[gu]?) => Own.three (HU.out.move (W' := W) (fun k hk => by simp [Value.ownBlock] at hk; rw [← hk]; exact hW)))
        obtain ⟨y0, y1, y2⟩ := HUB.out w2 rfl
        rw [show [x.e, x.f, x.t].length = 3 from rfl]
        obtain ⟨A4, c4', ev4⟩ := HT.out.slice (decT_len L i)
        subst ev4
        have hfl : (nums .u8 x.s).length = 32 := by rw [nums_len, HTO.out.2.1]
        have hfo := tgC_fold HTO.out
        have HGS := Aside0.mk (blk_lt hgu)
        have hfo0 := tgC_fold0 HTO.out
        have hxl := Tg.len HTO.out
        clear hu hrw hkp hgu hbu hcu
        have HRRD := Aside0.mk (show RrV w2.drew gr (.slice A0 N c0) ((p : Int) + 24) false from HRR2.out)
        go_upto_region 9 with fail
        refine start_ (n := 18) (S := fun w' => w'.cell? ⟨gu, 0, none⟩ = some (.int .u64 x.e) ∧ w'.cell? ⟨gu, 1, none⟩ = some (.int .u64 x.f) ∧ w'.cell? ⟨gu, 2, none⟩ = some (.int .u64 x.t)) (ds := [16]) #[false,false,false,false,false,false,false,false,false,false,false,false,false,false,false,false,false,false] (by kernel_rfl) rfl rfl ⟨y0, y1, y2⟩ (fun hHeld => ?_)
        refine pure_ (i := 0) (N := some 23) (v := ?_) (a' := ?_) #[true,false,false,false,false,false,false,false,false,false,false,false,false,false,false,false,false,false] rfl rfl (by kernel_rfl) (fun _ _ _ h => h) (Or.inl ⟨by rfl, ?_⟩) ?_ ?_
        rotate_left
        · intro w'
          go_simp
          with_reducible rfl
        rotate_left
        · simp only [Act.put, List.setIfInBounds_toArray, List.set_cons_zero, List.set_cons_succ, i64_w, i32_w]
          rfl
        refine pure_ (i := 1) (N := some 24) (v := ?_) (a' := ?_) #[true,true,false,false,false,false,false,false,false,false,false,false,false,false,false,false,false,false] rfl rfl (by kernel_rfl) (fun _ _ _ h => h) (Or.inl ⟨by rfl, ?_⟩) ?_ ?_
        rotate_left
        · intro w'
          go_simp
          with_reducible rfl
        rotate_left
        · simp only [Act.put, List.setIfInBounds_toArray, List.set_cons_zero, List.set_cons_succ, i64_w, i32_w]
          rfl
        refine pure_ (i := 2) (N := some 25) (v := ?_) (a' := ?_) #[true,true,true,false,false,false,false,false,false,false,false,false,false,false,false,false,false,false] rfl rfl (by kernel_rfl) (fun _ _ _ h => h) (Or.inl ⟨by rfl, ?_⟩) ?_ ?_
        rotate_left
        · intro w'
          go_simp
          with_reducible rfl
        rotate_left
        · simp only [Act.put, List.setIfInBounds_toArray, List.set_cons_zero, List.set_cons_succ, i64_w, i32_w]
          rfl
        refine pure_ (i := 4) (N := some 27) (v := ?_) (a' := ?_) #[true,true,true,false,true,false,false,false,false,false,false,false,false,false,false,false,false,false] rfl rfl (by kernel_rfl) (fun _ _ _ h => h) (Or.inl ⟨by rfl, ?_⟩) ?_ ?_
        rotate_left
        · intro w'
          go_simp
          with_reducible rfl
        rotate_left
        · simp only [Act.put, List.setIfInBounds_toArray, List.set_cons_zero, List.set_cons_succ, i64_w, i32_w]
          rfl
        refine pure_ (i := 5) (N := some 28) (v := ?_) (a' := ?_) #[true,true,true,false,true,true,false,false,false,false,false,false,false,false,false,false,false,false] rfl rfl (by kernel_rfl) (fun _ _ _ h => h) (Or.inl ⟨by rfl, ?_⟩) ?_ ?_
        rotate_left
        · intro w'
          go_simp
          with_reducible rfl
        rotate_left
        · simp only [Act.put, List.setIfInBounds_toArray, List.set_cons_zero, List.set_cons_succ, i64_w, i32_w]
          rfl
        refine pure_ (i := 7) (N := some 30) (v := ?_) (a' := ?_) #[true,true,true,false,true,true,false,true,false,false,false,false,false,false,false,false,false,false] rfl rfl (by kernel_rfl) (fun _ _ _ h => h) (Or.inl ⟨by rfl, ?_⟩) ?_ ?_
        rotate_left
        · intro w'
          go_simp
          with_reducible rfl
        rotate_left
        · simp only [Act.put, List.setIfInBounds_toArray, List.set_cons_zero, List.set_cons_succ, i64_w, i32_w]
          rfl
        refine pure_ (i := 8) (N := some 31) (v := ?_) (a' := ?_) #[true,true,true,false,true,true,false,true,true,false,false,false,false,false,false,false,false,false] rfl rfl (by kernel_rfl) (fun _ _ _ h => h) (Or.inl ⟨by rfl, ?_⟩) ?_ ?_
        rotate_left
        · intro w'
          go_simp
          with_reducible rfl
        rotate_left
        · simp only [Act.put, List.setIfInBounds_toArray, List.set_cons_zero, List.set_cons_succ, i64_w, i32_w]
          rfl
        refine pure_ (i := 10) (N := some 33) (v := ?_) (a' := ?_) #[true,true,true,false,true,true,false,true,true,false,true,false,false,false,false,false,false,false] rfl rfl (by kernel_rfl) (fun _ _ _ h => h) (Or.inl ⟨by rfl, ?_⟩) ?_ ?_
        rotate_left
        · intro w'
          go_simp
          with_reducible rfl
        rotate_left
        · simp only [Act.put, List.setIfInBounds_toArray, List.set_cons_zero, List.set_cons_succ, i64_w, i32_w]
          rfl
        refine take_ (i := 3) (N := some 26) (v := ?_) (a' := ?_) #[true,true,true,true,true,true,false,true,true,false,true,false,false,false,false,false,false,false] rfl rfl (by kernel_rfl) (fun _ _ _ h => h) (Or.inl ⟨by rfl, ?_⟩) hHeld ?_ ?_
        rotate_left
        · rintro w' ⟨s0, s1, s2⟩
          go_simp
          with_reducible rfl
        rotate_left
        · simp only [Act.put, List.setIfInBounds_toArray, List.set_cons_zero, List.set_cons_succ, i64_w, i32_w]
          rfl
        refine take_ (i := 6) (N := some 29) (v := ?_) (a' := ?_) #[true,true,true,true,true,true,true,true,true,false,true,false,false,false,false,false,false,false] rfl rfl (by kernel_rfl) (fun _ _ _ h => h) (Or.inl ⟨by rfl, ?_⟩) hHeld ?_ ?_
        rotate_left
        · rintro w' ⟨s0, s1, s2⟩
          go_simp
          with_reducible rfl
        rotate_left
        · simp only [Act.put, List.setIfInBounds_toArray, List.set_cons_zero, List.set_cons_succ, i64_w, i32_w]
          rfl
        refine take_ (i := 9) (N := some 32) (v := ?_) (a' := ?_) #[true,true,true,true,true,true,true,true,true,true,true,false,false,false,false,false,false,false] rfl rfl (by kernel_rfl) (fun _ _ _ h => h) (Or.inl ⟨by rfl, ?_⟩) hHeld ?_ ?_
        rotate_left
        · rintro w' ⟨s0, s1, s2⟩
          go_simp
          with_reducible rfl
        rotate_left
        · simp only [Act.put, List.setIfInBounds_toArray, List.set_cons_zero, List.set_cons_succ, i64_w, i32_w]
          rfl
        refine one_ (i := 11) (N := some 34) #[true,true,true,true,true,true,true,true,true,true,true,true,false,false,false,false,false,false] rfl rfl (by kernel_rfl) (by decide) (fun K hK => ?_)
        refine goes_ Try.func95 (by kernel_rfl) rfl #[.pointer (some ⟨gr, 0, none⟩), .int .i64 32] (by rfl) rfl rfl (by (try simp only [List.map_toArray, List.map_cons, List.map_nil]); first | done | rfl) ?_
        with_reducible refine (Reader_Raw_calls 32 _ gr (.slice A0 N c0) L ((p : Int) + 24) false HRRD.out (HR.out.below (below_step HB.out (below_drew HB2.out))) HIB.out (by omega) (by rw [HN.out]; omega) (by rw [HN.out]; omega)).mono ?_
        rintro e w3 ⟨u2, rfl, hu2, hrk2, hkp2⟩
        refine ⟨_, rfl, ?_⟩
        rw [show kOk false (L.length : Int) ((p : Int) + 24) 32 = true by rw [HN.out]; simp [kOk]; omega] at hu2
        rw [show (bif true then rawAt L ((p : Int) + 24) 32 else []) = x.s from HXR.out] at hu2
        obtain ⟨gs, cs, curs, rfl, hgs, hbs, hcs⟩ := hu2.block (by rw [HTO.out.2.1]; decide) (n := 0) (c := 0)
        have HRS := Aside0.mk hu2.range
        rw [HTO.out.2.1] at hcs ⊢
        have hat := arr_at (some ⟨gs, 0, none⟩) cs
        refine hK.out _ _ ⟨(HUB.out w3 (hkp2.block gu HGS.out HGU.out)).1, (HUB.out w3 (hkp2.block gu HGS.out HGU.out)).2.1, (HUB.out w3 (hkp2.block gu HGS.out HGU.out)).2.2⟩ (fun hHeld => ?_)
        clear hK K
        refine norm_ (a' := ?_) ?_ ?_
        rotate_left
        · show Act.put _ (some 34) _ = _
          simp only [Act.put, List.setIfInBounds_toArray, List.set_cons_zero, List.set_cons_succ, i64_w, i32_w]
          rfl
        refine one_ (i := 12) (N := some 35) #[true,true,true,true,true,true,true,true,true,true,true,true,true,false,false,false,false,false] rfl rfl (by kernel_rfl) (by decide) (fun K hK => ?_)
        refine value_ (w1 := ?_) (v := ?_) (by rfl) rfl ?_ ?_
        rotate_left 2
        · go_simp
          constructor
          · rfl
          · rfl
        refine hK.out _ _ ⟨hHeld.1, hHeld.2.1, hHeld.2.2⟩ (fun hHeld => ?_)
        clear hK K
        refine norm_ (a' := ?_) ?_ ?_
        rotate_left
        · show Act.put _ (some 35) _ = _
          simp only [Act.put, List.setIfInBounds_toArray, List.set_cons_zero, List.set_cons_succ, i64_w, i32_w]
          rfl
        refine one_ (i := 13) (N := some 36) #[true,true,true,true,true,true,true,true,true,true,true,true,true,true,false,false,false,false] rfl rfl (by kernel_rfl) (by decide) (fun K hK => ?_)
        refine load_mid_if (by rfl) 72 (.tmp 35) rfl gs 0 rfl (nums .u8 x.s) _ HRS.out Try.underlying72 rfl (info32N HTO.out.2.1) ?_
        refine hK.out _ _ ⟨hHeld.1, hHeld.2.1, hHeld.2.2⟩ (fun hHeld => ?_)
        clear hK K
        refine norm_ (a' := ?_) ?_ ?_
        rotate_left
        · show Act.put _ (some 36) _ = _
          simp only [Act.put, List.setIfInBounds_toArray, List.set_cons_zero, List.set_cons_succ, i64_w, i32_w]
          rfl
        refine pure_ (i := 14) (N := some 37) (v := ?_) (a' := ?_) #[true,true,true,true,true,true,true,true,true,true,true,true,true,true,true,false,false,false] rfl rfl (by kernel_rfl) (fun _ _ _ h => h) (Or.inl ⟨by rfl, ?_⟩) ?_ ?_
        rotate_left
        · intro w'
          go_simp
          with_reducible rfl
        rotate_left
        · simp only [Act.put, List.setIfInBounds_toArray, List.set_cons_zero, List.set_cons_succ, i64_w, i32_w]
          rfl
        refine one_ (i := 15) (N := some 38) #[true,true,true,true,true,true,true,true,true,true,true,true,true,true,true,true,false,false] rfl rfl (by kernel_rfl) (by decide) (fun K hK => ?_)
        refine value_ (w1 := ?_) (v := ?_) (by rfl) rfl ?_ ?_
        rotate_left 2
        · go_simp
          constructor
          · rfl
          · rfl
        refine hK.out _ _ ⟨(pw_cell_below (below_alloc (Below.refl _ _) _) hHeld.1), (pw_cell_below (below_alloc (Below.refl _ _) _) hHeld.2.1), (pw_cell_below (below_alloc (Below.refl _ _) _) hHeld.2.2)⟩ (fun hHeld => ?_)
        clear hK K
        refine norm_ (a' := ?_) ?_ ?_
        rotate_left
        · show Act.put _ (some 38) _ = _
          simp only [Act.put, List.setIfInBounds_toArray, List.set_cons_zero, List.set_cons_succ, i64_w, i32_w]
          rfl
        refine last_ (i := 16) (N := some 39) #[true,true,true,true,true,true,true,true,true,true,true,true,true,true,true,true,true,false] rfl rfl (by kernel_rfl) (by decide) (fun K hK => ?_)
        have hb3 : Below wr.heap.size wr w3 := Kp.from (below_drew HB2.out) hkp2 (fun k hk => by rw [hk, HGR.out]; exact Nat.le_refl _)
        obtain ⟨A5, c5, w4, hr4, hp4, hk4⟩ := app_tag x HTO.out (decT_ok HIB.out i (by rw [HN.out]; omega)) (HT.out.below hb3) (decT_len L i) (Nat.le_trans HB.out.size hb3.size) (by omega)
        refine app_step (by rfl) (.tmp 23) (.tmp 38) rfl rfl rfl hr4 ?_
        refine hK.out _ _ ?_
        clear hK K
        refine norm_ (a' := ?_) ?_ ?_
        rotate_left
        · show Act.put _ (some 39) _ = _
          simp only [Act.put, List.setIfInBounds_toArray, List.set_cons_zero, List.set_cons_succ, i64_w, i32_w]
          rfl
        refine pure_ (i := 17) (N := some 4) (v := ?_) (a' := ?_) #[true,true,true,true,true,true,true,true,true,true,true,true,true,true,true,true,true,true] rfl rfl (by kernel_rfl) (fun _ _ _ h => h) (Or.inl ⟨by rfl, ?_⟩) ?_ ?_
        rotate_left
        · intro w'
          go_simp
          with_reducible rfl
        rotate_left
        · simp only [Act.put, List.setIfInBounds_toArray, List.set_cons_zero, List.set_cons_succ, i64_w, i32_w]
          rfl
        refine done_ (by kernel_rfl) ?_
        have HT5 := Aside0.mk (show TRow w4 w.heap.size (.slice A5 (i + 1) c5) (decT L (i + 1)) by rw [HXE.out]; exact hp4)
        have HB5 := Aside0.mk (Kp.from (below_step HB.out hb3) hk4 (fun k hk => (HT.out.lt hk).1))
        have hnx : (p : Int) + 56 = ((56 * (i + 1) : Nat) : Int) := by omega
        have hnw : wrap64 ((p : Int) + 56) = ((56 * (i + 1) : Nat) : Int) := by simp only [wrap64]; omega
        have hmx : N - (56 * (i + 1)) < N - p := by omega
        clear hb3 hp4 hk4 hr4 hu2 hrk2 hkp2 y0 y1 y2 hfo hfo0 hxl hfl hat hgs hbs hcs
        go_wp2_with fail
        go_roundw
        case rel => exact ⟨i + 1, by omega, by simp only [Value.int.injEq, true_and]; omega, HT5, HB5⟩
        case measure => simp [intOf] <;> omega
      · obtain rfl : i = n := by omega
        have c3 : ¬ 56 * i < N := by omega
        go_wp2_with fail
        go_meet
        exact ⟨HT.out, HB⟩
  case rest =>
  go_wp2_with fail
  go_ret2
  exact ⟨_, rfl, hcut.1, hcut.2.out⟩
end Go.Proofs.Ytplmdgimodgekaa
end
section
/- Seals: the document's keys and sums. -/
namespace Go.Proofs.Ytplmdgimodgekaa
open Go.RowKit Go.Proofs.YtplmdgimodgekaaW.PrintWords Go.Proofs.YtplmdgimodgekaaW.PrintLast Go.Proofs.YtplmdgimodgekaaW.PrintMore
attribute [local go_sem] max2_int min2_int max_two min_two max_three min_three max_four min_four
theorem info4 : (Try.prog.info? 70).map (·.size) = some 4 := by kernel_rfl
set_option maxHeartbeats 8000000 in
set_option maxRecDepth 100000 in
theorem of_calls (x : Tg) (w : World) (hx : x.ok) : Calls Try.prog 47 #[.agg x.cells.toArray] w fun v w' => v = .returned (.agg #[.int .u64 x.e, .int .u64 x.f, .int .u64 x.t, .slice (some ⟨w.heap.size, 3, none⟩) 32 32]) ∧ Rd w' .u8 (.slice (some ⟨w.heap.size, 3, none⟩) 32 32) x.s ∧ Below w.heap.size w w' := by
  have HX := Aside0.mk hx
  have HA := Aside0.mk (blk_alloc (blk_new w (.cells x.cells.toArray 74)) (.cells #[.int .u64 0, .int .u64 0, .int .u64 0, .slice none 0 0] 70))
  have HZ0 := Aside0.mk (show ((w.alloc (.cells x.cells.toArray 74)).alloc (.cells #[.int .u64 0, .int .u64 0, .int .u64 0, .slice none 0 0] 70)).heap[w.heap.size + 1]? = some (.cells #[.int .u64 0, .int .u64 0, .int .u64 0, .slice none 0 0] 70 (0, 0)) by rw [show w.heap.size + 1 = (w.alloc (.cells x.cells.toArray 74)).heap.size from (Array.size_push _).symm]; exact blk_new _ _)
  have HB0 := Aside0.mk (below_alloc (below_alloc (Below.refl w.heap.size w) (.cells x.cells.toArray 74)) (.cells #[.int .u64 0, .int .u64 0, .int .u64 0, .slice none 0 0] 70))
  clear hx
  go_enter Try.func47, Try.ntmps47
  go_upto_region 1 with (first | (refine wpList_store_fresh rfl 74 (.tmp 1) (.tmp 0) rfl _ x.cells.toArray rfl rfl (Tg.infoS HX.out) (Tg.sz HX.out) (Tg.ones x) ?_) | fail)
  obtain ⟨wx, hwx⟩ : ∃ wx, (w.alloc (.cells x.cells.toArray 74)).alloc (.cells #[.int .u64 0, .int .u64 0, .int .u64 0, .slice none 0 0] 70) = wx := ⟨_, rfl⟩
  rw [hwx] at HZ0 HB0 HA ⊢
  clear hwx
  obtain ⟨y0, y1, y2⟩ := tgC_c (e := x.e) (f := x.f) (t := x.t) (s := x.s) HA.out
  have HTH := Aside0.mk (show wx.drew.there (w.heap.size + 1) 0 4 from there_blk HZ0.out)
  refine start_ (n := 10) (S := fun w' => w'.cell? ⟨w.heap.size, 0, none⟩ = some (.int .u64 x.e) ∧ w'.cell? ⟨w.heap.size, 1, none⟩ = some (.int .u64 x.f) ∧ w'.cell? ⟨w.heap.size, 2, none⟩ = some (.int .u64 x.t)) (ds := [9]) #[false,false,false,false,false,false,false,false,false,false] (by kernel_rfl) rfl rfl ⟨y0, y1, y2⟩ (fun hHeld => ?_)
  refine pure_ (i := 0) (N := some 3) (v := ?_) (a' := ?_) #[true,false,false,false,false,false,false,false,false,false] rfl rfl (by kernel_rfl) (fun _ _ _ h => h) (Or.inl ⟨by rfl, ?_⟩) ?_ ?_
  rotate_left
  · intro w'
    go_simp
    with_reducible rfl
  rotate_left
  · simp only [Act.put, List.setIfInBounds_toArray, List.set_cons_zero, List.set_cons_succ, i64_w, i32_w]
    rfl
  refine pure_ (i := 2) (N := some 5) (v := ?_) (a' := ?_) #[true,false,true,false,false,false,false,false,false,false] rfl rfl (by kernel_rfl) (fun _ _ _ h => h) (Or.inl ⟨by rfl, ?_⟩) ?_ ?_
  rotate_left
  · intro w'
    go_simp
    with_reducible rfl
  rotate_left
  · simp only [Act.put, List.setIfInBounds_toArray, List.set_cons_zero, List.set_cons_succ, i64_w, i32_w]
    rfl
  refine pure_ (i := 4) (N := some 7) (v := ?_) (a' := ?_) #[true,false,true,false,true,false,false,false,false,false] rfl rfl (by kernel_rfl) (fun _ _ _ h => h) (Or.inl ⟨by rfl, ?_⟩) ?_ ?_
  rotate_left
  · intro w'
    go_simp
    with_reducible rfl
  rotate_left
  · simp only [Act.put, List.setIfInBounds_toArray, List.set_cons_zero, List.set_cons_succ, i64_w, i32_w]
    rfl
  refine pure_ (i := 6) (N := some 9) (v := ?_) (a' := ?_) #[true,false,true,false,true,false,true,false,false,false] rfl rfl (by kernel_rfl) (fun _ _ _ h => h) (Or.inl ⟨by rfl, ?_⟩) ?_ ?_
  rotate_left
  · intro w'
    go_simp
    with_reducible rfl
  rotate_left
  · simp only [Act.put, List.setIfInBounds_toArray, List.set_cons_zero, List.set_cons_succ, i64_w, i32_w]
    rfl
  refine pure_ (i := 7) (N := some 10) (v := ?_) (a' := ?_) #[true,false,true,false,true,false,true,true,false,false] rfl rfl (by kernel_rfl) (fun _ _ _ h => h) (Or.inl ⟨by rfl, ?_⟩) ?_ ?_
  rotate_left
  · intro w'
    go_simp
    with_reducible rfl
  rotate_left
  · simp only [Act.put, List.setIfInBounds_toArray, List.set_cons_zero, List.set_cons_succ, i64_w, i32_w]
    rfl
  refine take_ (i := 1) (N := some 4) (v := ?_) (a' := ?_) #[true,true,true,false,true,false,true,true,false,false] rfl rfl (by kernel_rfl) (fun _ _ _ h => h) (Or.inl ⟨by rfl, ?_⟩) hHeld ?_ ?_
  rotate_left
  · rintro w' ⟨s0, s1, s2⟩
    go_simp
    with_reducible rfl
  rotate_left
  · simp only [Act.put, List.setIfInBounds_toArray, List.set_cons_zero, List.set_cons_succ, i64_w, i32_w]
    rfl
  refine take_ (i := 3) (N := some 6) (v := ?_) (a' := ?_) #[true,true,true,true,true,false,true,true,false,false] rfl rfl (by kernel_rfl) (fun _ _ _ h => h) (Or.inl ⟨by rfl, ?_⟩) hHeld ?_ ?_
  rotate_left
  · rintro w' ⟨s0, s1, s2⟩
    go_simp
    with_reducible rfl
  rotate_left
  · simp only [Act.put, List.setIfInBounds_toArray, List.set_cons_zero, List.set_cons_succ, i64_w, i32_w]
    rfl
  refine take_ (i := 5) (N := some 8) (v := ?_) (a' := ?_) #[true,true,true,true,true,true,true,true,false,false] rfl rfl (by kernel_rfl) (fun _ _ _ h => h) (Or.inl ⟨by rfl, ?_⟩) hHeld ?_ ?_
  rotate_left
  · rintro w' ⟨s0, s1, s2⟩
    go_simp
    with_reducible rfl
  rotate_left
  · simp only [Act.put, List.setIfInBounds_toArray, List.set_cons_zero, List.set_cons_succ, i64_w, i32_w]
    rfl
  refine pure_ (i := 8) (N := some 11) (v := ?_) (a' := ?_) #[true,true,true,true,true,true,true,true,true,false] rfl rfl (by kernel_rfl) (fun _ _ _ h => h) (Or.inl ⟨by rfl, ?_⟩) ?_ ?_
  rotate_left
  · intro w'
    go_simp
    with_reducible rfl
  rotate_left
  · simp only [Act.put, List.setIfInBounds_toArray, List.set_cons_zero, List.set_cons_succ, i64_w, i32_w]
    rfl
  refine last_ (i := 9) (N := none) #[true,true,true,true,true,true,true,true,true,true] rfl rfl (by kernel_rfl) (by decide) (fun K hK => ?_)
  refine store_mid_if (by rfl) 70 (.tmp 2) (.tmp 11) rfl (w.heap.size + 1) 0 #[.int .u64 x.e, .int .u64 x.f, .int .u64 x.t, .slice (some ⟨w.heap.size, 3, none⟩) 32 32] rfl rfl HTH.out info4 (by simp [Value.oneCell']) rfl ?_
  refine hK.out _ _ ?_
  clear hK K
  refine done_ (by kernel_rfl) ?_
  have HK := Aside0.mk (kp_cells (b := w.heap.size + 1) [.int .u64 x.e, .int .u64 x.f, .int .u64 x.t, .slice (some ⟨w.heap.size, 3, none⟩) 32 32] 0 wx.drew)
  have HRG := Aside0.mk (range_blk (cs := x.cells) (HK.out.blk (blk_drew HA.out) (by omega)))
  clear y0 y1 y2
  go_wp2_with fail
  refine bodyPost_ret (results_cell (i := 2) rfl rfl (run_loadVar_mid _ (w.heap.size + 1) 0 70 [.int .u64 x.e, .int .u64 x.f, .int .u64 x.t, .slice (some ⟨w.heap.size, 3, none⟩) 32 32] _ (World.rangeAt_setCells_same _ _ _ _ HTH.out) Try.underlying70 rfl info4)) rfl ⟨rfl, ?_, below_cells (Nat.le_succ _) _ _ _ (below_drew HB0.out)⟩
  exact rd_range (tgC_sum (e := x.e) (f := x.f) (t := x.t) (s := x.s) (HK.out.blk (blk_drew HA.out) (by omega))) HX.out.2.1 (Nat.le_refl _) (by decide)
set_option maxHeartbeats 8000000 in
set_option maxRecDepth 100000 in
theorem Words45_calls (w : World) : Calls Try.prog 48 #[] w fun e w' => ∃ va vk, e = .returned (.agg #[va, vk]) ∧ OwnO (Value.int .u32) w' w.heap.size 196 va h0L ∧ OwnO (Value.int .u32) w' w.heap.size 196 vk kT ∧ Below w.heap.size w w' := by
  have HZ := Aside0.mk (blk_new w (.cells #[.slice none 0 0, .slice none 0 0] 78))
  have HB := Aside0.mk (below_alloc (Below.refl w.heap.size w) (.cells #[.slice none 0 0, .slice none 0 0] 78))
  go_enter Try.func48, Try.ntmps48
  go_upto_region 1 with fail
  obtain ⟨wx, hwx⟩ : ∃ wx, w.alloc (.cells #[.slice none 0 0, .slice none 0 0] 78) = wx := ⟨_, rfl⟩
  rw [hwx] at HZ HB ⊢
  clear hwx
  go_wp2_with fail
  with_reducible refine (Constants_calls _).mono ?_
  rintro e w2 ⟨va, vk, rfl, ha, hk, _, hb⟩
  obtain ⟨Aa, ca, rfl⟩ := ha.slice
  obtain ⟨Ak, ck, rfl⟩ := hk.slice
  have HB2 := Aside0.mk (below_step HB.out hb)
  have HZ2 := blk_below HZ.out hb
  have HA := Aside0.mk (ha.weaken HB.out.size)
  have HK := Aside0.mk (hk.weaken HB.out.size)
  have z0 := blk_cell HZ2 0
  have z1 := blk_cell HZ2 1
  have f0 := blk_frozen HZ2 0
  have f1 := blk_frozen HZ2 1
  clear hb ha hk
  have HF := Aside0.mk (show ((w2.setCell ⟨w.heap.size, 0, none⟩ (Value.slice Aa h0L.length ca)).setCell ⟨w.heap.size, 1, none⟩ (Value.slice Ak kT.length ck)).heap[w.heap.size]? = some (.cells [.slice Aa h0L.length ca, .slice Ak kT.length ck].toArray 78 (0, 0)) by have := blk_set (blk_set HZ2 0 (Value.slice Aa h0L.length ca)) 1 (Value.slice Ak kT.length ck); simpa using this)
  have HKS := Aside0.mk ((Kp.set w2 ⟨w.heap.size, 0, none⟩ (Value.slice Aa h0L.length ca)).trans (Kp.set _ ⟨w.heap.size, 1, none⟩ (Value.slice Ak kT.length ck)) (fun k hk => .inl hk))
  have HA1 := Aside0.mk (HA.out.kp HKS.out (fun k hk h => HA.out.ne HZ2 (by decide) (by rw [hk]; exact congrArg some h)))
  have HK1 := Aside0.mk (HK.out.kp HKS.out (fun k hk h => HK.out.ne HZ2 (by decide) (by rw [hk]; exact congrArg some h)))
  have HBF := Aside0.mk (Kp.from HB2.out HKS.out (fun k hk => by rw [show k = w.heap.size from hk]; exact Nat.le_refl _))
  go_wp2_with fail
  exact bodyPost_ret (results_cell (i := 0) rfl rfl (run_loadVar_mid _ w.heap.size 0 78 [.slice Aa h0L.length ca, .slice Ak kT.length ck] _ (range_blk HF.out) Try.underlying78 rfl (by kernel_rfl))) rfl ⟨_, _, rfl, HA1.out, HK1.out, HBF.out⟩
set_option maxHeartbeats 8000000 in
set_option maxRecDepth 100000 in
theorem Key45_calls (va vk u : Value) (s : List Int) (n : Nat) (w : World) (ha : Rd w .u32 va h0L) (hk : Rd w .u32 vk kT) (hr : Rd w .u8 u s) (hib : isB s) (hL : s.length ≤ 80000) (hn : n ≤ 100000) :
    Calls Try.prog 106 #[.agg #[va, vk], u, .int .u64 (n : Int)] w fun e w' => ∃ v, e = .returned v ∧ OwnO (Value.int .u8) w' w.heap.size 5 v (keyE s n) ∧ Below w.heap.size w w' := by
  obtain ⟨Aa, ca, eva, _⟩ := ha.mid
  obtain ⟨Ak, ck, evk, _⟩ := hk.mid
  subst eva
  subst evk
  have HA := Aside0.mk ha
  have HK := Aside0.mk hk
  have HR := Aside0.mk hr
  have HIB := Aside0.mk hib
  have HZ := Aside0.mk (blk_new w (.cells #[.slice Aa h0L.length ca, .slice Ak kT.length ck] 78))
  have HB := Aside0.mk (below_alloc (Below.refl w.heap.size w) (.cells #[.slice Aa h0L.length ca, .slice Ak kT.length ck] 78))
  clear ha hk hr hib
  go_enter Try.func106, Try.ntmps106
  go_upto_region 1 with fail
  obtain ⟨wx, hwx⟩ : ∃ wx, w.alloc (.cells #[.slice Aa h0L.length ca, .slice Ak kT.length ck] 78) = wx := ⟨_, rfl⟩
  rw [hwx] at HZ HB ⊢
  clear hwx
  have z0 := blk_cell HZ.out 0
  have z1 := blk_cell HZ.out 1
  go_quiet (fail)
  have HBN := Aside0.mk (pw_below_drewN HB.out nq)
  obtain ⟨wn, hwn⟩ : ∃ wn, wx.drewN nq = wn := ⟨_, rfl⟩
  rw [hwn] at HBN ⊢
  clear hwn z0 z1 HZ HB
  have HLT := Aside0.mk (show Rd (wn.alloc (.cells #[.int .u8 98, .int .u8 101, .int .u8 103, .int .u8 105, .int .u8 110] 5)) .u8 (.slice (some ⟨wn.heap.size, 0, none⟩) 5 5) [98, 101, 103, 105, 110] from lit_rdE (Value.int .u8) 0 wn 5 [98, 101, 103, 105, 110] (by decide))
  have HB1 := Aside0.mk (below_step HBN.out (below_alloc (Below.refl wn.heap.size wn) (.cells #[.int .u8 98, .int .u8 101, .int .u8 103, .int .u8 105, .int .u8 110] 5)))
  have HLI := Aside0.mk (show isB [98, 101, 103, 105, 110] from lit_isB (by decide))
  have HLJ := Aside0.mk (show isB [97, 102, 116, 101, 114] from lit_isB (by decide))
  go_wp2_with fail
  with_reducible refine (refKeyed_calls _ _ _ _ [98, 101, 103, 105, 110] s _ (HA.out.below HB1.out) (HK.out.below HB1.out) HLT.out HLI.out (HR.out.below HB1.out) HIB.out (by omega) (by decide)).mono ?_
  rintro e w3 ⟨v3, rfl, ho, hb⟩
  have HO0 := Aside0.mk (show OwnO (Value.int .u8) w3 w.heap.size 5 v3 (keyE s 0) from ho.weaken HB1.out.size)
  have HB3 := Aside0.mk (below_step HB1.out hb)
  clear ho hb HLT HB1 HBN
  go_upto_block 0 with (fail)
  go_cut [9] (fun v wx => OwnO (Value.int .u8) wx w.heap.size 5 v (keyE s n) ∧ Aside0 (Below w.heap.size w wx))
  case first =>
    go_wp2_with fail
    go_loopw [9, 10] (fun v9 v10 w' => ∃ (i : Nat), i ≤ n ∧ v10 = .int .u64 (i : Int) ∧ Aside0 (OwnO (Value.int .u8) w' w.heap.size 5 v9 (keyE s i)) ∧ Aside0 (Below w.heap.size w w')) (fun _ v10 _ => n - (intOf v10).toNat)
    case atStart => exact ⟨0, by omega, rfl, HO0, HB3⟩
    case round =>
      obtain ⟨i, hi, rfl, HO, HBK⟩ := hrel
      by_cases c2 : i < n
      · have HLT := Aside0.mk (show Rd (wr.alloc (.cells #[.int .u8 97, .int .u8 102, .int .u8 116, .int .u8 101, .int .u8 114] 5)) .u8 (.slice (some ⟨wr.heap.size, 0, none⟩) 5 5) [97, 102, 116, 101, 114] from lit_rdE (Value.int .u8) 0 wr 5 [97, 102, 116, 101, 114] (by decide))
        have HB1 := Aside0.mk (below_alloc (Below.refl wr.heap.size wr) (.cells #[.int .u8 97, .int .u8 102, .int .u8 116, .int .u8 101, .int .u8 114] 5))
        obtain ⟨A9, c9, ev⟩ := HO.out.slice
        have HRO := Aside0.mk (HO.out.below HB1.out).rd
        rw [ev] at HRO
        subst ev
        have HKB := Aside0.mk (keyE_isB s i)
        have HKL := Aside0.mk (keyE_len s i)
        have hwu : IntKind.u64.wrap ((i : Int) + 1) = ((i + 1 : Nat) : Int) := by rw [IntKind.wrap_u64]; omega
        go_wp2_with fail
        with_reducible refine (refKeyed_calls _ _ _ _ [97, 102, 116, 101, 114] (keyE s i) _ (HA.out.below (below_step HBK.out HB1.out)) (HK.out.below (below_step HBK.out HB1.out)) HLT.out HLJ.out HRO.out HKB.out (by rw [HKL.out]; decide) (by decide)).mono ?_
        rintro e w4 ⟨v4, rfl, ho, hb⟩
        have HO4 := Aside0.mk (show OwnO (Value.int .u8) w4 w.heap.size 5 v4 (keyE s (i + 1)) from ho.weaken (Nat.le_trans HBK.out.size HB1.out.size))
        have HB4 := Aside0.mk (below_step (below_step HBK.out HB1.out) hb)
        clear ho hb
        go_wp2_with fail
        go_roundw
        case rel => exact ⟨i + 1, by omega, by simp, HO4, HB4⟩
        case measure => simp [intOf] <;> omega
      · obtain rfl : i = n := by omega
        go_wp2_with fail
        go_meet
        exact ⟨HO.out, HBK⟩
  case rest =>
  go_wp2_with fail
  go_ret
  exact ⟨_, rfl, hcut.1, hcut.2.out⟩
theorem leW8' : leW 8 = 8 := by decide
theorem app8N {W : World} {base : Nat} {v u : Value} {xs ys : List Int} (HO : OwnO (Value.int .u8) W base 5 v xs) (HR : Rd W .u8 u ys) (hbase : base ≤ W.heap.size) (m : Nat) (hm : (xs ++ ys).length = m) (hl : m ≤ 140737488355328) :
    ∃ A1 c1 w1, (Builtin.append_ #[37, 37] 37 #[v, u]).run Try.prog W = .ok (.slice A1 m c1) w1 ∧ OwnO (Value.int .u8) w1 base 5 (.slice A1 m c1) (xs ++ ys) ∧ W.grownBy w1 v.ownBlock := by
  obtain ⟨A1, c1, w1, h1, h2, h3, _⟩ := app8O HO HR hbase (by rw [List.length_append] at hm; omega)
  rw [hm] at h1 h2
  exact ⟨A1, c1, w1, h1, h2, h3⟩
theorem suX_eq (e a b : Int) : leB e (leW 8) ++ leB a (leW 8) ++ leB b (leW 8) = words8 [e, a, b] := by rw [leW8']; simp [words8]
theorem own_emptyS (W : World) (base : Nat) (h : base ≤ W.heap.size) : OwnO (Value.int .u8) (W.alloc (.cells #[] 5)) base 5 (.slice (some ⟨W.heap.size, 0, none⟩) 0 0) [] := OwnO.of_own (own_lit_of (enc := Value.int .u8) W base 5 [] h (by simp))
set_option maxHeartbeats 8000000 in
set_option maxRecDepth 100000 in
theorem Sum45_calls (va vk u ub sv : Value) (s L : List Int) (e a b : Nat) (w : World) (ha : Rd w .u32 va h0L) (hk : Rd w .u32 vk kT) (hr : Rd w .u8 u s) (hib : isB s) (hL : s.length ≤ 80000) (hn : e ≤ 100000) (hrb : Rd w .u8 ub L) (hibL : isB L) (hLL : L.length ≤ 80000) (hab : a ≤ b) (hbL : b ≤ L.length) :
    Calls Try.prog 65 #[.agg #[va, vk], u, .agg #[.int .u64 (e : Int), .int .u64 (a : Int), .int .u64 (b : Int), sv], ub] w fun v w' => ∃ o, v = .returned o ∧ OwnO (Value.int .u8) w' w.heap.size 5 o (suP (keyE s e) e a b L) ∧ Below w.heap.size w w' := by
  obtain ⟨Aa, ca, eva, _⟩ := ha.mid
  obtain ⟨Ak, ck, evk, _⟩ := hk.mid
  obtain ⟨N, hN⟩ : ∃ N, L.length = N := ⟨_, rfl⟩
  obtain ⟨A0, c0, ev, _⟩ := hrb.mid
  subst eva
  subst evk
  subst ev
  rw [hN] at hrb hLL hbL ⊢
  have HA := Aside0.mk ha
  have HK := Aside0.mk hk
  have HR := Aside0.mk hr
  have HRB := Aside0.mk hrb
  have HIB := Aside0.mk hib
  have HIL := Aside0.mk hibL
  have HN := Aside0.mk hN
  have HXL := Aside0.mk (suX_len (e : Int) a b L hab (by rw [hN]; exact hbL))
  have HXB := Aside0.mk (show isB (suX (e : Int) a b L) from (words8_isB _).app ((hibL.drop _).take _))
  have HKB := Aside0.mk (keyE_isB s e)
  have HKL := Aside0.mk (keyE_len s e)
  obtain ⟨A', hsl, hrd⟩ := Rd.midU hrb hN .u64 a b hab hbL
  have HRD := Aside0.mk hrd
  have HZ := Aside0.mk (blk_alloc (blk_new w (.cells #[.slice Aa h0L.length ca, .slice Ak kT.length ck] 78)) (.cells #[.int .u64 (e : Int), .int .u64 (a : Int), .int .u64 (b : Int), sv] 70))
  have HT := Aside0.mk (show ((w.alloc (.cells #[.slice Aa h0L.length ca, .slice Ak kT.length ck] 78)).alloc (.cells #[.int .u64 (e : Int), .int .u64 (a : Int), .int .u64 (b : Int), sv] 70)).heap[w.heap.size + 1]? = some (.cells #[.int .u64 (e : Int), .int .u64 (a : Int), .int .u64 (b : Int), sv] 70 (0, 0)) by rw [show w.heap.size + 1 = (w.alloc (.cells #[.slice Aa h0L.length ca, .slice Ak kT.length ck] 78)).heap.size from (Array.size_push _).symm]; exact blk_new _ _)
  have HB := Aside0.mk (below_alloc (below_alloc (Below.refl w.heap.size w) (.cells #[.slice Aa h0L.length ca, .slice Ak kT.length ck] 78)) (.cells #[.int .u64 (e : Int), .int .u64 (a : Int), .int .u64 (b : Int), sv] 70))
  clear ha hk hr hib hrb hibL hN hrd
  go_enter Try.func65, Try.ntmps65
  go_upto_region 1 with fail
  obtain ⟨wx, hwx⟩ : ∃ wx, (w.alloc (.cells #[.slice Aa h0L.length ca, .slice Ak kT.length ck] 78)).alloc (.cells #[.int .u64 (e : Int), .int .u64 (a : Int), .int .u64 (b : Int), sv] 70) = wx := ⟨_, rfl⟩
  rw [hwx] at HZ HB HT ⊢
  clear hwx
  have z0 := blk_cell HZ.out 0
  have z1 := blk_cell HZ.out 1
  go_quiet (fail)
  have HBN := Aside0.mk (pw_below_drewN HB.out nq)
  have HZN := Aside0.mk (blk_drewN HZ.out nq)
  have HTN := Aside0.mk (blk_drewN HT.out nq)
  obtain ⟨wn, hwn⟩ : ∃ wn, wx.drewN nq = wn := ⟨_, rfl⟩
  rw [hwn] at HBN HZN HTN ⊢
  clear hwn z0 z1 HZ HB HT
  have y0 := blk_cell HTN.out 0
  have y1 := blk_cell HTN.out 1
  have y2 := blk_cell HTN.out 2
  go_upto_region 2 with fail
  refine start_ (n := 14) (S := fun w' => w'.cell? ⟨w.heap.size + 1, 0, none⟩ = some (.int .u64 (e : Int)) ∧ w'.cell? ⟨w.heap.size + 1, 1, none⟩ = some (.int .u64 (a : Int)) ∧ w'.cell? ⟨w.heap.size + 1, 2, none⟩ = some (.int .u64 (b : Int))) (ds := []) #[false,false,false,false,false,false,false,false,false,false,false,false,false,false] (by kernel_rfl) rfl rfl ⟨y0, y1, y2⟩ (fun hHeld => ?_)
  refine pure_ (i := 1) (N := some 17) (v := ?_) (a' := ?_) #[false,true,false,false,false,false,false,false,false,false,false,false,false,false] rfl rfl (by kernel_rfl) (fun _ _ _ h => h) (Or.inl ⟨by rfl, ?_⟩) ?_ ?_
  rotate_left
  · intro w'
    go_simp
    with_reducible rfl
  rotate_left
  · simp only [Act.put, List.setIfInBounds_toArray, List.set_cons_zero, List.set_cons_succ, i64_w, i32_w]
    rfl
  refine pure_ (i := 5) (N := some 21) (v := ?_) (a' := ?_) #[false,true,false,false,false,true,false,false,false,false,false,false,false,false] rfl rfl (by kernel_rfl) (fun _ _ _ h => h) (Or.inl ⟨by rfl, ?_⟩) ?_ ?_
  rotate_left
  · intro w'
    go_simp
    with_reducible rfl
  rotate_left
  · simp only [Act.put, List.setIfInBounds_toArray, List.set_cons_zero, List.set_cons_succ, i64_w, i32_w]
    rfl
  refine pure_ (i := 9) (N := some 25) (v := ?_) (a' := ?_) #[false,true,false,false,false,true,false,false,false,true,false,false,false,false] rfl rfl (by kernel_rfl) (fun _ _ _ h => h) (Or.inl ⟨by rfl, ?_⟩) ?_ ?_
  rotate_left
  · intro w'
    go_simp
    with_reducible rfl
  rotate_left
  · simp only [Act.put, List.setIfInBounds_toArray, List.set_cons_zero, List.set_cons_succ, i64_w, i32_w]
    rfl
  refine take_ (i := 2) (N := some 18) (v := ?_) (a' := ?_) #[false,true,true,false,false,true,false,false,false,true,false,false,false,false] rfl rfl (by kernel_rfl) (fun _ _ _ h => h) (Or.inl ⟨by rfl, ?_⟩) hHeld ?_ ?_
  rotate_left
  · rintro w' ⟨s0, s1, s2⟩
    go_simp
    with_reducible rfl
  rotate_left
  · simp only [Act.put, List.setIfInBounds_toArray, List.set_cons_zero, List.set_cons_succ, i64_w, i32_w]
    rfl
  refine take_ (i := 6) (N := some 22) (v := ?_) (a' := ?_) #[false,true,true,false,false,true,true,false,false,true,false,false,false,false] rfl rfl (by kernel_rfl) (fun _ _ _ h => h) (Or.inl ⟨by rfl, ?_⟩) hHeld ?_ ?_
  rotate_left
  · rintro w' ⟨s0, s1, s2⟩
    go_simp
    with_reducible rfl
  rotate_left
  · simp only [Act.put, List.setIfInBounds_toArray, List.set_cons_zero, List.set_cons_succ, i64_w, i32_w]
    rfl
  refine take_ (i := 10) (N := some 26) (v := ?_) (a' := ?_) #[false,true,true,false,false,true,true,false,false,true,true,false,false,false] rfl rfl (by kernel_rfl) (fun _ _ _ h => h) (Or.inl ⟨by rfl, ?_⟩) hHeld ?_ ?_
  rotate_left
  · rintro w' ⟨s0, s1, s2⟩
    go_simp
    with_reducible rfl
  rotate_left
  · simp only [Act.put, List.setIfInBounds_toArray, List.set_cons_zero, List.set_cons_succ, i64_w, i32_w]
    rfl
  refine join_ (σ := Value × Nat) 6 #[true,true,true,true,false,true,true,false,false,true,true,false,false,false] (fun s => [(16, .slice (some ⟨s.2, 0, none⟩) 0 0), (19, s.1)]) (fun s w' => Rd w' .u8 s.1 (leB (e : Int) (leW 8)) ∧ OwnO (Value.int .u8) w' wn.heap.size 5 (.slice (some ⟨s.2, 0, none⟩) 0 0) [] ∧ Below wn.heap.size wn w') ?_ ?_
  rotate_left
  · intro hCont
    refine two_ (i := 0) (j := 3) (Ni := some 16) (Nj := some 19) #[true,true,true,false,false,true,true,false,false,true,true,false,false,false] #[false,true,true,true,false,true,true,false,false,true,true,false,false,false] rfl rfl rfl rfl (by kernel_rfl) (by decide) (by decide) (fun K hK => ?_) (fun K hK => ?_)
    · skip
      refine value_ (w1 := ?_) (v := ?_) (by rfl) rfl ?_ ?_
      rotate_left 2
      · go_simp
        constructor
        · rfl
        · rfl
      refine hK.out _ _ ⟨(pw_cell_below (below_alloc (Below.refl _ _) _) hHeld.1), (pw_cell_below (below_alloc (Below.refl _ _) _) hHeld.2.1), (pw_cell_below (below_alloc (Below.refl _ _) _) hHeld.2.2)⟩ (fun hHeld => ?_)
      clear hK K
      refine norm_ (a' := ?_) ?_ ?_
      rotate_left
      · show Act.put _ (some 16) _ = _
        simp only [Act.put, List.setIfInBounds_toArray, List.set_cons_zero, List.set_cons_succ, i64_w, i32_w]
        rfl
      refine one_ (i := 3) (N := some 19) #[true,true,true,true,false,true,true,false,false,true,true,false,false,false] rfl rfl (by kernel_rfl) (by decide) (fun K hK => ?_)
      refine goes_ Try.func104 (by kernel_rfl) rfl #[.int .u64 (e : Int), .int .i64 8] (by rfl) rfl rfl (by (try simp only [List.map_toArray, List.map_cons, List.map_nil]); first | done | rfl) ?_
      with_reducible refine (ref_Bytes_calls (e : Int) 8 _ (by omega) (by omega)).mono ?_
      rintro v w2 ⟨u2, rfl, hu2, hb2⟩
      refine ⟨_, rfl, ?_⟩
      refine hK.out _ _ ⟨(pw_cell_below hb2 hHeld.1), (pw_cell_below hb2 hHeld.2.1), (pw_cell_below hb2 hHeld.2.2)⟩ (fun hHeld => ?_)
      clear hK K
      refine norm_ (a' := ?_) ?_ ?_
      rotate_left
      · show Act.put _ (some 19) _ = _
        simp only [Act.put, List.setIfInBounds_toArray, List.set_cons_zero, List.set_cons_succ, i64_w, i32_w]
        rfl
      exact norm_ (by simp only [putAll, Act.put, List.setIfInBounds_toArray, List.set_cons_zero, List.set_cons_succ]) (hCont (u2, wn.heap.size) _ ⟨Rd.of_R hu2, (own_emptyS wn.drew wn.heap.size (Nat.le_refl _)).below hb2, below_step (below_alloc (below_drew (Below.refl wn.heap.size wn)) _) hb2⟩)
    · skip
      refine goes_ Try.func104 (by kernel_rfl) rfl #[.int .u64 (e : Int), .int .i64 8] (by rfl) rfl rfl (by (try simp only [List.map_toArray, List.map_cons, List.map_nil]); first | done | rfl) ?_
      with_reducible refine (ref_Bytes_calls (e : Int) 8 _ (by omega) (by omega)).mono ?_
      rintro v w2 ⟨u2, rfl, hu2, hb2⟩
      refine ⟨_, rfl, ?_⟩
      refine hK.out _ _ ⟨(pw_cell_below hb2 hHeld.1), (pw_cell_below hb2 hHeld.2.1), (pw_cell_below hb2 hHeld.2.2)⟩ (fun hHeld => ?_)
      clear hK K
      refine norm_ (a' := ?_) ?_ ?_
      rotate_left
      · show Act.put _ (some 19) _ = _
        simp only [Act.put, List.setIfInBounds_toArray, List.set_cons_zero, List.set_cons_succ, i64_w, i32_w]
        rfl
      refine one_ (i := 0) (N := some 16) #[true,true,true,true,false,true,true,false,false,true,true,false,false,false] rfl rfl (by kernel_rfl) (by decide) (fun K hK => ?_)
      refine value_ (w1 := ?_) (v := ?_) (by rfl) rfl ?_ ?_
      rotate_left 2
      · go_simp
        constructor
        · rfl
        · rfl
      refine hK.out _ _ ⟨(pw_cell_below (below_alloc (Below.refl _ _) _) hHeld.1), (pw_cell_below (below_alloc (Below.refl _ _) _) hHeld.2.1), (pw_cell_below (below_alloc (Below.refl _ _) _) hHeld.2.2)⟩ (fun hHeld => ?_)
      clear hK K
      refine norm_ (a' := ?_) ?_ ?_
      rotate_left
      · show Act.put _ (some 16) _ = _
        simp only [Act.put, List.setIfInBounds_toArray, List.set_cons_zero, List.set_cons_succ, i64_w, i32_w]
        rfl
      exact norm_ (by simp only [putAll, Act.put, List.setIfInBounds_toArray, List.set_cons_zero, List.set_cons_succ]) (hCont (u2, w2.heap.size) _ ⟨(Rd.of_R hu2).below (below_alloc (Below.refl _ _) _), own_emptyS w2 wn.heap.size hb2.size, below_alloc (below_step (below_drew (Below.refl wn.heap.size wn)) hb2) _⟩)
  rintro s w5 ⟨hr2, ho2, hB2⟩
  obtain ⟨u2, g0⟩ := s
  dsimp only at hr2 ho2 ⊢
  have hp2 := blk_below HTN.out hB2
  have hHeld : w5.cell? ⟨w.heap.size + 1, 0, none⟩ = some (.int .u64 (e : Int)) ∧ w5.cell? ⟨w.heap.size + 1, 1, none⟩ = some (.int .u64 (a : Int)) ∧ w5.cell? ⟨w.heap.size + 1, 2, none⟩ = some (.int .u64 (b : Int)) := ⟨blk_cell hp2 0, blk_cell hp2 1, blk_cell hp2 2⟩
  refine norm_ (a' := ?_) ?_ ?_
  rotate_left
  · simp only [putAll, Act.put, List.setIfInBounds_toArray, List.set_cons_zero, List.set_cons_succ]
    rfl
  refine one_ (i := 4) (N := some 20) #[true,true,true,true,true,true,true,false,false,true,true,false,false,false] rfl rfl (by kernel_rfl) (by decide) (fun K hK => ?_)
  obtain ⟨A3, c3, w3, hq3, ho3, hg3⟩ := app8N ho2 hr2 hB2.size 8 (by simp [leB_len, leW8']) (by decide)
  have hk3 := Kp.of_grown hg3
  have hp3 := hk3.blk hp2 (ho2.ne hp2 (by decide))
  have hB3 := Kp.from hB2 hk3 (fun k hk => ho2.ge hk)
  refine app_step (by rfl) (.tmp 16) (.tmp 19) rfl rfl rfl hq3 ?_
  refine hK.out _ _ ⟨blk_cell hp3 0, blk_cell hp3 1, blk_cell hp3 2⟩ (fun hHeld => ?_)
  clear hK K
  refine norm_ (a' := ?_) ?_ ?_
  rotate_left
  · show Act.put _ (some 20) _ = _
    simp only [Act.put, List.setIfInBounds_toArray, List.set_cons_zero, List.set_cons_succ, i64_w, i32_w]
    rfl
  refine one_ (i := 7) (N := some 23) #[true,true,true,true,true,true,true,true,false,true,true,false,false,false] rfl rfl (by kernel_rfl) (by decide) (fun K hK => ?_)
  refine goes_ Try.func104 (by kernel_rfl) rfl #[.int .u64 (a : Int), .int .i64 8] (by rfl) rfl rfl (by (try simp only [List.map_toArray, List.map_cons, List.map_nil]); first | done | rfl) ?_
  with_reducible refine (ref_Bytes_calls (a : Int) 8 _ (by omega) (by omega)).mono ?_
  rintro v w4 ⟨u4, rfl, hu4, hb4⟩
  refine ⟨_, rfl, ?_⟩
  have hr4 := Rd.of_R hu4
  have hp4 := blk_below hp3 hb4
  have ho4 := ho3.below hb4
  have hB4 := below_step hB3 hb4
  refine hK.out _ _ ⟨blk_cell hp4 0, blk_cell hp4 1, blk_cell hp4 2⟩ (fun hHeld => ?_)
  clear hK K
  refine norm_ (a' := ?_) ?_ ?_
  rotate_left
  · show Act.put _ (some 23) _ = _
    simp only [Act.put, List.setIfInBounds_toArray, List.set_cons_zero, List.set_cons_succ, i64_w, i32_w]
    rfl
  refine one_ (i := 8) (N := some 24) #[true,true,true,true,true,true,true,true,true,true,true,false,false,false] rfl rfl (by kernel_rfl) (by decide) (fun K hK => ?_)
  obtain ⟨A5, c5, w5, hq5, ho5, hg5⟩ := app8N ho4 hr4 hB4.size 16 (by simp [leB_len, leW8']) (by decide)
  have hk5 := Kp.of_grown hg5
  have hp5 := hk5.blk hp4 (ho4.ne hp4 (by decide))
  have hB5 := Kp.from hB4 hk5 (fun k hk => ho4.ge hk)
  refine app_step (by rfl) (.tmp 20) (.tmp 23) rfl rfl rfl hq5 ?_
  refine hK.out _ _ ⟨blk_cell hp5 0, blk_cell hp5 1, blk_cell hp5 2⟩ (fun hHeld => ?_)
  clear hK K
  refine norm_ (a' := ?_) ?_ ?_
  rotate_left
  · show Act.put _ (some 24) _ = _
    simp only [Act.put, List.setIfInBounds_toArray, List.set_cons_zero, List.set_cons_succ, i64_w, i32_w]
    rfl
  refine one_ (i := 11) (N := some 27) #[true,true,true,true,true,true,true,true,true,true,true,true,false,false] rfl rfl (by kernel_rfl) (by decide) (fun K hK => ?_)
  refine goes_ Try.func104 (by kernel_rfl) rfl #[.int .u64 (b : Int), .int .i64 8] (by rfl) rfl rfl (by (try simp only [List.map_toArray, List.map_cons, List.map_nil]); first | done | rfl) ?_
  with_reducible refine (ref_Bytes_calls (b : Int) 8 _ (by omega) (by omega)).mono ?_
  rintro v w6 ⟨u6, rfl, hu6, hb6⟩
  refine ⟨_, rfl, ?_⟩
  have hr6 := Rd.of_R hu6
  have hp6 := blk_below hp5 hb6
  have ho6 := ho5.below hb6
  have hB6 := below_step hB5 hb6
  refine hK.out _ _ ⟨blk_cell hp6 0, blk_cell hp6 1, blk_cell hp6 2⟩ (fun hHeld => ?_)
  clear hK K
  refine norm_ (a' := ?_) ?_ ?_
  rotate_left
  · show Act.put _ (some 27) _ = _
    simp only [Act.put, List.setIfInBounds_toArray, List.set_cons_zero, List.set_cons_succ, i64_w, i32_w]
    rfl
  refine one_ (i := 12) (N := some 28) #[true,true,true,true,true,true,true,true,true,true,true,true,true,false] rfl rfl (by kernel_rfl) (by decide) (fun K hK => ?_)
  obtain ⟨A7, c7, w7, hq7, ho7, hg7⟩ := app8N ho6 hr6 hB6.size 24 (by simp [leB_len, leW8']) (by decide)
  have hk7 := Kp.of_grown hg7
  have hp7 := hk7.blk hp6 (ho6.ne hp6 (by decide))
  have hB7 := Kp.from hB6 hk7 (fun k hk => ho6.ge hk)
  refine app_step (by rfl) (.tmp 24) (.tmp 27) rfl rfl rfl hq7 ?_
  refine hK.out _ _ ⟨blk_cell hp7 0, blk_cell hp7 1, blk_cell hp7 2⟩ (fun hHeld => ?_)
  clear hK K
  refine norm_ (a' := ?_) ?_ ?_
  rotate_left
  · show Act.put _ (some 28) _ = _
    simp only [Act.put, List.setIfInBounds_toArray, List.set_cons_zero, List.set_cons_succ, i64_w, i32_w]
    rfl
  refine pure_ (i := 13) (N := some 11) (v := ?_) (a' := ?_) #[true,true,true,true,true,true,true,true,true,true,true,true,true,true] rfl rfl (by kernel_rfl) (fun _ _ _ h => h) (Or.inl ⟨by rfl, ?_⟩) ?_ ?_
  rotate_left
  · intro w'
    go_simp
    with_reducible rfl
  rotate_left
  · simp only [Act.put, List.setIfInBounds_toArray, List.set_cons_zero, List.set_cons_succ, i64_w, i32_w]
    rfl
  refine done_ (by kernel_rfl) ?_
  have HO7 := Aside0.mk (show OwnO (Value.int .u8) w7 w.heap.size 5 (.slice A7 24 c7) (words8 [(e : Int), (a : Int), (b : Int)]) by have := ho7.weaken HBN.out.size; rwa [List.nil_append, suX_eq] at this)
  have HB7 := Aside0.mk (below_step HBN.out hB7)
  have HZ7 := Aside0.mk (blk_below HZN.out hB7)
  have HT7 := Aside0.mk hp7
  clear y0 y1 y2 hr2 ho2 hB2 hp2 ho3 hq3 hg3 hk3 hp3 hB3 hr4 hu4 hb4 ho4 hp4 hB4 ho5 hq5 hg5 hk5 hp5 hB5 hr6 hu6 hb6 ho6 hp6 hB6 ho7 hq7 hg7 hk7 hp7 hB7 HZN HTN HBN
  have z0 := blk_cell HZ7.out 0
  have z1 := blk_cell HZ7.out 1
  have y0 := blk_cell HT7.out 0
  have y1 := blk_cell HT7.out 1
  have y2 := blk_cell HT7.out 2
  have HXN := Aside0.mk (show (words8 [(e : Int), (a : Int), (b : Int)] ++ (L.drop a).take (b - a)).length = 24 + (b - a) from HXL.out)
  go_upto_region 3 with fail
  refine start_ (n := 17) (S := fun w' => w'.cell? ⟨w.heap.size, 0, none⟩ = some (.slice Aa h0L.length ca) ∧ w'.cell? ⟨w.heap.size, 1, none⟩ = some (.slice Ak kT.length ck) ∧ w'.cell? ⟨w.heap.size + 1, 0, none⟩ = some (.int .u64 (e : Int)) ∧ w'.cell? ⟨w.heap.size + 1, 1, none⟩ = some (.int .u64 (a : Int)) ∧ w'.cell? ⟨w.heap.size + 1, 2, none⟩ = some (.int .u64 (b : Int))) (ds := []) #[false,false,false,false,false,false,false,false,false,false,false,false,false,false,false,false,false] (by kernel_rfl) rfl rfl ⟨z0, z1, y0, y1, y2⟩ (fun hHeld => ?_)
  refine pure_ (i := 0) (N := some 29) (v := ?_) (a' := ?_) #[true,false,false,false,false,false,false,false,false,false,false,false,false,false,false,false,false] rfl rfl (by kernel_rfl) (fun _ _ _ h => h) (Or.inl ⟨by rfl, ?_⟩) ?_ ?_
  rotate_left
  · intro w'
    go_simp
    with_reducible rfl
  rotate_left
  · simp only [Act.put, List.setIfInBounds_toArray, List.set_cons_zero, List.set_cons_succ, i64_w, i32_w]
    rfl
  refine pure_ (i := 1) (N := some 30) (v := ?_) (a' := ?_) #[true,true,false,false,false,false,false,false,false,false,false,false,false,false,false,false,false] rfl rfl (by kernel_rfl) (fun _ _ _ h => h) (Or.inl ⟨by rfl, ?_⟩) ?_ ?_
  rotate_left
  · intro w'
    go_simp
    with_reducible rfl
  rotate_left
  · simp only [Act.put, List.setIfInBounds_toArray, List.set_cons_zero, List.set_cons_succ, i64_w, i32_w]
    rfl
  refine pure_ (i := 3) (N := some 32) (v := ?_) (a' := ?_) #[true,true,false,true,false,false,false,false,false,false,false,false,false,false,false,false,false] rfl rfl (by kernel_rfl) (fun _ _ _ h => h) (Or.inl ⟨by rfl, ?_⟩) ?_ ?_
  rotate_left
  · intro w'
    go_simp
    with_reducible rfl
  rotate_left
  · simp only [Act.put, List.setIfInBounds_toArray, List.set_cons_zero, List.set_cons_succ, i64_w, i32_w]
    rfl
  refine pure_ (i := 4) (N := some 33) (v := ?_) (a' := ?_) #[true,true,false,true,true,false,false,false,false,false,false,false,false,false,false,false,false] rfl rfl (by kernel_rfl) (fun _ _ _ h => h) (Or.inl ⟨by rfl, ?_⟩) ?_ ?_
  rotate_left
  · intro w'
    go_simp
    with_reducible rfl
  rotate_left
  · simp only [Act.put, List.setIfInBounds_toArray, List.set_cons_zero, List.set_cons_succ, i64_w, i32_w]
    rfl
  refine pure_ (i := 7) (N := some 36) (v := ?_) (a' := ?_) #[true,true,false,true,true,false,false,true,false,false,false,false,false,false,false,false,false] rfl rfl (by kernel_rfl) (fun _ _ _ h => h) (Or.inl ⟨by rfl, ?_⟩) ?_ ?_
  rotate_left
  · intro w'
    go_simp
    with_reducible rfl
  rotate_left
  · simp only [Act.put, List.setIfInBounds_toArray, List.set_cons_zero, List.set_cons_succ, i64_w, i32_w]
    rfl
  refine pure_ (i := 8) (N := some 37) (v := ?_) (a' := ?_) #[true,true,false,true,true,false,false,true,true,false,false,false,false,false,false,false,false] rfl rfl (by kernel_rfl) (fun _ _ _ h => h) (Or.inl ⟨by rfl, ?_⟩) ?_ ?_
  rotate_left
  · intro w'
    go_simp
    with_reducible rfl
  rotate_left
  · simp only [Act.put, List.setIfInBounds_toArray, List.set_cons_zero, List.set_cons_succ, i64_w, i32_w]
    rfl
  refine pure_ (i := 9) (N := some 38) (v := ?_) (a' := ?_) #[true,true,false,true,true,false,false,true,true,true,false,false,false,false,false,false,false] rfl rfl (by kernel_rfl) (fun _ _ _ h => h) (Or.inl ⟨by rfl, ?_⟩) ?_ ?_
  rotate_left
  · intro w'
    go_simp
    with_reducible rfl
  rotate_left
  · simp only [Act.put, List.setIfInBounds_toArray, List.set_cons_zero, List.set_cons_succ, i64_w, i32_w]
    rfl
  refine pure_ (i := 11) (N := some 40) (v := ?_) (a' := ?_) #[true,true,false,true,true,false,false,true,true,true,false,true,false,false,false,false,false] rfl rfl (by kernel_rfl) (fun _ _ _ h => h) (Or.inl ⟨by rfl, ?_⟩) ?_ ?_
  rotate_left
  · intro w'
    go_simp
    with_reducible rfl
  rotate_left
  · simp only [Act.put, List.setIfInBounds_toArray, List.set_cons_zero, List.set_cons_succ, i64_w, i32_w]
    rfl
  refine take_ (i := 2) (N := some 31) (v := ?_) (a' := ?_) #[true,true,true,true,true,false,false,true,true,true,false,true,false,false,false,false,false] rfl rfl (by kernel_rfl) (fun _ _ _ h => h) (Or.inl ⟨by rfl, ?_⟩) hHeld ?_ ?_
  rotate_left
  · rintro w' ⟨s0, s1, s2, s3, s4⟩
    go_simp
    with_reducible rfl
  rotate_left
  · simp only [Act.put, List.setIfInBounds_toArray, List.set_cons_zero, List.set_cons_succ, i64_w, i32_w]
    rfl
  refine take_ (i := 5) (N := some 34) (v := ?_) (a' := ?_) #[true,true,true,true,true,true,false,true,true,true,false,true,false,false,false,false,false] rfl rfl (by kernel_rfl) (fun _ _ _ h => h) (Or.inl ⟨by rfl, ?_⟩) hHeld ?_ ?_
  rotate_left
  · rintro w' ⟨s0, s1, s2, s3, s4⟩
    go_simp
    with_reducible rfl
  rotate_left
  · simp only [Act.put, List.setIfInBounds_toArray, List.set_cons_zero, List.set_cons_succ, i64_w, i32_w]
    rfl
  refine take_ (i := 10) (N := some 39) (v := ?_) (a' := ?_) #[true,true,true,true,true,true,false,true,true,true,true,true,false,false,false,false,false] rfl rfl (by kernel_rfl) (fun _ _ _ h => h) (Or.inl ⟨by rfl, ?_⟩) hHeld ?_ ?_
  rotate_left
  · rintro w' ⟨s0, s1, s2, s3, s4⟩
    go_simp
    with_reducible rfl
  rotate_left
  · simp only [Act.put, List.setIfInBounds_toArray, List.set_cons_zero, List.set_cons_succ, i64_w, i32_w]
    rfl
  refine take_ (i := 12) (N := some 41) (v := ?_) (a' := ?_) #[true,true,true,true,true,true,false,true,true,true,true,true,true,false,false,false,false] rfl rfl (by kernel_rfl) (fun _ _ _ h => h) (Or.inl ⟨by rfl, ?_⟩) hHeld ?_ ?_
  rotate_left
  · rintro w' ⟨s0, s1, s2, s3, s4⟩
    go_simp
    with_reducible rfl
  rotate_left
  · simp only [Act.put, List.setIfInBounds_toArray, List.set_cons_zero, List.set_cons_succ, i64_w, i32_w]
    rfl
  refine pure_ (i := 13) (N := some 42) (v := ?_) (a' := ?_) #[true,true,true,true,true,true,false,true,true,true,true,true,true,true,false,false,false] rfl rfl (by kernel_rfl) (fun _ _ _ h => h) (Or.inl ⟨by rfl, ?_⟩) ?_ ?_
  rotate_left
  · intro w'
    go_simp
    with_reducible rfl
  rotate_left
  · simp only [Act.put, List.setIfInBounds_toArray, List.set_cons_zero, List.set_cons_succ, i64_w, i32_w]
    rfl
  refine one_ (i := 6) (N := some 35) #[true,true,true,true,true,true,true,true,true,true,true,true,true,true,false,false,false] rfl rfl (by kernel_rfl) (by decide) (fun K hK => ?_)
  refine goes_ Try.func106 (by kernel_rfl) rfl #[.agg #[.slice Aa h0L.length ca, .slice Ak kT.length ck], u, .int .u64 (e : Int)] (by rfl) rfl rfl (by (try simp only [List.map_toArray, List.map_cons, List.map_nil]); first | done | rfl) ?_
  with_reducible refine (Key45_calls _ _ u s e _ (HA.out.below (below_drew HB7.out)) (HK.out.below (below_drew HB7.out)) (HR.out.below (below_drew HB7.out)) HIB.out hL hn).mono ?_
  rintro v w8 ⟨v8, rfl, ho8, hb8⟩
  refine ⟨_, rfl, ?_⟩
  refine hK.out _ _ ⟨(pw_cell_below hb8 hHeld.1), (pw_cell_below hb8 hHeld.2.1), (pw_cell_below hb8 hHeld.2.2.1), (pw_cell_below hb8 hHeld.2.2.2.1), (pw_cell_below hb8 hHeld.2.2.2.2)⟩ (fun hHeld => ?_)
  clear hK K
  refine norm_ (a' := ?_) ?_ ?_
  rotate_left
  · show Act.put _ (some 35) _ = _
    simp only [Act.put, List.setIfInBounds_toArray, List.set_cons_zero, List.set_cons_succ, i64_w, i32_w]
    rfl
  refine one_ (i := 14) (N := some 43) #[true,true,true,true,true,true,true,true,true,true,true,true,true,true,true,false,false] rfl rfl (by kernel_rfl) (by decide) (fun K hK => ?_)
  have hB8 := below_step (below_drew HB7.out) hb8
  have hO8 := (show OwnO (Value.int .u8) w7.drew w.heap.size 5 (.slice A7 24 c7) (words8 [(e : Int), (a : Int), (b : Int)]) from HO7.out).below hb8
  obtain ⟨A9, c9, w9, hq9, ho9, hg9⟩ := app8N hO8 (HRD.out _ (HRB.out.below hB8)) hB8.size (24 + (b - a)) HXN.out (by omega)
  have hk9 := Kp.of_grown hg9
  have hB9 := Kp.from hB8 hk9 (fun k hk => hO8.ge hk)
  have hZ9 := hk9.blk (blk_below (blk_drew HZ7.out) hb8) (hO8.ne (blk_below (blk_drew HZ7.out) hb8) (by decide))
  have hT9 := hk9.blk (blk_below (blk_drew HT7.out) hb8) (hO8.ne (blk_below (blk_drew HT7.out) hb8) (by decide))
  have hV9 := ho8.kp hk9 (fun k hk h => by have := ho8.ge hk; have h2 := HO7.out.lt h; exact absurd this (Nat.not_le_of_lt h2))
  have hR9 : Rd w9 .u8 (.slice A9 (24 + (b - a)) c9) (suX (e : Int) a b L) := ho9.rd
  refine app_step (by rfl) (.tmp 36) (.tmp 42) rfl rfl rfl hq9 ?_
  refine hK.out _ _ ⟨blk_cell hZ9 0, blk_cell hZ9 1, blk_cell hT9 0, blk_cell hT9 1, blk_cell hT9 2⟩ (fun hHeld => ?_)
  clear hK K
  refine norm_ (a' := ?_) ?_ ?_
  rotate_left
  · show Act.put _ (some 43) _ = _
    simp only [Act.put, List.setIfInBounds_toArray, List.set_cons_zero, List.set_cons_succ, i64_w, i32_w]
    rfl
  refine one_ (i := 15) (N := some 44) #[true,true,true,true,true,true,true,true,true,true,true,true,true,true,true,true,false] rfl rfl (by kernel_rfl) (by decide) (fun K hK => ?_)
  refine goes_ Try.func105 (by kernel_rfl) rfl #[.slice Aa h0L.length ca, .slice Ak kT.length ck, v8, .slice A9 (24 + (b - a)) c9] (by rfl) rfl rfl (by (try simp only [List.map_toArray, List.map_cons, List.map_nil]); first | done | rfl) ?_
  with_reducible refine (refKeyed_calls _ _ _ _ (keyE s e) (suX (e : Int) a b L) _ (HA.out.below hB9) (HK.out.below hB9) hV9.rd HKB.out hR9 HXB.out (by rw [HXL.out]; omega) (by rw [HKL.out]; decide)).mono ?_
  rintro v w10 ⟨v10, rfl, ho10, hb10⟩
  refine ⟨_, rfl, ?_⟩
  refine hK.out _ _ ⟨(pw_cell_below hb10 hHeld.1), (pw_cell_below hb10 hHeld.2.1), (pw_cell_below hb10 hHeld.2.2.1), (pw_cell_below hb10 hHeld.2.2.2.1), (pw_cell_below hb10 hHeld.2.2.2.2)⟩ (fun hHeld => ?_)
  clear hK K
  refine norm_ (a' := ?_) ?_ ?_
  rotate_left
  · show Act.put _ (some 44) _ = _
    simp only [Act.put, List.setIfInBounds_toArray, List.set_cons_zero, List.set_cons_succ, i64_w, i32_w]
    rfl
  refine pure_ (i := 16) (N := some 8) (v := ?_) (a' := ?_) #[true,true,true,true,true,true,true,true,true,true,true,true,true,true,true,true,true] rfl rfl (by kernel_rfl) (fun _ _ _ h => h) (Or.inl ⟨by rfl, ?_⟩) ?_ ?_
  rotate_left
  · intro w'
    go_simp
    with_reducible rfl
  rotate_left
  · simp only [Act.put, List.setIfInBounds_toArray, List.set_cons_zero, List.set_cons_succ, i64_w, i32_w]
    rfl
  refine done_ (by kernel_rfl) ?_
  go_wp2_with fail
  go_ret
  exact ⟨_, rfl, ho10.weaken hB9.size, below_step hB9 hb10⟩
end Go.Proofs.Ytplmdgimodgekaa
end
