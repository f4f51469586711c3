/- SHA-256's numbers of rounds. -/
import Derived.Test.YtplmdgimodgekaaDigB
import Derived.Deep.WholeRow
import Derived.Deep.MidRow
namespace Go.Proofs.Ytplmdgimodgekaa
open Go.RowKit Go.Proofs.YtplmdgimodgekaaW.PrintWords Go.Proofs.YtplmdgimodgekaaW.PrintLast Go.Proofs.YtplmdgimodgekaaW.PrintMore
attribute [local go_sem] max2_int min2_int max_two min_two max_three min_three max_four min_four   -- for this text's walks alone
set_option linter.unusedVariables false
set_option linter.unusedSimpArgs false


def kT : List Int := [1116352408, 1899447441, 3049323471, 3921009573, 961987163, 1508970993, 2453635748, 2870763221, 3624381080, 310598401, 607225278, 1426881987, 1925078388, 2162078206, 2614888103, 3248222580, 3835390401, 4022224774, 264347078, 604807628, 770255983, 1249150122, 1555081692, 1996064986, 2554220882, 2821834349, 2952996808, 3210313671, 3336571891, 3584528711, 113926993, 338241895, 666307205, 773529912, 1294757372, 1396182291, 1695183700, 1986661051, 2177026350, 2456956037, 2730485921, 2820302411, 3259730800, 3345764771, 3516065817, 3600352804, 4094571909, 275423344, 430227734, 506948616, 659060556, 883997877, 958139571, 1322822218, 1537002063, 1747873779, 1955562222, 2024104815, 2227730452, 2361852424, 2428436474, 2756734187, 3204031479, 3329325298]
theorem kT_len : kT.length = 64 := rfl
theorem kT_bd (i : Nat) : 0 ≤ kT.getD i 0 ∧ kT.getD i 0 ≤ 4294967295 := by
  have : ∀ x ∈ kT, 0 ≤ x ∧ x ≤ 4294967295 := by decide
  rw [List.getD_eq_getElem?_getD]
  cases e : kT[i]? with
  | none => simp
  | some x => exact this x (List.mem_of_getElem? e)
theorem nums_get (k : IntKind) (l : List Int) (i : Nat) (h : i < l.length) : (nums k l).toArray[i]? = some (.int k (l.getD i 0)) := by
  simp [nums, List.getD_eq_getElem?_getD, h]
theorem wpList_store_fresh {P : Program} {ops : Array Oper} {rest : List Oper} {op : Oper} {a : Act} {w : World} {Q : Exit → Act → World → Prop} (hgd : op.guard = none) (ty : TypeId) (x y : Operand) (ho : op.op = .store ty x y) (c c' : Array Value) (hx : a.eval x = .pointer (some ⟨w.heap.size, 0, none⟩)) (hy : a.eval y = .agg c')
    (hi : (P.info? ty).map (·.size) = some c'.size) (hs : c.size = c'.size) (h1 : c'.all (·.oneCell') = true) (h : wpList P ops Q rest (a.put op.dst undef) (w.alloc (.cells c' ty))) : wpList P ops Q (op :: rest) a (w.alloc (.cells c ty)) :=
  wpList_plain hgd fun K hK => by
    have hr := run_storeAt_new (P := P) w ty c c' hi hs h1
    unfold Oper.wp execOp
    simp only [ho, hx, hy, hr, Sem.run_bind, Sem.run_pure, Result.andThen_ok]
    exact hK _ _ h
theorem info64 : (Try.prog.info? 220).map (·.size) = some (nums .u32 kT).toArray.size := by kernel_rfl
theorem ones_nums (k : IntKind) (l : List Int) : (nums k l).toArray.all (·.oneCell') = true := all_oneCell_toArray (fun v hv => by simp only [nums, List.mem_map] at hv; obtain ⟨x, _, rfl⟩ := hv; rfl)
set_option maxHeartbeats 8000000 in
set_option maxRecDepth 100000 in
theorem round_calls (i : Nat) (w : World) (h : i < 64) : Calls Try.prog 153 #[.int .i64 i] w fun e w' => e = .returned (.int .u32 (kT.getD i 0)) ∧ Below w.heap.size w w' := by
  have i0 : (0 : Int) ≤ (i : Int) := by omega
  have i1 : (i : Int) < 64 := by omega
  have HX := Aside0.mk (blk_new w (.cells (nums .u32 kT).toArray 220))
  have HG := Aside0.mk (nums_get .u32 kT i h)
  go_enter Try.func153, Try.ntmps153
  have HS := Aside0.mk (below_alloc (Below.refl w.heap.size w) (.cells (nums .u32 kT).toArray 220))
  go_wp2_with (first | (refine wpList_store_fresh rfl 220 (.tmp 3) (.tmp 4) rfl _ (nums .u32 kT).toArray rfl rfl info64 rfl (ones_nums _ _) ?_; generalize (Value.agg #[.int .u32 1116352408, .int .u32 1899447441, .int .u32 3049323471, .int .u32 3921009573, .int .u32 961987163, .int .u32 1508970993, .int .u32 2453635748, .int .u32 2870763221, .int .u32 3624381080, .int .u32 310598401, .int .u32 607225278, .int .u32 1426881987, .int .u32 1925078388, .int .u32 2162078206, .int .u32 2614888103, .int .u32 3248222580, .int .u32 3835390401, .int .u32 4022224774, .int .u32 264347078, .int .u32 604807628, .int .u32 770255983, .int .u32 1249150122, .int .u32 1555081692, .int .u32 1996064986, .int .u32 2554220882, .int .u32 2821834349, .int .u32 2952996808, .int .u32 3210313671, .int .u32 3336571891, .int .u32 3584528711, .int .u32 113926993, .int .u32 338241895, .int .u32 666307205, .int .u32 773529912, .int .u32 1294757372, .int .u32 1396182291, .int .u32 1695183700, .int .u32 1986661051, .int .u32 2177026350, .int .u32 2456956037, .int .u32 2730485921, .int .u32 2820302411, .int .u32 3259730800, .int .u32 3345764771, .int .u32 3516065817, .int .u32 3600352804, .int .u32 4094571909, .int .u32 275423344, .int .u32 430227734, .int .u32 506948616, .int .u32 659060556, .int .u32 883997877, .int .u32 958139571, .int .u32 1322822218, .int .u32 1537002063, .int .u32 1747873779, .int .u32 1955562222, .int .u32 2024104815, .int .u32 2227730452, .int .u32 2361852424, .int .u32 2428436474, .int .u32 2756734187, .int .u32 3204031479, .int .u32 3329325298]) = v4; obtain ⟨wx, hwx⟩ : ∃ wx, w.alloc (.cells (nums .u32 kT).toArray 220) = wx := ⟨_, rfl⟩; rw [hwx] at HX HS ⊢; have z := (blk_cell HX.out i).trans HG.out; clear hwx))
  go_ret
  exact ⟨rfl, HS.out⟩
end Go.Proofs.Ytplmdgimodgekaa
