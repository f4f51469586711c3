/- SHA-256: Of, Hex. -/
import Derived.Test.YtplmdgimodgekaaDigS
import Derived.Test.YtplmdgimodgekaaArr
namespace Go.Proofs.Ytplmdgimodgekaa
open Go.RowKit Go.Proofs.YtplmdgimodgekaaW.PrintWords Go.Proofs.YtplmdgimodgekaaW.PrintLast Go.Proofs.YtplmdgimodgekaaW.PrintMore
attribute [local go_sem] max2_int min2_int max_two min_two max_three min_three max_four min_four   -- for this text's walks alone
set_option linter.unusedVariables false
set_option linter.unusedSimpArgs false

theorem zeros32 : (#[.int .u8 0, .int .u8 0, .int .u8 0, .int .u8 0, .int .u8 0, .int .u8 0, .int .u8 0, .int .u8 0, .int .u8 0, .int .u8 0, .int .u8 0, .int .u8 0, .int .u8 0, .int .u8 0, .int .u8 0, .int .u8 0, .int .u8 0, .int .u8 0, .int .u8 0, .int .u8 0, .int .u8 0, .int .u8 0, .int .u8 0, .int .u8 0, .int .u8 0, .int .u8 0, .int .u8 0, .int .u8 0, .int .u8 0, .int .u8 0, .int .u8 0, .int .u8 0] : Array Value) = (nums .u8 (fillL (fun _ => 0) 32 0)).toArray := rfl
set_option maxHeartbeats 8000000 in
set_option maxRecDepth 100000 in
theorem dOf_calls (u : Value) (L : List Int) (w : World) (hr : Rd w .u8 u L) (hib : isB L) (hL : L.length ≤ 100000) :
    Calls Try.prog 132 #[u] w fun e w' => e = .returned (.agg (nums .u8 (shaP L)).toArray) ∧ Below w.heap.size w w' := by
  obtain ⟨A0, c0, ev, _⟩ := hr.mid
  subst ev
  have HR := Aside0.mk hr
  have HIB := Aside0.mk hib
  have HL := Aside0.mk hL
  have HZ0 := Aside0.mk (show (w.alloc (.cells #[.int .u8 0, .int .u8 0, .int .u8 0, .int .u8 0, .int .u8 0, .int .u8 0, .int .u8 0, .int .u8 0, .int .u8 0, .int .u8 0, .int .u8 0, .int .u8 0, .int .u8 0, .int .u8 0, .int .u8 0, .int .u8 0, .int .u8 0, .int .u8 0, .int .u8 0, .int .u8 0, .int .u8 0, .int .u8 0, .int .u8 0, .int .u8 0, .int .u8 0, .int .u8 0, .int .u8 0, .int .u8 0, .int .u8 0, .int .u8 0, .int .u8 0, .int .u8 0] 72)).heap[w.heap.size]? = some (.cells (nums .u8 (fillL (fun _ => 0) 32 0)).toArray 72 (0, 0)) from blk_new w _)
  have HB0 := Aside0.mk (below_alloc (Below.refl w.heap.size w) (.cells #[.int .u8 0, .int .u8 0, .int .u8 0, .int .u8 0, .int .u8 0, .int .u8 0, .int .u8 0, .int .u8 0, .int .u8 0, .int .u8 0, .int .u8 0, .int .u8 0, .int .u8 0, .int .u8 0, .int .u8 0, .int .u8 0, .int .u8 0, .int .u8 0, .int .u8 0, .int .u8 0, .int .u8 0, .int .u8 0, .int .u8 0, .int .u8 0, .int .u8 0, .int .u8 0, .int .u8 0, .int .u8 0, .int .u8 0, .int .u8 0, .int .u8 0, .int .u8 0] 72))
  clear hr hib hL
  go_enter Try.func132, Try.ntmps132
  go_wp2_with fail
  obtain ⟨wx, hwx⟩ : ∃ wx, w.alloc (.cells #[.int .u8 0, .int .u8 0, .int .u8 0, .int .u8 0, .int .u8 0, .int .u8 0, .int .u8 0, .int .u8 0, .int .u8 0, .int .u8 0, .int .u8 0, .int .u8 0, .int .u8 0, .int .u8 0, .int .u8 0, .int .u8 0, .int .u8 0, .int .u8 0, .int .u8 0, .int .u8 0, .int .u8 0, .int .u8 0, .int .u8 0, .int .u8 0, .int .u8 0, .int .u8 0, .int .u8 0, .int .u8 0, .int .u8 0, .int .u8 0, .int .u8 0, .int .u8 0] 72) = wx := ⟨_, rfl⟩
  rw [hwx] at HZ0 HB0 ⊢
  clear hwx
  refine (dNew_calls _).mono ?_
  rintro e w1 ⟨rfl, hn, hb⟩
  have HB1 := Aside0.mk (below_step HB0.out hb)
  have HZ1 := Aside0.mk (blk_below HZ0.out hb)
  have HD1 := Aside0.mk (show DigS w1 wx.heap.size w.heap.size (.slice none 0 0) [] 0 from ⟨hn, OwnO.nil _ _ _ _⟩)
  have HP := Aside0.mk (show w.heap.size < wx.heap.size from blk_lt HZ0.out)
  obtain ⟨p, hp⟩ : ∃ p, wx.heap.size = p := ⟨_, rfl⟩
  rw [hp] at HD1 HP ⊢
  clear hn hb hp
  go_wp2_with fail
  refine (Write_calls _ L _ p w.heap.size _ [] 0 HD1.out (HR.out.below HB1.out) HIB.out HB1.out.size (Nat.le_of_lt HP.out) HL.out (by omega) (by omega)).mono ?_
  rintro e w2 ⟨rfl, v2, hd, hk, ha⟩
  rw [List.nil_append, Int.zero_add] at hd
  have HD2 := Aside0.mk hd
  have HB2 := Aside0.mk (Kp.from HB1.out hk (fun k hk => hk.elim (fun e => by rw [e]; exact Nat.le_of_lt HP.out) (fun e => by simp [Value.ownBlock] at e)))
  have HZ2 := Aside0.mk (hk.blk HZ1.out (fun h => h.elim (fun e => by have := HP.out; omega) (fun e => by simp [Value.ownBlock] at e)))
  clear hd hk ha
  go_wp2_with fail
  refine (Sum_calls _ p w.heap.size v2 L HD2.out HIB.out HL.out).mono ?_
  rintro e w3 ⟨rfl, hb⟩
  have HB3 := Aside0.mk (below_step HB2.out hb)
  have HZ3 := Aside0.mk (blk_below HZ2.out hb)
  have HT := Aside0.mk (there32 L HZ3.out)
  have H1 := Aside0.mk (ones_nums .u8 (shaP L))
  clear hb
  go_wp2_with (first | (refine wpList_store_mid rfl 72 (.tmp 2) (.tmp 9) rfl w.heap.size 0 (nums .u8 (shaP L)).toArray rfl rfl HT.out (info32A L) H1.out ?_))
  exact bodyPost_ret (results_cell (i := 2) rfl rfl (run_loadVar_mid _ w.heap.size 0 72 (nums .u8 (shaP L)) (.array 32 5) (World.rangeAt_setCells_same _ _ _ _ HT.out) Try.underlying72 rfl (info32L L))) rfl ⟨rfl, below_cells (Nat.le_refl _) _ _ _ HB3.out⟩
/-- A digit; sixteen by sixteen. -/
def hdg (d : Int) : Int := if d < 10 then 48 + d else 87 + d
def hexP (l : List Int) : List Int := l.flatMap fun x => [hdg (x / 16), hdg (x % 16)]
theorem hexP_app (l m : List Int) : hexP (l ++ m) = hexP l ++ hexP m := by simp [hexP]
theorem hexP_len : ∀ l : List Int, (hexP l).length = 2 * l.length
  | [] => rfl
  | x :: l => by have := hexP_len l; simp only [hexP, List.flatMap_cons, List.length_append, List.length_cons, List.length_nil] at this ⊢; omega
theorem hexP_take (l : List Int) (k : Nat) (h : k < l.length) : hexP (l.take k) ++ [hdg (l.getD k 0 / 16), hdg (l.getD k 0 % 16)] = hexP (l.take (k + 1)) := by
  rw [List.take_add_one, List.getElem?_eq_getElem h, List.getD_eq_getElem?_getD, List.getElem?_eq_getElem h, hexP_app]; rfl
theorem dig_index (d : Int) (h0 : 0 ≤ d) (h1 : d ≤ 15) (W : World) : (Instr.index 9 (.string {data := #[48, 49, 50, 51, 52, 53, 54, 55, 56, 57, 97, 98, 99, 100, 101, 102]}) (.int .u8 d)).run Try.prog W = .ok (.int .u8 (hdg d)) W := by
  obtain ⟨n, rfl⟩ := Int.eq_ofNat_of_zero_le h0
  obtain rfl | rfl | rfl | rfl | rfl | rfl | rfl | rfl | rfl | rfl | rfl | rfl | rfl | rfl | rfl | rfl := (by omega : n = 0 ∨ n = 1 ∨ n = 2 ∨ n = 3 ∨ n = 4 ∨ n = 5 ∨ n = 6 ∨ n = 7 ∨ n = 8 ∨ n = 9 ∨ n = 10 ∨ n = 11 ∨ n = 12 ∨ n = 13 ∨ n = 14 ∨ n = 15) <;> (rw [run_index_string _ _ _ _ _ Try.underlying9]; rfl)
theorem and15b : ∀ n : Fin 256, bits .and .u8 (n.val : Int) 15 = (n.val : Int) % 16 := by decide +kernel
theorem and15u (x : Int) (h0 : 0 ≤ x) (h1 : x ≤ 255) : bits .and .u8 x 15 = x % 16 := by
  obtain ⟨n, rfl⟩ := Int.eq_ofNat_of_zero_le h0
  exact and15b ⟨n, by omega⟩
theorem info32N {l : List Int} (h : l.length = 32) : (Try.prog.info? 72).map (·.size) = some (nums .u8 l).length := by rw [nums_len, h]; exact info32
theorem index32 (ws : List Int) (x : Int) (i : Nat) (hi : i < 32) (hx : (nums .u8 ws).toArray[i]? = some (.int .u8 x)) (W : World) : (Instr.index 72 (.agg (nums .u8 ws).toArray) (.int .i64 i)).run Try.prog W = .ok (.int .u8 x) W := by
  have hI : (Try.prog.info? 5).map (·.size) = some 1 := by kernel_rfl
  obtain ⟨i5, hi5, hz5⟩ := Option.map_eq_some_iff.1 hI
  have c1 : (0 : Int) ≤ (i : Int) ∧ (i : Int) < 32 := by omega
  have hp : (part 5 (nums .u8 ws).toArray i).run Try.prog W = .ok (.int .u8 x) W := by
    unfold part isAgg
    simp only [Sem.run_bind, run_underlying Try.underlying5, Result.andThen_ok, Sem.run_pure, hx]
    simp
  unfold Instr.index
  simp only [asIntOf, Sem.run_bind, Sem.run_pure, run_underlying Try.underlying72, Result.andThen_ok, sizeOf, typeInfo, hi5]
  simp [hi5, hz5, hp, c1.2]
theorem outB_bd (ws : List Int) (j : Nat) : 0 ≤ outB ws j ∧ outB ws j ≤ 255 := by unfold outB; omega
theorem shaP_isB (L : List Int) : isB (shaP L) := fun x hx => by
  simp only [shaP, List.mem_map] at hx
  obtain ⟨i, _, rfl⟩ := hx
  exact outB_bd _ _
end Go.Proofs.Ytplmdgimodgekaa
