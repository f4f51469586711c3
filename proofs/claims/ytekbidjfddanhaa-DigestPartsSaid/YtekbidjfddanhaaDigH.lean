/- SHA-256: awake; DigestHex. -/
import Derived.Test.YtekbidjfddanhaaDigO
import Derived.Test.YtekbidjfddanhaaDigA
import Derived.Test.YtekbidjfddanhaaArr
namespace Go.Proofs.Ytekbidjfddanhaa
open Go.RowKit Go.Proofs.YtekbidjfddanhaaW.PrintWords Go.Proofs.YtekbidjfddanhaaW.PrintLast Go.Proofs.YtekbidjfddanhaaW.PrintMore
attribute [local go_sem] max2_int min2_int max_two min_two max_three min_three max_four min_four   -- for this text's walks alone
set_option linter.unusedVariables false
set_option linter.unusedSimpArgs false

theorem str_size (L : List Int) : (strOfNums L).size = L.length := by simp [strOfNums, ByteArray.size]
theorem abc_cmp : (((strOfNums (hexP (shaP [97, 98, 99]))).extract 0 8).toList == [98, 97, 55, 56, 49, 54, 98, 102]) = true := by rw [abc_sha]; decide +kernel
theorem abc_size : (strOfNums (hexP (shaP [97, 98, 99]))).size = 64 := by rw [str_size, hexP_len, shaP_len]
theorem outB_bd (ws : List Int) (j : Nat) : 0 ≤ outB ws j ∧ outB ws j ≤ 255 := by unfold outB; omega
theorem shaP_isB (L : List Int) : isB (shaP L) := fun x hx => by
  simp only [shaP, List.mem_map] at hx
  obtain ⟨i, _, rfl⟩ := hx
  exact outB_bd _ _
set_option maxHeartbeats 8000000 in
set_option maxRecDepth 100000 in
theorem dig_awake_calls (w : World) :
    Calls Try.prog 43 #[] w fun e w' => e = .returned (.bool true) ∧ Below w.heap.size w w' := by
  obtain ⟨s, hs⟩ : ∃ s, strOfNums (hexP (shaP [97, 98, 99])) = s := ⟨_, rfl⟩
  have HS := Aside0.mk hs
  have hsz := abc_size
  have hcm := abc_cmp
  rw [hs] at hsz hcm
  clear hs
  go_enter Try.func43, Try.ntmps43
  go_wp2_with fail
  refine (dOf_calls _ [97, 98, 99] _ (lit_rdE (Value.int .u8) 0 w 5 [97, 98, 99] (by decide)) (lit_isB (by decide)) (by decide)).mono ?_
  rintro e w1 ⟨rfl, hb⟩
  have HB1 := Aside0.mk (below_step (below_alloc (Below.refl _ _) _) hb)
  clear hb
  go_wp2_with fail
  refine (dHex_calls (shaP [97, 98, 99]) _ (shaP_len _) (shaP_isB _)).mono ?_
  rintro e w2 ⟨rfl, hb⟩
  have HB2 := Aside0.mk (below_step HB1.out hb)
  clear hb
  rw [HS.out]
  go_wp2_with fail
  go_ret
  exact ⟨rfl, HB2.out⟩
theorem str_index (L : List Int) (hib : isB L) (n : Nat) (k : Int) (hk : k = (n : Int)) (hn : n < L.length) (W : World) : (Instr.index 9 (.string (strOfNums L)) (.int .i64 k)).run Try.prog W = .ok (.int .u8 (L.getD n 0)) W := by
  subst hk
  have hsz := str_size L
  have hb := hib.getD n
  rw [run_index_string _ _ _ _ _ Try.underlying9, dif_pos ⟨by omega, by omega⟩]
  have : (((strOfNums L)[(n : Int).toNat]'(by rw [hsz]; omega)).toNat : Int) = L.getD n 0 := by
    show ((((L.map fun n => UInt8.ofNat n.toNat).toArray)[n]'(by simpa using hn)).toNat : Int) = _
    rw [List.getD_eq_getElem?_getD, List.getElem?_eq_getElem hn] at hb ⊢
    simp only [List.getElem_toArray, List.getElem_map, Option.getD_some] at hb ⊢
    simp; omega
  rw [this]
theorem hdg_bd (d : Int) (h0 : 0 ≤ d) (h1 : d ≤ 15) : 0 ≤ hdg d ∧ hdg d ≤ 255 := by unfold hdg; split <;> omega
theorem hexP_isB {l : List Int} (h : isB l) : isB (hexP l) := fun y hy => by
  simp only [hexP, List.mem_flatMap, List.mem_cons, List.not_mem_nil, or_false] at hy
  obtain ⟨x, hx, rfl | rfl⟩ := hy
  · have := h x hx; exact hdg_bd _ (by omega) (by omega)
  · have := h x hx; exact hdg_bd _ (by omega) (by omega)
theorem hexP_get : ∀ (l : List Int) (i : Nat), i < l.length → (hexP l).getD (2 * i) 0 = hdg (l.getD i 0 / 16) ∧ (hexP l).getD (2 * i + 1) 0 = hdg (l.getD i 0 % 16)
  | [], i, h => by simp at h
  | x :: l, 0, _ => ⟨rfl, rfl⟩
  | x :: l, i + 1, h => by
    have := hexP_get l i (by simpa using h)
    exact this
def preZ (x : Int) (j : Nat) : Int := if j = 0 then 0 else if j = 1 then x / 16 else x
set_option maxHeartbeats 8000000 in
set_option maxRecDepth 100000 in
theorem DigestHex_go (l : List Int) (w : World) (hl : l.length = 32) (hib : isB l) : Calls Try.prog 13 #[.agg (nums .u8 l).toArray] w fun e w' => e = .returned (.bool true) ∧ Below w.heap.size w w' := by
  have HIB := Aside0.mk hib
  have HL := Aside0.mk hl
  have HA := Aside0.mk (blk_new w (.cells (nums .u8 l).toArray 69))
  have HB0 := Aside0.mk (below_alloc (Below.refl w.heap.size w) (.cells (nums .u8 l).toArray 69))
  obtain ⟨s, hs⟩ : ∃ s, strOfNums (hexP l) = s := ⟨_, rfl⟩
  have HS := Aside0.mk hs
  have hsz : s.size = 64 := by rw [← hs, str_size, hexP_len, hl]
  clear hib hl hs
  go_enter Try.func13, Try.ntmps13
  go_wp2_with (first | (refine wpList_load_mid rfl 69 (.tmp 1) rfl w.heap.size 0 rfl (nums .u8 l) (.array 32 5) (range_blk HA.out) Try.underlying69 rfl (info32N HL.out) ?_))
  refine (dHex_calls l _ HL.out HIB.out).mono ?_
  rintro e w1 ⟨rfl, hb⟩
  have HA1 := Aside0.mk (blk_below HA.out hb)
  have HB1 := Aside0.mk (below_step HB0.out hb)
  clear hb HA HB0
  rw [HS.out]
  go_wp2_with fail
  go_loop [4, 5, 6, 7] (fun v4 v5 v6 v7 => ∃ i : Nat, i ≤ 32 ∧ v4 = .int .i64 i) (fun v4 _ _ _ => 32 - (intOf v4).toNat)
  case atStart => exact ⟨0, by omega, rfl⟩
  case round =>
    obtain ⟨i, hi, rfl⟩ := hrel
    by_cases c1 : i < 32
    · obtain ⟨x, ex⟩ : ∃ x, l.getD i 0 = x := ⟨_, rfl⟩
      obtain ⟨x0, x1⟩ : 0 ≤ x ∧ x ≤ 255 := by rw [← ex]; exact HIB.out.getD i
      have hcx := (blk_cell HA1.out i).trans (nums_get .u8 l i (by rw [HL.out]; exact c1))
      rw [ex] at hcx
      have HGE := Aside0.mk (hexP_get l i (by rw [HL.out]; exact c1))
      rw [ex] at HGE
      have HHL := Aside0.mk (show (hexP l).length = 64 by rw [hexP_len, HL.out])
      clear ex
      go_wp2_with fail
      go_loop [5, 6, 7] (fun v5 v6 v7 => ∃ j : Nat, j ≤ 2 ∧ v6 = .int .i64 j ∧ v5 = .int .i64 (preZ x j)) (fun _ v6 _ => 2 - (intOf v6).toNat)
      case atStart => exact ⟨0, by omega, rfl, rfl⟩
      case round =>
        obtain ⟨j, hj, rfl, rfl⟩ := hrel
        by_cases c2 : j < 2
        · obtain ⟨d, p, hd0, hd1, hp0, hp1, hpz, hnx, hix⟩ : ∃ d p : Int, 0 ≤ d ∧ d ≤ 15 ∧ 0 ≤ p ∧ p ≤ 15 ∧ preZ x j = p ∧ preZ x (j + 1) = p * 16 + d ∧ ∀ W : World, (Instr.index 9 (.string s) (.int .i64 (2 * (i : Int) + (j : Int)))).run Try.prog W = .ok (.int .u8 (hdg d)) W := by
            obtain rfl | rfl : j = 0 ∨ j = 1 := by omega
            · refine ⟨x / 16, 0, by omega, by omega, by omega, by omega, rfl, by show x / 16 = _; omega, fun W => ?_⟩
              rw [← HGE.out.1, ← HS.out]
              exact str_index _ (hexP_isB HIB.out) (2 * i) _ (by omega) (by rw [HHL.out]; omega) W
            · refine ⟨x % 16, x / 16, by omega, by omega, by omega, by omega, rfl, by show x = _; omega, fun W => ?_⟩
              rw [← HGE.out.2, ← HS.out]
              exact str_index _ (hexP_isB HIB.out) (2 * i + 1) _ (by omega) (by rw [HHL.out]; omega) W
          rw [hpz]
          have HNX := Aside0.mk hnx
          obtain ⟨c, hc⟩ : ∃ c, hdg d = c := ⟨_, rfl⟩
          rw [hc] at hix
          have m0 : IntKind.i64.wrap (2 * (i : Int)) = 2 * (i : Int) := by rw [IntKind.wrap_i64]; omega
          have m1 : IntKind.i64.wrap (2 * (i : Int) + (j : Int)) = 2 * (i : Int) + (j : Int) := by rw [IntKind.wrap_i64]; omega
          clear hpz hnx
          by_cases c3 : d < 10
          · have hcd : c = 48 + d := by rw [← hc, hdg, if_pos c3]
            have k1 : (48 : Int) ≤ c := by omega
            have k2 : c ≤ 57 := by omega
            have k3 : (c - 48) % 256 = d := by omega
            clear hc hcd
            go_wp2_with fail
            go_round
            case rel => exact ⟨j + 1, by omega, by go_num, by rw [HNX.out]; go_num⟩
            case measure => simp [intOf] <;> omega
          · have hcd : c = 87 + d := by rw [← hc, hdg, if_neg c3]
            have k1 : (48 : Int) ≤ c := by omega
            have k2 : ¬ c ≤ 57 := by omega
            have k4 : (97 : Int) ≤ c := by omega
            have k5 : c ≤ 102 := by omega
            have k3 : (c - 97) % 256 = d - 10 := by omega
            clear hc hcd
            go_wp2_with fail
            go_round
            case rel => exact ⟨j + 1, by omega, by go_num, by rw [HNX.out]; go_num⟩
            case measure => simp [intOf] <;> omega
        · obtain rfl : j = 2 := by omega
          rw [show preZ x 2 = x from rfl]
          go_wp2_with fail
          go_round
          case rel => exact ⟨i + 1, by omega, by go_num⟩
          case measure => simp [intOf] <;> omega
    · obtain rfl : i = 32 := by omega
      go_wp2_with fail
      refine (dig_awake_calls _).mono ?_
      rintro e w2 ⟨rfl, hb⟩
      have HB2 := Aside0.mk (below_step HB1.out hb)
      clear hb
      go_wp2_with fail
      go_ret
      exact ⟨rfl, HB2.out⟩
theorem DigestHex_walk (zs : List Int) (w : World) (hz : zs.length = 32) (wz : ∀ z ∈ zs, (Lit.int .u8 z).wf = true) : Calls Try.prog 13 #[.agg (zs.map (Value.int .u8)).toArray] w fun e w' => e = .returned (.bool true) ∧ Below w.heap.size w w' :=
  DigestHex_go zs w hz (fun z h => by have := bounds_u8 (wz z h); omega)
end Go.Proofs.Ytekbidjfddanhaa
