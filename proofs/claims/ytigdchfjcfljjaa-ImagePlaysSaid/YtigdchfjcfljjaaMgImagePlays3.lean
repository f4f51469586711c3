import Derived.Test.YtigdchfjcfljjaaMgImagePlays2
import Derived.Test.YtigdchfjcfljjaaMgImagePlays1
set_option linter.unusedVariables false
set_option linter.unusedSimpArgs false
section
/- Two objects told the same: the slices' Equal, obj.Same, the reference's Same. -/
namespace Go.Proofs.Ytigdchfjcfljjaa
open Go.RowKit Go.Proofs.YtigdchfjcfljjaaW.PrintWords Go.Proofs.YtigdchfjcfljjaaW.PrintLast Go.Proofs.YtigdchfjcfljjaaW.PrintMore
attribute [local go_sem] max2_int min2_int max_two min_two max_three min_three max_four min_four
set_option maxHeartbeats 8000000 in
set_option maxRecDepth 100000 in
theorem EqW_calls (v0 v1 : Value) (l0 l1 : List Int) (w : World) (hr0 : Rd w .u64 v0 l0) (hr1 : Rd w .u64 v1 l1) :
    Calls Try.prog 110 #[v0, v1] w fun e w' => e = .returned (.bool (decide (l0 = l1))) ∧ Below w.heap.size w w' := by
  obtain ⟨A0, c0, rfl, hc0, hm0, hr0⟩ := hr0.mid
  obtain ⟨A1, c1, rfl, hc1, hm1, hr1⟩ := hr1.mid
  have HR0 := Aside0.mk hr0
  have HR1 := Aside0.mk hr1
  clear hr0 hr1
  by_cases e1 : l0.length = l1.length
  · have HE := Aside0.mk e1
    obtain ⟨n, hn⟩ : ∃ n, l0.length = n := ⟨_, rfl⟩
    have hn1 : l1.length = n := by omega
    rw [hn] at HR0 hc0 hm0
    rw [hn1] at HR1 hc1 hm1
    rw [hn, hn1]
    have HN := Aside0.mk hn
    have HN1 := Aside0.mk hn1
    clear hn hn1 e1
    go_enter Try.func110, Try.ntmps110
    go_wp2_with fail
    go_loopw [5, 13] (fun v5 v13 w' => ∃ i : Nat, i ≤ n ∧ v13 = .int .i64 i ∧ Aside0 (l0.take i = l1.take i) ∧ Aside0 (Below w.heap.size w w')) (fun _ v13 _ => n - (intOf v13).toNat)
    case atStart => exact ⟨0, by omega, rfl, ⟨by simp⟩, ⟨Below.refl _ _⟩⟩
    case round =>
      obtain ⟨i, hi, rfl, HT, HB⟩ := hrel
      by_cases c3 : i < n
      · obtain ⟨a0, ea0, hcell0⟩ := rd_at (HR0.out.below HB.out) i c3
        obtain ⟨a1, ea1, hcell1⟩ := rd_at (HR1.out.below HB.out) i c3
        obtain ⟨x, hx⟩ : ∃ x, l0.getD i 0 = x := ⟨_, rfl⟩
        obtain ⟨y, hy⟩ : ∃ y, l1.getD i 0 = y := ⟨_, rfl⟩
        rw [hx] at hcell0
        rw [hy] at hcell1
        have HX := Aside0.mk hx
        have HY := Aside0.mk hy
        clear hx hy
        cases ea0
        cases ea1
        by_cases exy : x = y
        · have HT1 := Aside0.mk (show l0.take (i + 1) = l1.take (i + 1) by rw [take_snoc (by rw [HN.out]; exact c3), take_snoc (by rw [HN1.out]; exact c3), HT.out, HX.out, HY.out, exy])
          subst exy
          go_wp2_with fail
          go_quiet (fail)
          go_wp2_with fail
          go_roundw
          case rel => exact ⟨i + 1, by omega, by go_num, HT1, ⟨pw_below_drewN HB.out _⟩⟩
          case measure => simp [intOf]; omega
        · have hxy : (x != y) = true := by simpa using exy
          have HD := Aside0.mk (show decide (l0 = l1) = false from decide_eq_false (fun e => exy (by rw [← HX.out, ← HY.out, e])))
          go_wp2_with fail
          go_quiet (fail)
          go_wp2_with fail
          go_ret
          exact ⟨by rw [HD.out]; rfl, pw_below_drewN HB.out _⟩
      · have HI := Aside0.mk (show i = n by omega)
        have HD := Aside0.mk (show decide (l0 = l1) = true from decide_eq_true (take_eq_all HE.out (by rw [HN.out, ← HI.out]; exact HT.out)))
        go_wp2_with fail
        go_ret
        exact ⟨by rw [HD.out]; rfl, HB.out⟩
  · have HD := Aside0.mk (show decide (l0 = l1) = false from decide_eq_false (fun e => e1 (by rw [e])))
    have hne : ((l0.length : Int) != (l1.length : Int)) = true := by simp; omega
    clear e1
    go_enter Try.func110, Try.ntmps110
    go_wp2_with fail
    go_ret
    exact ⟨by rw [HD.out]; rfl, Below.refl _ _⟩
set_option maxHeartbeats 8000000 in
set_option maxRecDepth 100000 in
theorem EqB_calls (v0 v1 : Value) (l0 l1 : List Int) (w : World) (hr0 : Rd w .u8 v0 l0) (hr1 : Rd w .u8 v1 l1) :
    Calls Try.prog 111 #[v0, v1] w fun e w' => e = .returned (.bool (decide (l0 = l1))) ∧ Below w.heap.size w w' := by
  obtain ⟨A0, c0, rfl, hc0, hm0, hr0⟩ := hr0.mid
  obtain ⟨A1, c1, rfl, hc1, hm1, hr1⟩ := hr1.mid
  have HR0 := Aside0.mk hr0
  have HR1 := Aside0.mk hr1
  clear hr0 hr1
  by_cases e1 : l0.length = l1.length
  · have HE := Aside0.mk e1
    obtain ⟨n, hn⟩ : ∃ n, l0.length = n := ⟨_, rfl⟩
    have hn1 : l1.length = n := by omega
    rw [hn] at HR0 hc0 hm0
    rw [hn1] at HR1 hc1 hm1
    rw [hn, hn1]
    have HN := Aside0.mk hn
    have HN1 := Aside0.mk hn1
    clear hn hn1 e1
    go_enter Try.func111, Try.ntmps111
    go_wp2_with fail
    go_loopw [5, 13] (fun v5 v13 w' => ∃ i : Nat, i ≤ n ∧ v13 = .int .i64 i ∧ Aside0 (l0.take i = l1.take i) ∧ Aside0 (Below w.heap.size w w')) (fun _ v13 _ => n - (intOf v13).toNat)
    case atStart => exact ⟨0, by omega, rfl, ⟨by simp⟩, ⟨Below.refl _ _⟩⟩
    case round =>
      obtain ⟨i, hi, rfl, HT, HB⟩ := hrel
      by_cases c3 : i < n
      · obtain ⟨a0, ea0, hcell0⟩ := rd_at (HR0.out.below HB.out) i c3
        obtain ⟨a1, ea1, hcell1⟩ := rd_at (HR1.out.below HB.out) i c3
        obtain ⟨x, hx⟩ : ∃ x, l0.getD i 0 = x := ⟨_, rfl⟩
        obtain ⟨y, hy⟩ : ∃ y, l1.getD i 0 = y := ⟨_, rfl⟩
        rw [hx] at hcell0
        rw [hy] at hcell1
        have HX := Aside0.mk hx
        have HY := Aside0.mk hy
        clear hx hy
        cases ea0
        cases ea1
        by_cases exy : x = y
        · have HT1 := Aside0.mk (show l0.take (i + 1) = l1.take (i + 1) by rw [take_snoc (by rw [HN.out]; exact c3), take_snoc (by rw [HN1.out]; exact c3), HT.out, HX.out, HY.out, exy])
          subst exy
          go_wp2_with fail
          go_quiet (fail)
          go_wp2_with fail
          go_roundw
          case rel => exact ⟨i + 1, by omega, by go_num, HT1, ⟨pw_below_drewN HB.out _⟩⟩
          case measure => simp [intOf]; omega
        · have hxy : (x != y) = true := by simpa using exy
          have HD := Aside0.mk (show decide (l0 = l1) = false from decide_eq_false (fun e => exy (by rw [← HX.out, ← HY.out, e])))
          go_wp2_with fail
          go_quiet (fail)
          go_wp2_with fail
          go_ret
          exact ⟨by rw [HD.out]; rfl, pw_below_drewN HB.out _⟩
      · have HI := Aside0.mk (show i = n by omega)
        have HD := Aside0.mk (show decide (l0 = l1) = true from decide_eq_true (take_eq_all HE.out (by rw [HN.out, ← HI.out]; exact HT.out)))
        go_wp2_with fail
        go_ret
        exact ⟨by rw [HD.out]; rfl, HB.out⟩
  · have HD := Aside0.mk (show decide (l0 = l1) = false from decide_eq_false (fun e => e1 (by rw [e])))
    have hne : ((l0.length : Int) != (l1.length : Int)) = true := by simp; omega
    clear e1
    go_enter Try.func111, Try.ntmps111
    go_wp2_with fail
    go_ret
    exact ⟨by rw [HD.out]; rfl, Below.refl _ _⟩
def sameO (k k' : Int) (ws raw it ws' raw' it' : List Int) : Bool := decide (k = k' ∧ ws = ws' ∧ raw = raw' ∧ it = it')
theorem sameO_yes (k : Int) {ws raw it ws' raw' it' : List Int} (e1 : ws = ws') (e2 : raw = raw') (e3 : it = it') : sameO k k ws raw it ws' raw' it' = true := decide_eq_true ⟨rfl, e1, e2, e3⟩
theorem sameO_no0 {k k' : Int} (ws raw it ws' raw' it' : List Int) (e : ¬ k = k') : sameO k k' ws raw it ws' raw' it' = false := decide_eq_false (fun h => e h.1)
theorem sameO_no1 (k k' : Int) {ws ws' : List Int} (raw it raw' it' : List Int) (e : ¬ ws = ws') : sameO k k' ws raw it ws' raw' it' = false := decide_eq_false (fun h => e h.2.1)
theorem sameO_no2 (k k' : Int) {raw raw' : List Int} (ws it ws' it' : List Int) (e : ¬ raw = raw') : sameO k k' ws raw it ws' raw' it' = false := decide_eq_false (fun h => e h.2.2.1)
theorem sameO_no3 (k k' : Int) {it it' : List Int} (ws raw ws' raw' : List Int) (e : ¬ it = it') : sameO k k' ws raw it ws' raw' it' = false := decide_eq_false (fun h => e h.2.2.2)
set_option maxHeartbeats 8000000 in
set_option maxRecDepth 100000 in
theorem obj_Same_calls (k k' : Int) (ws raw it ws' raw' it' : List Int) (A1 A2 A3 B1 B2 B3 : Option Addr) (c1 c2 c3 d1 d2 d3 : Nat) (w : World) (h1 : Rd w .u64 (.slice A1 ws.length c1) ws) (h2 : Rd w .u8 (.slice A2 raw.length c2) raw) (h3 : Rd w .u64 (.slice A3 it.length c3) it)
    (h4 : Rd w .u64 (.slice B1 ws'.length d1) ws') (h5 : Rd w .u8 (.slice B2 raw'.length d2) raw') (h6 : Rd w .u64 (.slice B3 it'.length d3) it') (w2 : isB raw) (w5 : isB raw') :
    Calls Try.prog 34 #[.agg #[.int .i64 k, .slice A1 ws.length c1, .slice A2 raw.length c2, .slice A3 it.length c3], .agg #[.int .i64 k', .slice B1 ws'.length d1, .slice B2 raw'.length d2, .slice B3 it'.length d3]] w fun e w' => e = .returned (.bool (sameO k k' ws raw it ws' raw' it')) ∧ Below w.heap.size w w' := by
  have HR1 := Aside0.mk h1
  have HR2 := Aside0.mk h2
  have HR3 := Aside0.mk h3
  have HR4 := Aside0.mk h4
  have HR5 := Aside0.mk h5
  have HR6 := Aside0.mk h6
  have W2 := Aside0.mk w2
  have W5 := Aside0.mk w5
  have HX0 := Aside0.mk (blk_below (blk_new w (.cells #[.int .i64 k, .slice A1 ws.length c1, .slice A2 raw.length c2, .slice A3 it.length c3] 51)) (below_alloc (Below.refl _ _) (.cells #[.int .i64 k', .slice B1 ws'.length d1, .slice B2 raw'.length d2, .slice B3 it'.length d3] 51)))
  have HX1 := Aside0.mk (blk_new (w.alloc (.cells #[.int .i64 k, .slice A1 ws.length c1, .slice A2 raw.length c2, .slice A3 it.length c3] 51)) (.cells #[.int .i64 k', .slice B1 ws'.length d1, .slice B2 raw'.length d2, .slice B3 it'.length d3] 51))
  rw [show (w.alloc (.cells #[.int .i64 k, .slice A1 ws.length c1, .slice A2 raw.length c2, .slice A3 it.length c3] 51)).heap.size = w.heap.size + 1 from Array.size_push _] at HX1
  have HB0 := Aside0.mk (below_alloc (below_alloc (Below.refl w.heap.size w) (.cells #[.int .i64 k, .slice A1 ws.length c1, .slice A2 raw.length c2, .slice A3 it.length c3] 51)) (.cells #[.int .i64 k', .slice B1 ws'.length d1, .slice B2 raw'.length d2, .slice B3 it'.length d3] 51))
  clear h1 h2 h3 h4 h5 h6 w2 w5
  by_cases e0 : k = k'
  · subst e0
    by_cases e1 : ws = ws'
    · have D1 := Aside0.mk (decide_eq_true e1)
      by_cases e2 : raw = raw'
      · have D2 := Aside0.mk (decide_eq_true e2)
        by_cases e3 : it = it'
        · have D3 := Aside0.mk (decide_eq_true e3)
          have HE := Aside0.mk (sameO_yes k e1 e2 e3)
          have hkk : (k == k) = true := by simp
          clear e1 e2 e3
          have z0 : ((w.alloc (.cells #[.int .i64 k, .slice A1 ws.length c1, .slice A2 raw.length c2, .slice A3 it.length c3] 51)).alloc (.cells #[.int .i64 k, .slice B1 ws'.length d1, .slice B2 raw'.length d2, .slice B3 it'.length d3] 51)).cell? ⟨w.heap.size, 0, none⟩ = some (.int .i64 k) := blk_cell HX0.out 0
          have z1 : ((w.alloc (.cells #[.int .i64 k, .slice A1 ws.length c1, .slice A2 raw.length c2, .slice A3 it.length c3] 51)).alloc (.cells #[.int .i64 k, .slice B1 ws'.length d1, .slice B2 raw'.length d2, .slice B3 it'.length d3] 51)).cell? ⟨w.heap.size, 1, none⟩ = some (.slice A1 ws.length c1) := blk_cell HX0.out 1
          have z2 : ((w.alloc (.cells #[.int .i64 k, .slice A1 ws.length c1, .slice A2 raw.length c2, .slice A3 it.length c3] 51)).alloc (.cells #[.int .i64 k, .slice B1 ws'.length d1, .slice B2 raw'.length d2, .slice B3 it'.length d3] 51)).cell? ⟨w.heap.size, 2, none⟩ = some (.slice A2 raw.length c2) := blk_cell HX0.out 2
          have z3 : ((w.alloc (.cells #[.int .i64 k, .slice A1 ws.length c1, .slice A2 raw.length c2, .slice A3 it.length c3] 51)).alloc (.cells #[.int .i64 k, .slice B1 ws'.length d1, .slice B2 raw'.length d2, .slice B3 it'.length d3] 51)).cell? ⟨w.heap.size, 3, none⟩ = some (.slice A3 it.length c3) := blk_cell HX0.out 3
          have y0 : ((w.alloc (.cells #[.int .i64 k, .slice A1 ws.length c1, .slice A2 raw.length c2, .slice A3 it.length c3] 51)).alloc (.cells #[.int .i64 k, .slice B1 ws'.length d1, .slice B2 raw'.length d2, .slice B3 it'.length d3] 51)).cell? ⟨w.heap.size + 1, 0, none⟩ = some (.int .i64 k) := blk_cell HX1.out 0
          have y1 : ((w.alloc (.cells #[.int .i64 k, .slice A1 ws.length c1, .slice A2 raw.length c2, .slice A3 it.length c3] 51)).alloc (.cells #[.int .i64 k, .slice B1 ws'.length d1, .slice B2 raw'.length d2, .slice B3 it'.length d3] 51)).cell? ⟨w.heap.size + 1, 1, none⟩ = some (.slice B1 ws'.length d1) := blk_cell HX1.out 1
          have y2 : ((w.alloc (.cells #[.int .i64 k, .slice A1 ws.length c1, .slice A2 raw.length c2, .slice A3 it.length c3] 51)).alloc (.cells #[.int .i64 k, .slice B1 ws'.length d1, .slice B2 raw'.length d2, .slice B3 it'.length d3] 51)).cell? ⟨w.heap.size + 1, 2, none⟩ = some (.slice B2 raw'.length d2) := blk_cell HX1.out 2
          have y3 : ((w.alloc (.cells #[.int .i64 k, .slice A1 ws.length c1, .slice A2 raw.length c2, .slice A3 it.length c3] 51)).alloc (.cells #[.int .i64 k, .slice B1 ws'.length d1, .slice B2 raw'.length d2, .slice B3 it'.length d3] 51)).cell? ⟨w.heap.size + 1, 3, none⟩ = some (.slice B3 it'.length d3) := blk_cell HX1.out 3
          go_enter Try.func34, Try.ntmps34
          go_wp2_with fail
          refine (EqW_calls (.slice A1 ws.length c1) (.slice B1 ws'.length d1) ws ws' _ (HR1.out.below HB0.out) (HR4.out.below HB0.out)).mono ?_
          rintro e w1 ⟨rfl, hb⟩
          have HB1 := Aside0.mk (below_step HB0.out hb)
          have HX01 := Aside0.mk (blk_below HX0.out hb)
          have HX11 := Aside0.mk (blk_below HX1.out hb)
          clear hb z0 z1 z2 z3 y0 y1 y2 y3
          rw [D1.out]
          have z0 : (w1).cell? ⟨w.heap.size, 0, none⟩ = some (.int .i64 k) := blk_cell HX01.out 0
          have z1 : (w1).cell? ⟨w.heap.size, 1, none⟩ = some (.slice A1 ws.length c1) := blk_cell HX01.out 1
          have z2 : (w1).cell? ⟨w.heap.size, 2, none⟩ = some (.slice A2 raw.length c2) := blk_cell HX01.out 2
          have z3 : (w1).cell? ⟨w.heap.size, 3, none⟩ = some (.slice A3 it.length c3) := blk_cell HX01.out 3
          have y0 : (w1).cell? ⟨w.heap.size + 1, 0, none⟩ = some (.int .i64 k) := blk_cell HX11.out 0
          have y1 : (w1).cell? ⟨w.heap.size + 1, 1, none⟩ = some (.slice B1 ws'.length d1) := blk_cell HX11.out 1
          have y2 : (w1).cell? ⟨w.heap.size + 1, 2, none⟩ = some (.slice B2 raw'.length d2) := blk_cell HX11.out 2
          have y3 : (w1).cell? ⟨w.heap.size + 1, 3, none⟩ = some (.slice B3 it'.length d3) := blk_cell HX11.out 3
          go_wp2_with fail
          refine (EqB_calls (.slice A2 raw.length c2) (.slice B2 raw'.length d2) raw raw' _ (HR2.out.below HB1.out) (HR5.out.below HB1.out)).mono ?_
          rintro e w2 ⟨rfl, hb⟩
          have HB2 := Aside0.mk (below_step HB1.out hb)
          have HX02 := Aside0.mk (blk_below HX01.out hb)
          have HX12 := Aside0.mk (blk_below HX11.out hb)
          clear hb z0 z1 z2 z3 y0 y1 y2 y3
          rw [D2.out]
          have z0 : (w2).cell? ⟨w.heap.size, 0, none⟩ = some (.int .i64 k) := blk_cell HX02.out 0
          have z1 : (w2).cell? ⟨w.heap.size, 1, none⟩ = some (.slice A1 ws.length c1) := blk_cell HX02.out 1
          have z2 : (w2).cell? ⟨w.heap.size, 2, none⟩ = some (.slice A2 raw.length c2) := blk_cell HX02.out 2
          have z3 : (w2).cell? ⟨w.heap.size, 3, none⟩ = some (.slice A3 it.length c3) := blk_cell HX02.out 3
          have y0 : (w2).cell? ⟨w.heap.size + 1, 0, none⟩ = some (.int .i64 k) := blk_cell HX12.out 0
          have y1 : (w2).cell? ⟨w.heap.size + 1, 1, none⟩ = some (.slice B1 ws'.length d1) := blk_cell HX12.out 1
          have y2 : (w2).cell? ⟨w.heap.size + 1, 2, none⟩ = some (.slice B2 raw'.length d2) := blk_cell HX12.out 2
          have y3 : (w2).cell? ⟨w.heap.size + 1, 3, none⟩ = some (.slice B3 it'.length d3) := blk_cell HX12.out 3
          go_wp2_with fail
          refine (EqW_calls (.slice A3 it.length c3) (.slice B3 it'.length d3) it it' _ (HR3.out.below HB2.out) (HR6.out.below HB2.out)).mono ?_
          rintro e w3 ⟨rfl, hb⟩
          have HB3 := Aside0.mk (below_step HB2.out hb)
          have HX03 := Aside0.mk (blk_below HX02.out hb)
          have HX13 := Aside0.mk (blk_below HX12.out hb)
          clear hb z0 z1 z2 z3 y0 y1 y2 y3
          rw [D3.out]
          have z0 : (w3).cell? ⟨w.heap.size, 0, none⟩ = some (.int .i64 k) := blk_cell HX03.out 0
          have z1 : (w3).cell? ⟨w.heap.size, 1, none⟩ = some (.slice A1 ws.length c1) := blk_cell HX03.out 1
          have z2 : (w3).cell? ⟨w.heap.size, 2, none⟩ = some (.slice A2 raw.length c2) := blk_cell HX03.out 2
          have z3 : (w3).cell? ⟨w.heap.size, 3, none⟩ = some (.slice A3 it.length c3) := blk_cell HX03.out 3
          have y0 : (w3).cell? ⟨w.heap.size + 1, 0, none⟩ = some (.int .i64 k) := blk_cell HX13.out 0
          have y1 : (w3).cell? ⟨w.heap.size + 1, 1, none⟩ = some (.slice B1 ws'.length d1) := blk_cell HX13.out 1
          have y2 : (w3).cell? ⟨w.heap.size + 1, 2, none⟩ = some (.slice B2 raw'.length d2) := blk_cell HX13.out 2
          have y3 : (w3).cell? ⟨w.heap.size + 1, 3, none⟩ = some (.slice B3 it'.length d3) := blk_cell HX13.out 3
          go_wp2_with fail
          go_ret
          exact ⟨by rw [HE.out]; rfl, HB3.out⟩
        · have D3 := Aside0.mk (decide_eq_false e3)
          have HE := Aside0.mk (sameO_no3 k k ws raw ws' raw' e3)
          have hkk : (k == k) = true := by simp
          clear e1 e2 e3
          have z0 : ((w.alloc (.cells #[.int .i64 k, .slice A1 ws.length c1, .slice A2 raw.length c2, .slice A3 it.length c3] 51)).alloc (.cells #[.int .i64 k, .slice B1 ws'.length d1, .slice B2 raw'.length d2, .slice B3 it'.length d3] 51)).cell? ⟨w.heap.size, 0, none⟩ = some (.int .i64 k) := blk_cell HX0.out 0
          have z1 : ((w.alloc (.cells #[.int .i64 k, .slice A1 ws.length c1, .slice A2 raw.length c2, .slice A3 it.length c3] 51)).alloc (.cells #[.int .i64 k, .slice B1 ws'.length d1, .slice B2 raw'.length d2, .slice B3 it'.length d3] 51)).cell? ⟨w.heap.size, 1, none⟩ = some (.slice A1 ws.length c1) := blk_cell HX0.out 1
          have z2 : ((w.alloc (.cells #[.int .i64 k, .slice A1 ws.length c1, .slice A2 raw.length c2, .slice A3 it.length c3] 51)).alloc (.cells #[.int .i64 k, .slice B1 ws'.length d1, .slice B2 raw'.length d2, .slice B3 it'.length d3] 51)).cell? ⟨w.heap.size, 2, none⟩ = some (.slice A2 raw.length c2) := blk_cell HX0.out 2
          have z3 : ((w.alloc (.cells #[.int .i64 k, .slice A1 ws.length c1, .slice A2 raw.length c2, .slice A3 it.length c3] 51)).alloc (.cells #[.int .i64 k, .slice B1 ws'.length d1, .slice B2 raw'.length d2, .slice B3 it'.length d3] 51)).cell? ⟨w.heap.size, 3, none⟩ = some (.slice A3 it.length c3) := blk_cell HX0.out 3
          have y0 : ((w.alloc (.cells #[.int .i64 k, .slice A1 ws.length c1, .slice A2 raw.length c2, .slice A3 it.length c3] 51)).alloc (.cells #[.int .i64 k, .slice B1 ws'.length d1, .slice B2 raw'.length d2, .slice B3 it'.length d3] 51)).cell? ⟨w.heap.size + 1, 0, none⟩ = some (.int .i64 k) := blk_cell HX1.out 0
          have y1 : ((w.alloc (.cells #[.int .i64 k, .slice A1 ws.length c1, .slice A2 raw.length c2, .slice A3 it.length c3] 51)).alloc (.cells #[.int .i64 k, .slice B1 ws'.length d1, .slice B2 raw'.length d2, .slice B3 it'.length d3] 51)).cell? ⟨w.heap.size + 1, 1, none⟩ = some (.slice B1 ws'.length d1) := blk_cell HX1.out 1
          have y2 : ((w.alloc (.cells #[.int .i64 k, .slice A1 ws.length c1, .slice A2 raw.length c2, .slice A3 it.length c3] 51)).alloc (.cells #[.int .i64 k, .slice B1 ws'.length d1, .slice B2 raw'.length d2, .slice B3 it'.length d3] 51)).cell? ⟨w.heap.size + 1, 2, none⟩ = some (.slice B2 raw'.length d2) := blk_cell HX1.out 2
          have y3 : ((w.alloc (.cells #[.int .i64 k, .slice A1 ws.length c1, .slice A2 raw.length c2, .slice A3 it.length c3] 51)).alloc (.cells #[.int .i64 k, .slice B1 ws'.length d1, .slice B2 raw'.length d2, .slice B3 it'.length d3] 51)).cell? ⟨w.heap.size + 1, 3, none⟩ = some (.slice B3 it'.length d3) := blk_cell HX1.out 3
          go_enter Try.func34, Try.ntmps34
          go_wp2_with fail
          refine (EqW_calls (.slice A1 ws.length c1) (.slice B1 ws'.length d1) ws ws' _ (HR1.out.below HB0.out) (HR4.out.below HB0.out)).mono ?_
          rintro e w1 ⟨rfl, hb⟩
          have HB1 := Aside0.mk (below_step HB0.out hb)
          have HX01 := Aside0.mk (blk_below HX0.out hb)
          have HX11 := Aside0.mk (blk_below HX1.out hb)
          clear hb z0 z1 z2 z3 y0 y1 y2 y3
          rw [D1.out]
          have z0 : (w1).cell? ⟨w.heap.size, 0, none⟩ = some (.int .i64 k) := blk_cell HX01.out 0
          have z1 : (w1).cell? ⟨w.heap.size, 1, none⟩ = some (.slice A1 ws.length c1) := blk_cell HX01.out 1
          have z2 : (w1).cell? ⟨w.heap.size, 2, none⟩ = some (.slice A2 raw.length c2) := blk_cell HX01.out 2
          have z3 : (w1).cell? ⟨w.heap.size, 3, none⟩ = some (.slice A3 it.length c3) := blk_cell HX01.out 3
          have y0 : (w1).cell? ⟨w.heap.size + 1, 0, none⟩ = some (.int .i64 k) := blk_cell HX11.out 0
          have y1 : (w1).cell? ⟨w.heap.size + 1, 1, none⟩ = some (.slice B1 ws'.length d1) := blk_cell HX11.out 1
          have y2 : (w1).cell? ⟨w.heap.size + 1, 2, none⟩ = some (.slice B2 raw'.length d2) := blk_cell HX11.out 2
          have y3 : (w1).cell? ⟨w.heap.size + 1, 3, none⟩ = some (.slice B3 it'.length d3) := blk_cell HX11.out 3
          go_wp2_with fail
          refine (EqB_calls (.slice A2 raw.length c2) (.slice B2 raw'.length d2) raw raw' _ (HR2.out.below HB1.out) (HR5.out.below HB1.out)).mono ?_
          rintro e w2 ⟨rfl, hb⟩
          have HB2 := Aside0.mk (below_step HB1.out hb)
          have HX02 := Aside0.mk (blk_below HX01.out hb)
          have HX12 := Aside0.mk (blk_below HX11.out hb)
          clear hb z0 z1 z2 z3 y0 y1 y2 y3
          rw [D2.out]
          have z0 : (w2).cell? ⟨w.heap.size, 0, none⟩ = some (.int .i64 k) := blk_cell HX02.out 0
          have z1 : (w2).cell? ⟨w.heap.size, 1, none⟩ = some (.slice A1 ws.length c1) := blk_cell HX02.out 1
          have z2 : (w2).cell? ⟨w.heap.size, 2, none⟩ = some (.slice A2 raw.length c2) := blk_cell HX02.out 2
          have z3 : (w2).cell? ⟨w.heap.size, 3, none⟩ = some (.slice A3 it.length c3) := blk_cell HX02.out 3
          have y0 : (w2).cell? ⟨w.heap.size + 1, 0, none⟩ = some (.int .i64 k) := blk_cell HX12.out 0
          have y1 : (w2).cell? ⟨w.heap.size + 1, 1, none⟩ = some (.slice B1 ws'.length d1) := blk_cell HX12.out 1
          have y2 : (w2).cell? ⟨w.heap.size + 1, 2, none⟩ = some (.slice B2 raw'.length d2) := blk_cell HX12.out 2
          have y3 : (w2).cell? ⟨w.heap.size + 1, 3, none⟩ = some (.slice B3 it'.length d3) := blk_cell HX12.out 3
          go_wp2_with fail
          refine (EqW_calls (.slice A3 it.length c3) (.slice B3 it'.length d3) it it' _ (HR3.out.below HB2.out) (HR6.out.below HB2.out)).mono ?_
          rintro e w3 ⟨rfl, hb⟩
          have HB3 := Aside0.mk (below_step HB2.out hb)
          have HX03 := Aside0.mk (blk_below HX02.out hb)
          have HX13 := Aside0.mk (blk_below HX12.out hb)
          clear hb z0 z1 z2 z3 y0 y1 y2 y3
          rw [D3.out]
          have z0 : (w3).cell? ⟨w.heap.size, 0, none⟩ = some (.int .i64 k) := blk_cell HX03.out 0
          have z1 : (w3).cell? ⟨w.heap.size, 1, none⟩ = some (.slice A1 ws.length c1) := blk_cell HX03.out 1
          have z2 : (w3).cell? ⟨w.heap.size, 2, none⟩ = some (.slice A2 raw.length c2) := blk_cell HX03.out 2
          have z3 : (w3).cell? ⟨w.heap.size, 3, none⟩ = some (.slice A3 it.length c3) := blk_cell HX03.out 3
          have y0 : (w3).cell? ⟨w.heap.size + 1, 0, none⟩ = some (.int .i64 k) := blk_cell HX13.out 0
          have y1 : (w3).cell? ⟨w.heap.size + 1, 1, none⟩ = some (.slice B1 ws'.length d1) := blk_cell HX13.out 1
          have y2 : (w3).cell? ⟨w.heap.size + 1, 2, none⟩ = some (.slice B2 raw'.length d2) := blk_cell HX13.out 2
          have y3 : (w3).cell? ⟨w.heap.size + 1, 3, none⟩ = some (.slice B3 it'.length d3) := blk_cell HX13.out 3
          go_wp2_with fail
          go_ret
          exact ⟨by rw [HE.out]; rfl, HB3.out⟩
      · have D2 := Aside0.mk (decide_eq_false e2)
        have HE := Aside0.mk (sameO_no2 k k ws it ws' it' e2)
        have hkk : (k == k) = true := by simp
        clear e1 e2
        have z0 : ((w.alloc (.cells #[.int .i64 k, .slice A1 ws.length c1, .slice A2 raw.length c2, .slice A3 it.length c3] 51)).alloc (.cells #[.int .i64 k, .slice B1 ws'.length d1, .slice B2 raw'.length d2, .slice B3 it'.length d3] 51)).cell? ⟨w.heap.size, 0, none⟩ = some (.int .i64 k) := blk_cell HX0.out 0
        have z1 : ((w.alloc (.cells #[.int .i64 k, .slice A1 ws.length c1, .slice A2 raw.length c2, .slice A3 it.length c3] 51)).alloc (.cells #[.int .i64 k, .slice B1 ws'.length d1, .slice B2 raw'.length d2, .slice B3 it'.length d3] 51)).cell? ⟨w.heap.size, 1, none⟩ = some (.slice A1 ws.length c1) := blk_cell HX0.out 1
        have z2 : ((w.alloc (.cells #[.int .i64 k, .slice A1 ws.length c1, .slice A2 raw.length c2, .slice A3 it.length c3] 51)).alloc (.cells #[.int .i64 k, .slice B1 ws'.length d1, .slice B2 raw'.length d2, .slice B3 it'.length d3] 51)).cell? ⟨w.heap.size, 2, none⟩ = some (.slice A2 raw.length c2) := blk_cell HX0.out 2
        have z3 : ((w.alloc (.cells #[.int .i64 k, .slice A1 ws.length c1, .slice A2 raw.length c2, .slice A3 it.length c3] 51)).alloc (.cells #[.int .i64 k, .slice B1 ws'.length d1, .slice B2 raw'.length d2, .slice B3 it'.length d3] 51)).cell? ⟨w.heap.size, 3, none⟩ = some (.slice A3 it.length c3) := blk_cell HX0.out 3
        have y0 : ((w.alloc (.cells #[.int .i64 k, .slice A1 ws.length c1, .slice A2 raw.length c2, .slice A3 it.length c3] 51)).alloc (.cells #[.int .i64 k, .slice B1 ws'.length d1, .slice B2 raw'.length d2, .slice B3 it'.length d3] 51)).cell? ⟨w.heap.size + 1, 0, none⟩ = some (.int .i64 k) := blk_cell HX1.out 0
        have y1 : ((w.alloc (.cells #[.int .i64 k, .slice A1 ws.length c1, .slice A2 raw.length c2, .slice A3 it.length c3] 51)).alloc (.cells #[.int .i64 k, .slice B1 ws'.length d1, .slice B2 raw'.length d2, .slice B3 it'.length d3] 51)).cell? ⟨w.heap.size + 1, 1, none⟩ = some (.slice B1 ws'.length d1) := blk_cell HX1.out 1
        have y2 : ((w.alloc (.cells #[.int .i64 k, .slice A1 ws.length c1, .slice A2 raw.length c2, .slice A3 it.length c3] 51)).alloc (.cells #[.int .i64 k, .slice B1 ws'.length d1, .slice B2 raw'.length d2, .slice B3 it'.length d3] 51)).cell? ⟨w.heap.size + 1, 2, none⟩ = some (.slice B2 raw'.length d2) := blk_cell HX1.out 2
        have y3 : ((w.alloc (.cells #[.int .i64 k, .slice A1 ws.length c1, .slice A2 raw.length c2, .slice A3 it.length c3] 51)).alloc (.cells #[.int .i64 k, .slice B1 ws'.length d1, .slice B2 raw'.length d2, .slice B3 it'.length d3] 51)).cell? ⟨w.heap.size + 1, 3, none⟩ = some (.slice B3 it'.length d3) := blk_cell HX1.out 3
        go_enter Try.func34, Try.ntmps34
        go_wp2_with fail
        refine (EqW_calls (.slice A1 ws.length c1) (.slice B1 ws'.length d1) ws ws' _ (HR1.out.below HB0.out) (HR4.out.below HB0.out)).mono ?_
        rintro e w1 ⟨rfl, hb⟩
        have HB1 := Aside0.mk (below_step HB0.out hb)
        have HX01 := Aside0.mk (blk_below HX0.out hb)
        have HX11 := Aside0.mk (blk_below HX1.out hb)
        clear hb z0 z1 z2 z3 y0 y1 y2 y3
        rw [D1.out]
        have z0 : (w1).cell? ⟨w.heap.size, 0, none⟩ = some (.int .i64 k) := blk_cell HX01.out 0
        have z1 : (w1).cell? ⟨w.heap.size, 1, none⟩ = some (.slice A1 ws.length c1) := blk_cell HX01.out 1
        have z2 : (w1).cell? ⟨w.heap.size, 2, none⟩ = some (.slice A2 raw.length c2) := blk_cell HX01.out 2
        have z3 : (w1).cell? ⟨w.heap.size, 3, none⟩ = some (.slice A3 it.length c3) := blk_cell HX01.out 3
        have y0 : (w1).cell? ⟨w.heap.size + 1, 0, none⟩ = some (.int .i64 k) := blk_cell HX11.out 0
        have y1 : (w1).cell? ⟨w.heap.size + 1, 1, none⟩ = some (.slice B1 ws'.length d1) := blk_cell HX11.out 1
        have y2 : (w1).cell? ⟨w.heap.size + 1, 2, none⟩ = some (.slice B2 raw'.length d2) := blk_cell HX11.out 2
        have y3 : (w1).cell? ⟨w.heap.size + 1, 3, none⟩ = some (.slice B3 it'.length d3) := blk_cell HX11.out 3
        go_wp2_with fail
        refine (EqB_calls (.slice A2 raw.length c2) (.slice B2 raw'.length d2) raw raw' _ (HR2.out.below HB1.out) (HR5.out.below HB1.out)).mono ?_
        rintro e w2 ⟨rfl, hb⟩
        have HB2 := Aside0.mk (below_step HB1.out hb)
        have HX02 := Aside0.mk (blk_below HX01.out hb)
        have HX12 := Aside0.mk (blk_below HX11.out hb)
        clear hb z0 z1 z2 z3 y0 y1 y2 y3
        rw [D2.out]
        have z0 : (w2).cell? ⟨w.heap.size, 0, none⟩ = some (.int .i64 k) := blk_cell HX02.out 0
        have z1 : (w2).cell? ⟨w.heap.size, 1, none⟩ = some (.slice A1 ws.length c1) := blk_cell HX02.out 1
        have z2 : (w2).cell? ⟨w.heap.size, 2, none⟩ = some (.slice A2 raw.length c2) := blk_cell HX02.out 2
        have z3 : (w2).cell? ⟨w.heap.size, 3, none⟩ = some (.slice A3 it.length c3) := blk_cell HX02.out 3
        have y0 : (w2).cell? ⟨w.heap.size + 1, 0, none⟩ = some (.int .i64 k) := blk_cell HX12.out 0
        have y1 : (w2).cell? ⟨w.heap.size + 1, 1, none⟩ = some (.slice B1 ws'.length d1) := blk_cell HX12.out 1
        have y2 : (w2).cell? ⟨w.heap.size + 1, 2, none⟩ = some (.slice B2 raw'.length d2) := blk_cell HX12.out 2
        have y3 : (w2).cell? ⟨w.heap.size + 1, 3, none⟩ = some (.slice B3 it'.length d3) := blk_cell HX12.out 3
        go_wp2_with fail
        go_ret
        exact ⟨by rw [HE.out]; rfl, HB2.out⟩
    · have D1 := Aside0.mk (decide_eq_false e1)
      have HE := Aside0.mk (sameO_no1 k k raw it raw' it' e1)
      have hkk : (k == k) = true := by simp
      clear e1
      have z0 : ((w.alloc (.cells #[.int .i64 k, .slice A1 ws.length c1, .slice A2 raw.length c2, .slice A3 it.length c3] 51)).alloc (.cells #[.int .i64 k, .slice B1 ws'.length d1, .slice B2 raw'.length d2, .slice B3 it'.length d3] 51)).cell? ⟨w.heap.size, 0, none⟩ = some (.int .i64 k) := blk_cell HX0.out 0
      have z1 : ((w.alloc (.cells #[.int .i64 k, .slice A1 ws.length c1, .slice A2 raw.length c2, .slice A3 it.length c3] 51)).alloc (.cells #[.int .i64 k, .slice B1 ws'.length d1, .slice B2 raw'.length d2, .slice B3 it'.length d3] 51)).cell? ⟨w.heap.size, 1, none⟩ = some (.slice A1 ws.length c1) := blk_cell HX0.out 1
      have z2 : ((w.alloc (.cells #[.int .i64 k, .slice A1 ws.length c1, .slice A2 raw.length c2, .slice A3 it.length c3] 51)).alloc (.cells #[.int .i64 k, .slice B1 ws'.length d1, .slice B2 raw'.length d2, .slice B3 it'.length d3] 51)).cell? ⟨w.heap.size, 2, none⟩ = some (.slice A2 raw.length c2) := blk_cell HX0.out 2
      have z3 : ((w.alloc (.cells #[.int .i64 k, .slice A1 ws.length c1, .slice A2 raw.length c2, .slice A3 it.length c3] 51)).alloc (.cells #[.int .i64 k, .slice B1 ws'.length d1, .slice B2 raw'.length d2, .slice B3 it'.length d3] 51)).cell? ⟨w.heap.size, 3, none⟩ = some (.slice A3 it.length c3) := blk_cell HX0.out 3
      have y0 : ((w.alloc (.cells #[.int .i64 k, .slice A1 ws.length c1, .slice A2 raw.length c2, .slice A3 it.length c3] 51)).alloc (.cells #[.int .i64 k, .slice B1 ws'.length d1, .slice B2 raw'.length d2, .slice B3 it'.length d3] 51)).cell? ⟨w.heap.size + 1, 0, none⟩ = some (.int .i64 k) := blk_cell HX1.out 0
      have y1 : ((w.alloc (.cells #[.int .i64 k, .slice A1 ws.length c1, .slice A2 raw.length c2, .slice A3 it.length c3] 51)).alloc (.cells #[.int .i64 k, .slice B1 ws'.length d1, .slice B2 raw'.length d2, .slice B3 it'.length d3] 51)).cell? ⟨w.heap.size + 1, 1, none⟩ = some (.slice B1 ws'.length d1) := blk_cell HX1.out 1
      have y2 : ((w.alloc (.cells #[.int .i64 k, .slice A1 ws.length c1, .slice A2 raw.length c2, .slice A3 it.length c3] 51)).alloc (.cells #[.int .i64 k, .slice B1 ws'.length d1, .slice B2 raw'.length d2, .slice B3 it'.length d3] 51)).cell? ⟨w.heap.size + 1, 2, none⟩ = some (.slice B2 raw'.length d2) := blk_cell HX1.out 2
      have y3 : ((w.alloc (.cells #[.int .i64 k, .slice A1 ws.length c1, .slice A2 raw.length c2, .slice A3 it.length c3] 51)).alloc (.cells #[.int .i64 k, .slice B1 ws'.length d1, .slice B2 raw'.length d2, .slice B3 it'.length d3] 51)).cell? ⟨w.heap.size + 1, 3, none⟩ = some (.slice B3 it'.length d3) := blk_cell HX1.out 3
      go_enter Try.func34, Try.ntmps34
      go_wp2_with fail
      refine (EqW_calls (.slice A1 ws.length c1) (.slice B1 ws'.length d1) ws ws' _ (HR1.out.below HB0.out) (HR4.out.below HB0.out)).mono ?_
      rintro e w1 ⟨rfl, hb⟩
      have HB1 := Aside0.mk (below_step HB0.out hb)
      have HX01 := Aside0.mk (blk_below HX0.out hb)
      have HX11 := Aside0.mk (blk_below HX1.out hb)
      clear hb z0 z1 z2 z3 y0 y1 y2 y3
      rw [D1.out]
      have z0 : (w1).cell? ⟨w.heap.size, 0, none⟩ = some (.int .i64 k) := blk_cell HX01.out 0
      have z1 : (w1).cell? ⟨w.heap.size, 1, none⟩ = some (.slice A1 ws.length c1) := blk_cell HX01.out 1
      have z2 : (w1).cell? ⟨w.heap.size, 2, none⟩ = some (.slice A2 raw.length c2) := blk_cell HX01.out 2
      have z3 : (w1).cell? ⟨w.heap.size, 3, none⟩ = some (.slice A3 it.length c3) := blk_cell HX01.out 3
      have y0 : (w1).cell? ⟨w.heap.size + 1, 0, none⟩ = some (.int .i64 k) := blk_cell HX11.out 0
      have y1 : (w1).cell? ⟨w.heap.size + 1, 1, none⟩ = some (.slice B1 ws'.length d1) := blk_cell HX11.out 1
      have y2 : (w1).cell? ⟨w.heap.size + 1, 2, none⟩ = some (.slice B2 raw'.length d2) := blk_cell HX11.out 2
      have y3 : (w1).cell? ⟨w.heap.size + 1, 3, none⟩ = some (.slice B3 it'.length d3) := blk_cell HX11.out 3
      go_wp2_with fail
      go_ret
      exact ⟨by rw [HE.out]; rfl, HB1.out⟩
  · have HE := Aside0.mk (sameO_no0 ws raw it ws' raw' it' e0)
    have hkk : (k == k') = false := by simpa using e0
    clear e0
    have z0 : ((w.alloc (.cells #[.int .i64 k, .slice A1 ws.length c1, .slice A2 raw.length c2, .slice A3 it.length c3] 51)).alloc (.cells #[.int .i64 k', .slice B1 ws'.length d1, .slice B2 raw'.length d2, .slice B3 it'.length d3] 51)).cell? ⟨w.heap.size, 0, none⟩ = some (.int .i64 k) := blk_cell HX0.out 0
    have z1 : ((w.alloc (.cells #[.int .i64 k, .slice A1 ws.length c1, .slice A2 raw.length c2, .slice A3 it.length c3] 51)).alloc (.cells #[.int .i64 k', .slice B1 ws'.length d1, .slice B2 raw'.length d2, .slice B3 it'.length d3] 51)).cell? ⟨w.heap.size, 1, none⟩ = some (.slice A1 ws.length c1) := blk_cell HX0.out 1
    have z2 : ((w.alloc (.cells #[.int .i64 k, .slice A1 ws.length c1, .slice A2 raw.length c2, .slice A3 it.length c3] 51)).alloc (.cells #[.int .i64 k', .slice B1 ws'.length d1, .slice B2 raw'.length d2, .slice B3 it'.length d3] 51)).cell? ⟨w.heap.size, 2, none⟩ = some (.slice A2 raw.length c2) := blk_cell HX0.out 2
    have z3 : ((w.alloc (.cells #[.int .i64 k, .slice A1 ws.length c1, .slice A2 raw.length c2, .slice A3 it.length c3] 51)).alloc (.cells #[.int .i64 k', .slice B1 ws'.length d1, .slice B2 raw'.length d2, .slice B3 it'.length d3] 51)).cell? ⟨w.heap.size, 3, none⟩ = some (.slice A3 it.length c3) := blk_cell HX0.out 3
    have y0 : ((w.alloc (.cells #[.int .i64 k, .slice A1 ws.length c1, .slice A2 raw.length c2, .slice A3 it.length c3] 51)).alloc (.cells #[.int .i64 k', .slice B1 ws'.length d1, .slice B2 raw'.length d2, .slice B3 it'.length d3] 51)).cell? ⟨w.heap.size + 1, 0, none⟩ = some (.int .i64 k') := blk_cell HX1.out 0
    have y1 : ((w.alloc (.cells #[.int .i64 k, .slice A1 ws.length c1, .slice A2 raw.length c2, .slice A3 it.length c3] 51)).alloc (.cells #[.int .i64 k', .slice B1 ws'.length d1, .slice B2 raw'.length d2, .slice B3 it'.length d3] 51)).cell? ⟨w.heap.size + 1, 1, none⟩ = some (.slice B1 ws'.length d1) := blk_cell HX1.out 1
    have y2 : ((w.alloc (.cells #[.int .i64 k, .slice A1 ws.length c1, .slice A2 raw.length c2, .slice A3 it.length c3] 51)).alloc (.cells #[.int .i64 k', .slice B1 ws'.length d1, .slice B2 raw'.length d2, .slice B3 it'.length d3] 51)).cell? ⟨w.heap.size + 1, 2, none⟩ = some (.slice B2 raw'.length d2) := blk_cell HX1.out 2
    have y3 : ((w.alloc (.cells #[.int .i64 k, .slice A1 ws.length c1, .slice A2 raw.length c2, .slice A3 it.length c3] 51)).alloc (.cells #[.int .i64 k', .slice B1 ws'.length d1, .slice B2 raw'.length d2, .slice B3 it'.length d3] 51)).cell? ⟨w.heap.size + 1, 3, none⟩ = some (.slice B3 it'.length d3) := blk_cell HX1.out 3
    go_enter Try.func34, Try.ntmps34
    go_wp2_with fail
    go_ret
    exact ⟨by rw [HE.out]; rfl, HB0.out⟩
set_option maxHeartbeats 8000000 in
set_option maxRecDepth 100000 in
theorem ref_oSame_calls (k k' : Int) (ws raw it ws' raw' it' : List Int) (A1 A2 A3 B1 B2 B3 : Option Addr) (c1 c2 c3 d1 d2 d3 : Nat) (w : World) (h1 : Rd w .u64 (.slice A1 ws.length c1) ws) (h2 : Rd w .u8 (.slice A2 raw.length c2) raw) (h3 : Rd w .u64 (.slice A3 it.length c3) it)
    (h4 : Rd w .u64 (.slice B1 ws'.length d1) ws') (h5 : Rd w .u8 (.slice B2 raw'.length d2) raw') (h6 : Rd w .u64 (.slice B3 it'.length d3) it') (w2 : isB raw) (w5 : isB raw') :
    Calls Try.prog 127 #[.agg #[.int .i64 k, .slice A1 ws.length c1, .slice A2 raw.length c2, .slice A3 it.length c3], .agg #[.int .i64 k', .slice B1 ws'.length d1, .slice B2 raw'.length d2, .slice B3 it'.length d3]] w fun e w' => e = .returned (.bool (sameO k k' ws raw it ws' raw' it')) ∧ Below w.heap.size w w' := by
  have HR1 := Aside0.mk h1
  have HR2 := Aside0.mk h2
  have HR3 := Aside0.mk h3
  have HR4 := Aside0.mk h4
  have HR5 := Aside0.mk h5
  have HR6 := Aside0.mk h6
  have W2 := Aside0.mk w2
  have W5 := Aside0.mk w5
  have HX0 := Aside0.mk (blk_below (blk_new w (.cells #[.int .i64 k, .slice A1 ws.length c1, .slice A2 raw.length c2, .slice A3 it.length c3] 48)) (below_alloc (Below.refl _ _) (.cells #[.int .i64 k', .slice B1 ws'.length d1, .slice B2 raw'.length d2, .slice B3 it'.length d3] 48)))
  have HX1 := Aside0.mk (blk_new (w.alloc (.cells #[.int .i64 k, .slice A1 ws.length c1, .slice A2 raw.length c2, .slice A3 it.length c3] 48)) (.cells #[.int .i64 k', .slice B1 ws'.length d1, .slice B2 raw'.length d2, .slice B3 it'.length d3] 48))
  rw [show (w.alloc (.cells #[.int .i64 k, .slice A1 ws.length c1, .slice A2 raw.length c2, .slice A3 it.length c3] 48)).heap.size = w.heap.size + 1 from Array.size_push _] at HX1
  have HB0 := Aside0.mk (below_alloc (below_alloc (Below.refl w.heap.size w) (.cells #[.int .i64 k, .slice A1 ws.length c1, .slice A2 raw.length c2, .slice A3 it.length c3] 48)) (.cells #[.int .i64 k', .slice B1 ws'.length d1, .slice B2 raw'.length d2, .slice B3 it'.length d3] 48))
  clear h1 h2 h3 h4 h5 h6 w2 w5
  by_cases e0 : k = k'
  · subst e0
    by_cases e1 : ws = ws'
    · have D1 := Aside0.mk (decide_eq_true e1)
      by_cases e2 : raw = raw'
      · have D2 := Aside0.mk (decide_eq_true e2)
        by_cases e3 : it = it'
        · have D3 := Aside0.mk (decide_eq_true e3)
          have HE := Aside0.mk (sameO_yes k e1 e2 e3)
          have hkk : (k == k) = true := by simp
          clear e1 e2 e3
          have z0 : ((w.alloc (.cells #[.int .i64 k, .slice A1 ws.length c1, .slice A2 raw.length c2, .slice A3 it.length c3] 48)).alloc (.cells #[.int .i64 k, .slice B1 ws'.length d1, .slice B2 raw'.length d2, .slice B3 it'.length d3] 48)).cell? ⟨w.heap.size, 0, none⟩ = some (.int .i64 k) := blk_cell HX0.out 0
          have z1 : ((w.alloc (.cells #[.int .i64 k, .slice A1 ws.length c1, .slice A2 raw.length c2, .slice A3 it.length c3] 48)).alloc (.cells #[.int .i64 k, .slice B1 ws'.length d1, .slice B2 raw'.length d2, .slice B3 it'.length d3] 48)).cell? ⟨w.heap.size, 1, none⟩ = some (.slice A1 ws.length c1) := blk_cell HX0.out 1
          have z2 : ((w.alloc (.cells #[.int .i64 k, .slice A1 ws.length c1, .slice A2 raw.length c2, .slice A3 it.length c3] 48)).alloc (.cells #[.int .i64 k, .slice B1 ws'.length d1, .slice B2 raw'.length d2, .slice B3 it'.length d3] 48)).cell? ⟨w.heap.size, 2, none⟩ = some (.slice A2 raw.length c2) := blk_cell HX0.out 2
          have z3 : ((w.alloc (.cells #[.int .i64 k, .slice A1 ws.length c1, .slice A2 raw.length c2, .slice A3 it.length c3] 48)).alloc (.cells #[.int .i64 k, .slice B1 ws'.length d1, .slice B2 raw'.length d2, .slice B3 it'.length d3] 48)).cell? ⟨w.heap.size, 3, none⟩ = some (.slice A3 it.length c3) := blk_cell HX0.out 3
          have y0 : ((w.alloc (.cells #[.int .i64 k, .slice A1 ws.length c1, .slice A2 raw.length c2, .slice A3 it.length c3] 48)).alloc (.cells #[.int .i64 k, .slice B1 ws'.length d1, .slice B2 raw'.length d2, .slice B3 it'.length d3] 48)).cell? ⟨w.heap.size + 1, 0, none⟩ = some (.int .i64 k) := blk_cell HX1.out 0
          have y1 : ((w.alloc (.cells #[.int .i64 k, .slice A1 ws.length c1, .slice A2 raw.length c2, .slice A3 it.length c3] 48)).alloc (.cells #[.int .i64 k, .slice B1 ws'.length d1, .slice B2 raw'.length d2, .slice B3 it'.length d3] 48)).cell? ⟨w.heap.size + 1, 1, none⟩ = some (.slice B1 ws'.length d1) := blk_cell HX1.out 1
          have y2 : ((w.alloc (.cells #[.int .i64 k, .slice A1 ws.length c1, .slice A2 raw.length c2, .slice A3 it.length c3] 48)).alloc (.cells #[.int .i64 k, .slice B1 ws'.length d1, .slice B2 raw'.length d2, .slice B3 it'.length d3] 48)).cell? ⟨w.heap.size + 1, 2, none⟩ = some (.slice B2 raw'.length d2) := blk_cell HX1.out 2
          have y3 : ((w.alloc (.cells #[.int .i64 k, .slice A1 ws.length c1, .slice A2 raw.length c2, .slice A3 it.length c3] 48)).alloc (.cells #[.int .i64 k, .slice B1 ws'.length d1, .slice B2 raw'.length d2, .slice B3 it'.length d3] 48)).cell? ⟨w.heap.size + 1, 3, none⟩ = some (.slice B3 it'.length d3) := blk_cell HX1.out 3
          go_enter Try.func127, Try.ntmps127
          go_wp2_with fail
          refine (ref_Words_calls (.slice A1 ws.length c1) (.slice B1 ws'.length d1) ws ws' _ (HR1.out.below HB0.out) (HR4.out.below HB0.out)).mono ?_
          rintro e w1 ⟨rfl, hb⟩
          have HB1 := Aside0.mk (below_step HB0.out hb)
          have HX01 := Aside0.mk (blk_below HX0.out hb)
          have HX11 := Aside0.mk (blk_below HX1.out hb)
          clear hb z0 z1 z2 z3 y0 y1 y2 y3
          rw [D1.out]
          have z0 : (w1).cell? ⟨w.heap.size, 0, none⟩ = some (.int .i64 k) := blk_cell HX01.out 0
          have z1 : (w1).cell? ⟨w.heap.size, 1, none⟩ = some (.slice A1 ws.length c1) := blk_cell HX01.out 1
          have z2 : (w1).cell? ⟨w.heap.size, 2, none⟩ = some (.slice A2 raw.length c2) := blk_cell HX01.out 2
          have z3 : (w1).cell? ⟨w.heap.size, 3, none⟩ = some (.slice A3 it.length c3) := blk_cell HX01.out 3
          have y0 : (w1).cell? ⟨w.heap.size + 1, 0, none⟩ = some (.int .i64 k) := blk_cell HX11.out 0
          have y1 : (w1).cell? ⟨w.heap.size + 1, 1, none⟩ = some (.slice B1 ws'.length d1) := blk_cell HX11.out 1
          have y2 : (w1).cell? ⟨w.heap.size + 1, 2, none⟩ = some (.slice B2 raw'.length d2) := blk_cell HX11.out 2
          have y3 : (w1).cell? ⟨w.heap.size + 1, 3, none⟩ = some (.slice B3 it'.length d3) := blk_cell HX11.out 3
          go_wp2_with fail
          refine (Same_calls (.slice A2 raw.length c2) (.slice B2 raw'.length d2) raw raw' _ (HR2.out.below HB1.out) (HR5.out.below HB1.out) W2.out W5.out).mono ?_
          rintro e w2 ⟨rfl, hb⟩
          have HB2 := Aside0.mk (below_step HB1.out hb)
          have HX02 := Aside0.mk (blk_below HX01.out hb)
          have HX12 := Aside0.mk (blk_below HX11.out hb)
          clear hb z0 z1 z2 z3 y0 y1 y2 y3
          rw [D2.out]
          have z0 : (w2).cell? ⟨w.heap.size, 0, none⟩ = some (.int .i64 k) := blk_cell HX02.out 0
          have z1 : (w2).cell? ⟨w.heap.size, 1, none⟩ = some (.slice A1 ws.length c1) := blk_cell HX02.out 1
          have z2 : (w2).cell? ⟨w.heap.size, 2, none⟩ = some (.slice A2 raw.length c2) := blk_cell HX02.out 2
          have z3 : (w2).cell? ⟨w.heap.size, 3, none⟩ = some (.slice A3 it.length c3) := blk_cell HX02.out 3
          have y0 : (w2).cell? ⟨w.heap.size + 1, 0, none⟩ = some (.int .i64 k) := blk_cell HX12.out 0
          have y1 : (w2).cell? ⟨w.heap.size + 1, 1, none⟩ = some (.slice B1 ws'.length d1) := blk_cell HX12.out 1
          have y2 : (w2).cell? ⟨w.heap.size + 1, 2, none⟩ = some (.slice B2 raw'.length d2) := blk_cell HX12.out 2
          have y3 : (w2).cell? ⟨w.heap.size + 1, 3, none⟩ = some (.slice B3 it'.length d3) := blk_cell HX12.out 3
          go_wp2_with fail
          refine (ref_Words_calls (.slice A3 it.length c3) (.slice B3 it'.length d3) it it' _ (HR3.out.below HB2.out) (HR6.out.below HB2.out)).mono ?_
          rintro e w3 ⟨rfl, hb⟩
          have HB3 := Aside0.mk (below_step HB2.out hb)
          have HX03 := Aside0.mk (blk_below HX02.out hb)
          have HX13 := Aside0.mk (blk_below HX12.out hb)
          clear hb z0 z1 z2 z3 y0 y1 y2 y3
          rw [D3.out]
          have z0 : (w3).cell? ⟨w.heap.size, 0, none⟩ = some (.int .i64 k) := blk_cell HX03.out 0
          have z1 : (w3).cell? ⟨w.heap.size, 1, none⟩ = some (.slice A1 ws.length c1) := blk_cell HX03.out 1
          have z2 : (w3).cell? ⟨w.heap.size, 2, none⟩ = some (.slice A2 raw.length c2) := blk_cell HX03.out 2
          have z3 : (w3).cell? ⟨w.heap.size, 3, none⟩ = some (.slice A3 it.length c3) := blk_cell HX03.out 3
          have y0 : (w3).cell? ⟨w.heap.size + 1, 0, none⟩ = some (.int .i64 k) := blk_cell HX13.out 0
          have y1 : (w3).cell? ⟨w.heap.size + 1, 1, none⟩ = some (.slice B1 ws'.length d1) := blk_cell HX13.out 1
          have y2 : (w3).cell? ⟨w.heap.size + 1, 2, none⟩ = some (.slice B2 raw'.length d2) := blk_cell HX13.out 2
          have y3 : (w3).cell? ⟨w.heap.size + 1, 3, none⟩ = some (.slice B3 it'.length d3) := blk_cell HX13.out 3
          go_wp2_with fail
          go_ret
          exact ⟨by rw [HE.out]; rfl, HB3.out⟩
        · have D3 := Aside0.mk (decide_eq_false e3)
          have HE := Aside0.mk (sameO_no3 k k ws raw ws' raw' e3)
          have hkk : (k == k) = true := by simp
          clear e1 e2 e3
          have z0 : ((w.alloc (.cells #[.int .i64 k, .slice A1 ws.length c1, .slice A2 raw.length c2, .slice A3 it.length c3] 48)).alloc (.cells #[.int .i64 k, .slice B1 ws'.length d1, .slice B2 raw'.length d2, .slice B3 it'.length d3] 48)).cell? ⟨w.heap.size, 0, none⟩ = some (.int .i64 k) := blk_cell HX0.out 0
          have z1 : ((w.alloc (.cells #[.int .i64 k, .slice A1 ws.length c1, .slice A2 raw.length c2, .slice A3 it.length c3] 48)).alloc (.cells #[.int .i64 k, .slice B1 ws'.length d1, .slice B2 raw'.length d2, .slice B3 it'.length d3] 48)).cell? ⟨w.heap.size, 1, none⟩ = some (.slice A1 ws.length c1) := blk_cell HX0.out 1
          have z2 : ((w.alloc (.cells #[.int .i64 k, .slice A1 ws.length c1, .slice A2 raw.length c2, .slice A3 it.length c3] 48)).alloc (.cells #[.int .i64 k, .slice B1 ws'.length d1, .slice B2 raw'.length d2, .slice B3 it'.length d3] 48)).cell? ⟨w.heap.size, 2, none⟩ = some (.slice A2 raw.length c2) := blk_cell HX0.out 2
          have z3 : ((w.alloc (.cells #[.int .i64 k, .slice A1 ws.length c1, .slice A2 raw.length c2, .slice A3 it.length c3] 48)).alloc (.cells #[.int .i64 k, .slice B1 ws'.length d1, .slice B2 raw'.length d2, .slice B3 it'.length d3] 48)).cell? ⟨w.heap.size, 3, none⟩ = some (.slice A3 it.length c3) := blk_cell HX0.out 3
          have y0 : ((w.alloc (.cells #[.int .i64 k, .slice A1 ws.length c1, .slice A2 raw.length c2, .slice A3 it.length c3] 48)).alloc (.cells #[.int .i64 k, .slice B1 ws'.length d1, .slice B2 raw'.length d2, .slice B3 it'.length d3] 48)).cell? ⟨w.heap.size + 1, 0, none⟩ = some (.int .i64 k) := blk_cell HX1.out 0
          have y1 : ((w.alloc (.cells #[.int .i64 k, .slice A1 ws.length c1, .slice A2 raw.length c2, .slice A3 it.length c3] 48)).alloc (.cells #[.int .i64 k, .slice B1 ws'.length d1, .slice B2 raw'.length d2, .slice B3 it'.length d3] 48)).cell? ⟨w.heap.size + 1, 1, none⟩ = some (.slice B1 ws'.length d1) := blk_cell HX1.out 1
          have y2 : ((w.alloc (.cells #[.int .i64 k, .slice A1 ws.length c1, .slice A2 raw.length c2, .slice A3 it.length c3] 48)).alloc (.cells #[.int .i64 k, .slice B1 ws'.length d1, .slice B2 raw'.length d2, .slice B3 it'.length d3] 48)).cell? ⟨w.heap.size + 1, 2, none⟩ = some (.slice B2 raw'.length d2) := blk_cell HX1.out 2
          have y3 : ((w.alloc (.cells #[.int .i64 k, .slice A1 ws.length c1, .slice A2 raw.length c2, .slice A3 it.length c3] 48)).alloc (.cells #[.int .i64 k, .slice B1 ws'.length d1, .slice B2 raw'.length d2, .slice B3 it'.length d3] 48)).cell? ⟨w.heap.size + 1, 3, none⟩ = some (.slice B3 it'.length d3) := blk_cell HX1.out 3
          go_enter Try.func127, Try.ntmps127
          go_wp2_with fail
          refine (ref_Words_calls (.slice A1 ws.length c1) (.slice B1 ws'.length d1) ws ws' _ (HR1.out.below HB0.out) (HR4.out.below HB0.out)).mono ?_
          rintro e w1 ⟨rfl, hb⟩
          have HB1 := Aside0.mk (below_step HB0.out hb)
          have HX01 := Aside0.mk (blk_below HX0.out hb)
          have HX11 := Aside0.mk (blk_below HX1.out hb)
          clear hb z0 z1 z2 z3 y0 y1 y2 y3
          rw [D1.out]
          have z0 : (w1).cell? ⟨w.heap.size, 0, none⟩ = some (.int .i64 k) := blk_cell HX01.out 0
          have z1 : (w1).cell? ⟨w.heap.size, 1, none⟩ = some (.slice A1 ws.length c1) := blk_cell HX01.out 1
          have z2 : (w1).cell? ⟨w.heap.size, 2, none⟩ = some (.slice A2 raw.length c2) := blk_cell HX01.out 2
          have z3 : (w1).cell? ⟨w.heap.size, 3, none⟩ = some (.slice A3 it.length c3) := blk_cell HX01.out 3
          have y0 : (w1).cell? ⟨w.heap.size + 1, 0, none⟩ = some (.int .i64 k) := blk_cell HX11.out 0
          have y1 : (w1).cell? ⟨w.heap.size + 1, 1, none⟩ = some (.slice B1 ws'.length d1) := blk_cell HX11.out 1
          have y2 : (w1).cell? ⟨w.heap.size + 1, 2, none⟩ = some (.slice B2 raw'.length d2) := blk_cell HX11.out 2
          have y3 : (w1).cell? ⟨w.heap.size + 1, 3, none⟩ = some (.slice B3 it'.length d3) := blk_cell HX11.out 3
          go_wp2_with fail
          refine (Same_calls (.slice A2 raw.length c2) (.slice B2 raw'.length d2) raw raw' _ (HR2.out.below HB1.out) (HR5.out.below HB1.out) W2.out W5.out).mono ?_
          rintro e w2 ⟨rfl, hb⟩
          have HB2 := Aside0.mk (below_step HB1.out hb)
          have HX02 := Aside0.mk (blk_below HX01.out hb)
          have HX12 := Aside0.mk (blk_below HX11.out hb)
          clear hb z0 z1 z2 z3 y0 y1 y2 y3
          rw [D2.out]
          have z0 : (w2).cell? ⟨w.heap.size, 0, none⟩ = some (.int .i64 k) := blk_cell HX02.out 0
          have z1 : (w2).cell? ⟨w.heap.size, 1, none⟩ = some (.slice A1 ws.length c1) := blk_cell HX02.out 1
          have z2 : (w2).cell? ⟨w.heap.size, 2, none⟩ = some (.slice A2 raw.length c2) := blk_cell HX02.out 2
          have z3 : (w2).cell? ⟨w.heap.size, 3, none⟩ = some (.slice A3 it.length c3) := blk_cell HX02.out 3
          have y0 : (w2).cell? ⟨w.heap.size + 1, 0, none⟩ = some (.int .i64 k) := blk_cell HX12.out 0
          have y1 : (w2).cell? ⟨w.heap.size + 1, 1, none⟩ = some (.slice B1 ws'.length d1) := blk_cell HX12.out 1
          have y2 : (w2).cell? ⟨w.heap.size + 1, 2, none⟩ = some (.slice B2 raw'.length d2) := blk_cell HX12.out 2
          have y3 : (w2).cell? ⟨w.heap.size + 1, 3, none⟩ = some (.slice B3 it'.length d3) := blk_cell HX12.out 3
          go_wp2_with fail
          refine (ref_Words_calls (.slice A3 it.length c3) (.slice B3 it'.length d3) it it' _ (HR3.out.below HB2.out) (HR6.out.below HB2.out)).mono ?_
          rintro e w3 ⟨rfl, hb⟩
          have HB3 := Aside0.mk (below_step HB2.out hb)
          have HX03 := Aside0.mk (blk_below HX02.out hb)
          have HX13 := Aside0.mk (blk_below HX12.out hb)
          clear hb z0 z1 z2 z3 y0 y1 y2 y3
          rw [D3.out]
          have z0 : (w3).cell? ⟨w.heap.size, 0, none⟩ = some (.int .i64 k) := blk_cell HX03.out 0
          have z1 : (w3).cell? ⟨w.heap.size, 1, none⟩ = some (.slice A1 ws.length c1) := blk_cell HX03.out 1
          have z2 : (w3).cell? ⟨w.heap.size, 2, none⟩ = some (.slice A2 raw.length c2) := blk_cell HX03.out 2
          have z3 : (w3).cell? ⟨w.heap.size, 3, none⟩ = some (.slice A3 it.length c3) := blk_cell HX03.out 3
          have y0 : (w3).cell? ⟨w.heap.size + 1, 0, none⟩ = some (.int .i64 k) := blk_cell HX13.out 0
          have y1 : (w3).cell? ⟨w.heap.size + 1, 1, none⟩ = some (.slice B1 ws'.length d1) := blk_cell HX13.out 1
          have y2 : (w3).cell? ⟨w.heap.size + 1, 2, none⟩ = some (.slice B2 raw'.length d2) := blk_cell HX13.out 2
          have y3 : (w3).cell? ⟨w.heap.size + 1, 3, none⟩ = some (.slice B3 it'.length d3) := blk_cell HX13.out 3
          go_wp2_with fail
          go_ret
          exact ⟨by rw [HE.out]; rfl, HB3.out⟩
      · have D2 := Aside0.mk (decide_eq_false e2)
        have HE := Aside0.mk (sameO_no2 k k ws it ws' it' e2)
        have hkk : (k == k) = true := by simp
        clear e1 e2
        have z0 : ((w.alloc (.cells #[.int .i64 k, .slice A1 ws.length c1, .slice A2 raw.length c2, .slice A3 it.length c3] 48)).alloc (.cells #[.int .i64 k, .slice B1 ws'.length d1, .slice B2 raw'.length d2, .slice B3 it'.length d3] 48)).cell? ⟨w.heap.size, 0, none⟩ = some (.int .i64 k) := blk_cell HX0.out 0
        have z1 : ((w.alloc (.cells #[.int .i64 k, .slice A1 ws.length c1, .slice A2 raw.length c2, .slice A3 it.length c3] 48)).alloc (.cells #[.int .i64 k, .slice B1 ws'.length d1, .slice B2 raw'.length d2, .slice B3 it'.length d3] 48)).cell? ⟨w.heap.size, 1, none⟩ = some (.slice A1 ws.length c1) := blk_cell HX0.out 1
        have z2 : ((w.alloc (.cells #[.int .i64 k, .slice A1 ws.length c1, .slice A2 raw.length c2, .slice A3 it.length c3] 48)).alloc (.cells #[.int .i64 k, .slice B1 ws'.length d1, .slice B2 raw'.length d2, .slice B3 it'.length d3] 48)).cell? ⟨w.heap.size, 2, none⟩ = some (.slice A2 raw.length c2) := blk_cell HX0.out 2
        have z3 : ((w.alloc (.cells #[.int .i64 k, .slice A1 ws.length c1, .slice A2 raw.length c2, .slice A3 it.length c3] 48)).alloc (.cells #[.int .i64 k, .slice B1 ws'.length d1, .slice B2 raw'.length d2, .slice B3 it'.length d3] 48)).cell? ⟨w.heap.size, 3, none⟩ = some (.slice A3 it.length c3) := blk_cell HX0.out 3
        have y0 : ((w.alloc (.cells #[.int .i64 k, .slice A1 ws.length c1, .slice A2 raw.length c2, .slice A3 it.length c3] 48)).alloc (.cells #[.int .i64 k, .slice B1 ws'.length d1, .slice B2 raw'.length d2, .slice B3 it'.length d3] 48)).cell? ⟨w.heap.size + 1, 0, none⟩ = some (.int .i64 k) := blk_cell HX1.out 0
        have y1 : ((w.alloc (.cells #[.int .i64 k, .slice A1 ws.length c1, .slice A2 raw.length c2, .slice A3 it.length c3] 48)).alloc (.cells #[.int .i64 k, .slice B1 ws'.length d1, .slice B2 raw'.length d2, .slice B3 it'.length d3] 48)).cell? ⟨w.heap.size + 1, 1, none⟩ = some (.slice B1 ws'.length d1) := blk_cell HX1.out 1
        have y2 : ((w.alloc (.cells #[.int .i64 k, .slice A1 ws.length c1, .slice A2 raw.length c2, .slice A3 it.length c3] 48)).alloc (.cells #[.int .i64 k, .slice B1 ws'.length d1, .slice B2 raw'.length d2, .slice B3 it'.length d3] 48)).cell? ⟨w.heap.size + 1, 2, none⟩ = some (.slice B2 raw'.length d2) := blk_cell HX1.out 2
        have y3 : ((w.alloc (.cells #[.int .i64 k, .slice A1 ws.length c1, .slice A2 raw.length c2, .slice A3 it.length c3] 48)).alloc (.cells #[.int .i64 k, .slice B1 ws'.length d1, .slice B2 raw'.length d2, .slice B3 it'.length d3] 48)).cell? ⟨w.heap.size + 1, 3, none⟩ = some (.slice B3 it'.length d3) := blk_cell HX1.out 3
        go_enter Try.func127, Try.ntmps127
        go_wp2_with fail
        refine (ref_Words_calls (.slice A1 ws.length c1) (.slice B1 ws'.length d1) ws ws' _ (HR1.out.below HB0.out) (HR4.out.below HB0.out)).mono ?_
        rintro e w1 ⟨rfl, hb⟩
        have HB1 := Aside0.mk (below_step HB0.out hb)
        have HX01 := Aside0.mk (blk_below HX0.out hb)
        have HX11 := Aside0.mk (blk_below HX1.out hb)
        clear hb z0 z1 z2 z3 y0 y1 y2 y3
        rw [D1.out]
        have z0 : (w1).cell? ⟨w.heap.size, 0, none⟩ = some (.int .i64 k) := blk_cell HX01.out 0
        have z1 : (w1).cell? ⟨w.heap.size, 1, none⟩ = some (.slice A1 ws.length c1) := blk_cell HX01.out 1
        have z2 : (w1).cell? ⟨w.heap.size, 2, none⟩ = some (.slice A2 raw.length c2) := blk_cell HX01.out 2
        have z3 : (w1).cell? ⟨w.heap.size, 3, none⟩ = some (.slice A3 it.length c3) := blk_cell HX01.out 3
        have y0 : (w1).cell? ⟨w.heap.size + 1, 0, none⟩ = some (.int .i64 k) := blk_cell HX11.out 0
        have y1 : (w1).cell? ⟨w.heap.size + 1, 1, none⟩ = some (.slice B1 ws'.length d1) := blk_cell HX11.out 1
        have y2 : (w1).cell? ⟨w.heap.size + 1, 2, none⟩ = some (.slice B2 raw'.length d2) := blk_cell HX11.out 2
        have y3 : (w1).cell? ⟨w.heap.size + 1, 3, none⟩ = some (.slice B3 it'.length d3) := blk_cell HX11.out 3
        go_wp2_with fail
        refine (Same_calls (.slice A2 raw.length c2) (.slice B2 raw'.length d2) raw raw' _ (HR2.out.below HB1.out) (HR5.out.below HB1.out) W2.out W5.out).mono ?_
        rintro e w2 ⟨rfl, hb⟩
        have HB2 := Aside0.mk (below_step HB1.out hb)
        have HX02 := Aside0.mk (blk_below HX01.out hb)
        have HX12 := Aside0.mk (blk_below HX11.out hb)
        clear hb z0 z1 z2 z3 y0 y1 y2 y3
        rw [D2.out]
        have z0 : (w2).cell? ⟨w.heap.size, 0, none⟩ = some (.int .i64 k) := blk_cell HX02.out 0
        have z1 : (w2).cell? ⟨w.heap.size, 1, none⟩ = some (.slice A1 ws.length c1) := blk_cell HX02.out 1
        have z2 : (w2).cell? ⟨w.heap.size, 2, none⟩ = some (.slice A2 raw.length c2) := blk_cell HX02.out 2
        have z3 : (w2).cell? ⟨w.heap.size, 3, none⟩ = some (.slice A3 it.length c3) := blk_cell HX02.out 3
        have y0 : (w2).cell? ⟨w.heap.size + 1, 0, none⟩ = some (.int .i64 k) := blk_cell HX12.out 0
        have y1 : (w2).cell? ⟨w.heap.size + 1, 1, none⟩ = some (.slice B1 ws'.length d1) := blk_cell HX12.out 1
        have y2 : (w2).cell? ⟨w.heap.size + 1, 2, none⟩ = some (.slice B2 raw'.length d2) := blk_cell HX12.out 2
        have y3 : (w2).cell? ⟨w.heap.size + 1, 3, none⟩ = some (.slice B3 it'.length d3) := blk_cell HX12.out 3
        go_wp2_with fail
        go_ret
        exact ⟨by rw [HE.out]; rfl, HB2.out⟩
    · have D1 := Aside0.mk (decide_eq_false e1)
      have HE := Aside0.mk (sameO_no1 k k raw it raw' it' e1)
      have hkk : (k == k) = true := by simp
      clear e1
      have z0 : ((w.alloc (.cells #[.int .i64 k, .slice A1 ws.length c1, .slice A2 raw.length c2, .slice A3 it.length c3] 48)).alloc (.cells #[.int .i64 k, .slice B1 ws'.length d1, .slice B2 raw'.length d2, .slice B3 it'.length d3] 48)).cell? ⟨w.heap.size, 0, none⟩ = some (.int .i64 k) := blk_cell HX0.out 0
      have z1 : ((w.alloc (.cells #[.int .i64 k, .slice A1 ws.length c1, .slice A2 raw.length c2, .slice A3 it.length c3] 48)).alloc (.cells #[.int .i64 k, .slice B1 ws'.length d1, .slice B2 raw'.length d2, .slice B3 it'.length d3] 48)).cell? ⟨w.heap.size, 1, none⟩ = some (.slice A1 ws.length c1) := blk_cell HX0.out 1
      have z2 : ((w.alloc (.cells #[.int .i64 k, .slice A1 ws.length c1, .slice A2 raw.length c2, .slice A3 it.length c3] 48)).alloc (.cells #[.int .i64 k, .slice B1 ws'.length d1, .slice B2 raw'.length d2, .slice B3 it'.length d3] 48)).cell? ⟨w.heap.size, 2, none⟩ = some (.slice A2 raw.length c2) := blk_cell HX0.out 2
      have z3 : ((w.alloc (.cells #[.int .i64 k, .slice A1 ws.length c1, .slice A2 raw.length c2, .slice A3 it.length c3] 48)).alloc (.cells #[.int .i64 k, .slice B1 ws'.length d1, .slice B2 raw'.length d2, .slice B3 it'.length d3] 48)).cell? ⟨w.heap.size, 3, none⟩ = some (.slice A3 it.length c3) := blk_cell HX0.out 3
      have y0 : ((w.alloc (.cells #[.int .i64 k, .slice A1 ws.length c1, .slice A2 raw.length c2, .slice A3 it.length c3] 48)).alloc (.cells #[.int .i64 k, .slice B1 ws'.length d1, .slice B2 raw'.length d2, .slice B3 it'.length d3] 48)).cell? ⟨w.heap.size + 1, 0, none⟩ = some (.int .i64 k) := blk_cell HX1.out 0
      have y1 : ((w.alloc (.cells #[.int .i64 k, .slice A1 ws.length c1, .slice A2 raw.length c2, .slice A3 it.length c3] 48)).alloc (.cells #[.int .i64 k, .slice B1 ws'.length d1, .slice B2 raw'.length d2, .slice B3 it'.length d3] 48)).cell? ⟨w.heap.size + 1, 1, none⟩ = some (.slice B1 ws'.length d1) := blk_cell HX1.out 1
      have y2 : ((w.alloc (.cells #[.int .i64 k, .slice A1 ws.length c1, .slice A2 raw.length c2, .slice A3 it.length c3] 48)).alloc (.cells #[.int .i64 k, .slice B1 ws'.length d1, .slice B2 raw'.length d2, .slice B3 it'.length d3] 48)).cell? ⟨w.heap.size + 1, 2, none⟩ = some (.slice B2 raw'.length d2) := blk_cell HX1.out 2
      have y3 : ((w.alloc (.cells #[.int .i64 k, .slice A1 ws.length c1, .slice A2 raw.length c2, .slice A3 it.length c3] 48)).alloc (.cells #[.int .i64 k, .slice B1 ws'.length d1, .slice B2 raw'.length d2, .slice B3 it'.length d3] 48)).cell? ⟨w.heap.size + 1, 3, none⟩ = some (.slice B3 it'.length d3) := blk_cell HX1.out 3
      go_enter Try.func127, Try.ntmps127
      go_wp2_with fail
      refine (ref_Words_calls (.slice A1 ws.length c1) (.slice B1 ws'.length d1) ws ws' _ (HR1.out.below HB0.out) (HR4.out.below HB0.out)).mono ?_
      rintro e w1 ⟨rfl, hb⟩
      have HB1 := Aside0.mk (below_step HB0.out hb)
      have HX01 := Aside0.mk (blk_below HX0.out hb)
      have HX11 := Aside0.mk (blk_below HX1.out hb)
      clear hb z0 z1 z2 z3 y0 y1 y2 y3
      rw [D1.out]
      have z0 : (w1).cell? ⟨w.heap.size, 0, none⟩ = some (.int .i64 k) := blk_cell HX01.out 0
      have z1 : (w1).cell? ⟨w.heap.size, 1, none⟩ = some (.slice A1 ws.length c1) := blk_cell HX01.out 1
      have z2 : (w1).cell? ⟨w.heap.size, 2, none⟩ = some (.slice A2 raw.length c2) := blk_cell HX01.out 2
      have z3 : (w1).cell? ⟨w.heap.size, 3, none⟩ = some (.slice A3 it.length c3) := blk_cell HX01.out 3
      have y0 : (w1).cell? ⟨w.heap.size + 1, 0, none⟩ = some (.int .i64 k) := blk_cell HX11.out 0
      have y1 : (w1).cell? ⟨w.heap.size + 1, 1, none⟩ = some (.slice B1 ws'.length d1) := blk_cell HX11.out 1
      have y2 : (w1).cell? ⟨w.heap.size + 1, 2, none⟩ = some (.slice B2 raw'.length d2) := blk_cell HX11.out 2
      have y3 : (w1).cell? ⟨w.heap.size + 1, 3, none⟩ = some (.slice B3 it'.length d3) := blk_cell HX11.out 3
      go_wp2_with fail
      go_ret
      exact ⟨by rw [HE.out]; rfl, HB1.out⟩
  · have HE := Aside0.mk (sameO_no0 ws raw it ws' raw' it' e0)
    have hkk : (k == k') = false := by simpa using e0
    clear e0
    have z0 : ((w.alloc (.cells #[.int .i64 k, .slice A1 ws.length c1, .slice A2 raw.length c2, .slice A3 it.length c3] 48)).alloc (.cells #[.int .i64 k', .slice B1 ws'.length d1, .slice B2 raw'.length d2, .slice B3 it'.length d3] 48)).cell? ⟨w.heap.size, 0, none⟩ = some (.int .i64 k) := blk_cell HX0.out 0
    have z1 : ((w.alloc (.cells #[.int .i64 k, .slice A1 ws.length c1, .slice A2 raw.length c2, .slice A3 it.length c3] 48)).alloc (.cells #[.int .i64 k', .slice B1 ws'.length d1, .slice B2 raw'.length d2, .slice B3 it'.length d3] 48)).cell? ⟨w.heap.size, 1, none⟩ = some (.slice A1 ws.length c1) := blk_cell HX0.out 1
    have z2 : ((w.alloc (.cells #[.int .i64 k, .slice A1 ws.length c1, .slice A2 raw.length c2, .slice A3 it.length c3] 48)).alloc (.cells #[.int .i64 k', .slice B1 ws'.length d1, .slice B2 raw'.length d2, .slice B3 it'.length d3] 48)).cell? ⟨w.heap.size, 2, none⟩ = some (.slice A2 raw.length c2) := blk_cell HX0.out 2
    have z3 : ((w.alloc (.cells #[.int .i64 k, .slice A1 ws.length c1, .slice A2 raw.length c2, .slice A3 it.length c3] 48)).alloc (.cells #[.int .i64 k', .slice B1 ws'.length d1, .slice B2 raw'.length d2, .slice B3 it'.length d3] 48)).cell? ⟨w.heap.size, 3, none⟩ = some (.slice A3 it.length c3) := blk_cell HX0.out 3
    have y0 : ((w.alloc (.cells #[.int .i64 k, .slice A1 ws.length c1, .slice A2 raw.length c2, .slice A3 it.length c3] 48)).alloc (.cells #[.int .i64 k', .slice B1 ws'.length d1, .slice B2 raw'.length d2, .slice B3 it'.length d3] 48)).cell? ⟨w.heap.size + 1, 0, none⟩ = some (.int .i64 k') := blk_cell HX1.out 0
    have y1 : ((w.alloc (.cells #[.int .i64 k, .slice A1 ws.length c1, .slice A2 raw.length c2, .slice A3 it.length c3] 48)).alloc (.cells #[.int .i64 k', .slice B1 ws'.length d1, .slice B2 raw'.length d2, .slice B3 it'.length d3] 48)).cell? ⟨w.heap.size + 1, 1, none⟩ = some (.slice B1 ws'.length d1) := blk_cell HX1.out 1
    have y2 : ((w.alloc (.cells #[.int .i64 k, .slice A1 ws.length c1, .slice A2 raw.length c2, .slice A3 it.length c3] 48)).alloc (.cells #[.int .i64 k', .slice B1 ws'.length d1, .slice B2 raw'.length d2, .slice B3 it'.length d3] 48)).cell? ⟨w.heap.size + 1, 2, none⟩ = some (.slice B2 raw'.length d2) := blk_cell HX1.out 2
    have y3 : ((w.alloc (.cells #[.int .i64 k, .slice A1 ws.length c1, .slice A2 raw.length c2, .slice A3 it.length c3] 48)).alloc (.cells #[.int .i64 k', .slice B1 ws'.length d1, .slice B2 raw'.length d2, .slice B3 it'.length d3] 48)).cell? ⟨w.heap.size + 1, 3, none⟩ = some (.slice B3 it'.length d3) := blk_cell HX1.out 3
    go_enter Try.func127, Try.ntmps127
    go_wp2_with fail
    go_ret
    exact ⟨by rw [HE.out]; rfl, HB0.out⟩
end Go.Proofs.Ytigdchfjcfljjaa
end
section
/- Reading an object back: its frame. -/
namespace Go.Proofs.Ytigdchfjcfljjaa
open Go.RowKit Go.Proofs.YtigdchfjcfljjaaW.PrintWords Go.Proofs.YtigdchfjcfljjaaW.PrintLast Go.Proofs.YtigdchfjcfljjaaW.PrintMore
attribute [local go_sem] max2_int min2_int max_two min_two max_three min_three max_four min_four
/-- Is a frame right, by its kind K and its size S. -/
def frP (n a K S : Int) : Prop := 0 ≤ a ∧ a + 16 ≤ n ∧ a % 8 = 0 ∧ 1 ≤ K ∧ K ≤ 4 ∧ S ≤ n - a ∧ 16 + 8 * wN K ≤ S ∧ alignZ S ≤ n - a
def frOk (l : List Int) (a : Int) : Bool := decide (0 ≤ a ∧ a + 16 ≤ l.length ∧ a % 8 = 0 ∧ 1 ≤ getN l a 8 ∧ getN l a 8 ≤ 4 ∧ getN l (a + 8) 8 ≤ l.length - a ∧ 16 + 8 * wN (getN l a 8) ≤ getN l (a + 8) 8 ∧ alignZ (getN l (a + 8) 8) ≤ l.length - a)
def frV (l : List Int) (a : Int) : Value := bif frOk l a then .tuple #[.int .i64 (getN l a 8), .int .i64 (getN l (a + 8) 8), .bool true] else .tuple #[.int .i64 0, .int .i64 0, .bool false]
theorem frV_no {l : List Int} {a : Int} (h : ¬ (0 ≤ a ∧ a + 16 ≤ l.length ∧ a % 8 = 0 ∧ 1 ≤ getN l a 8 ∧ getN l a 8 ≤ 4 ∧ getN l (a + 8) 8 ≤ l.length - a ∧ 16 + 8 * wN (getN l a 8) ≤ getN l (a + 8) 8 ∧ alignZ (getN l (a + 8) 8) ≤ l.length - a)) : frV l a = .tuple #[.int .i64 0, .int .i64 0, .bool false] := by rw [frV, frOk, decide_eq_false h]; rfl
theorem frV_yes {l : List Int} {a : Int} (h : 0 ≤ a ∧ a + 16 ≤ l.length ∧ a % 8 = 0 ∧ 1 ≤ getN l a 8 ∧ getN l a 8 ≤ 4 ∧ getN l (a + 8) 8 ≤ l.length - a ∧ 16 + 8 * wN (getN l a 8) ≤ getN l (a + 8) 8 ∧ alignZ (getN l (a + 8) 8) ≤ l.length - a) : frV l a = .tuple #[.int .i64 (getN l a 8), .int .i64 (getN l (a + 8) 8), .bool true] := by rw [frV, frOk, decide_eq_true h]; rfl
set_option maxHeartbeats 8000000 in
set_option maxRecDepth 100000 in
theorem obj_frame_calls (v : Value) (l : List Int) (a : Int) (w : World) (hr : Rd w .u8 v l) (hb : isB l) (hl : l.length ≤ 100000) (ha : a ≤ 100000) (ha0 : -9223372036854775808 ≤ a) :
    Calls Try.prog 102 #[v, .int .i64 a] w fun e w' => e = .returned (frV l a) ∧ Below w.heap.size w w' := by
  have HV := Aside0.mk hr
  have HIB := Aside0.mk hb
  obtain ⟨A, c, rfl, hc, hm, hr'⟩ := hr.mid
  clear hr' hr hb hc hm
  obtain ⟨K, hK⟩ : ∃ x, getN l a 8 = x := ⟨_, rfl⟩
  obtain ⟨S, hS⟩ : ∃ x, getN l (a + 8) 8 = x := ⟨_, rfl⟩
  have hK2 := getN_bound l HIB.out a 8
  have hS2 := getN_bound l HIB.out (a + 8) 8
  rw [hK] at hK2
  rw [hS] at hS2
  obtain ⟨K0, K1⟩ := hK2
  obtain ⟨S0, S1⟩ := hS2
  have HK := Aside0.mk hK
  have HS := Aside0.mk hS
  have HN := Aside0.mk (@frV_no l a)
  have HY := Aside0.mk (@frV_yes l a)
  rw [hK, hS] at HN HY
  clear hK hS
  obtain ⟨q0, q1⟩ := wN_bd K
  obtain ⟨q, hq⟩ : ∃ q, wN K = q := ⟨_, rfl⟩
  rw [hq] at q0 q1 HN HY
  have HQ := Aside0.mk hq
  clear hq
  go_enter Try.func102, Try.ntmps102
  go_wp2_with fail
  refine (le_Get_calls _ l a 8 _ HV.out HIB.out).mono ?_
  rintro e w1 ⟨rfl, hb1⟩
  have HB1 := Aside0.mk hb1
  clear hb1
  rw [HK.out]
  by_cases k1 : 0 ≤ a ∧ a + 8 ≤ l.length
  rotate_left
  · have HNO := Aside0.mk (HN.out (by omega))
    have hf : fitsB l.length a 8 = false := fits_no (fun h => by omega)
    rw [hf]
    go_wp2_with fail
    exact bodyPost_ret (v := .tuple #[.int .i64 0, .int .i64 0, .bool false]) (by simp [results, Try.results102, go_sem]) rfl ⟨by rw [HNO.out], HB1.out⟩
  obtain ⟨a0, a1⟩ := k1
  have hf : fitsB l.length a 8 = true := fits_ok ⟨by omega, by omega, by omega, by omega⟩
  rw [hf]
  clear hf
  by_cases k2 : a % 8 = 0
  rotate_left
  · have HNO := Aside0.mk (HN.out (by omega))
    have hz : (Int.tmod a 8 != 0) = true := by rw [Int.tmod_eq_emod_of_nonneg a0]; simpa using k2
    go_wp2_with fail
    exact bodyPost_ret (v := .tuple #[.int .i64 0, .int .i64 0, .bool false]) (by simp [results, Try.results102, go_sem]) rfl ⟨by rw [HNO.out], HB1.out⟩
  have hz : (Int.tmod a 8 != 0) = false := by rw [Int.tmod_eq_emod_of_nonneg a0]; simpa using k2
  by_cases k3 : 1 ≤ K
  rotate_left
  · have HNO := Aside0.mk (HN.out (by omega))
    go_wp2_with fail
    exact bodyPost_ret (v := .tuple #[.int .i64 0, .int .i64 0, .bool false]) (by simp [results, Try.results102, go_sem]) rfl ⟨by rw [HNO.out], HB1.out⟩
  by_cases k4 : K ≤ 4
  rotate_left
  · have HNO := Aside0.mk (HN.out (by omega))
    go_wp2_with fail
    exact bodyPost_ret (v := .tuple #[.int .i64 0, .int .i64 0, .bool false]) (by simp [results, Try.results102, go_sem]) rfl ⟨by rw [HNO.out], HB1.out⟩
  go_wp2_with fail
  refine (le_Get_calls _ l (a + 8) 8 _ (HV.out.below HB1.out) HIB.out).mono ?_
  rintro e w2 ⟨rfl, hb2⟩
  have HB2 := Aside0.mk (below_step HB1.out hb2)
  clear hb2 hz
  rw [HS.out]
  by_cases k5 : a + 16 ≤ l.length
  rotate_left
  · have HNO := Aside0.mk (HN.out (by omega))
    have hf : fitsB l.length (a + 8) 8 = false := fits_no (fun h => by omega)
    rw [hf]
    go_wp2_with fail
    exact bodyPost_ret (v := .tuple #[.int .i64 0, .int .i64 0, .bool false]) (by simp [results, Try.results102, go_sem]) rfl ⟨by rw [HNO.out], HB2.out⟩
  have hf : fitsB l.length (a + 8) 8 = true := fits_ok ⟨by omega, by omega, by omega, by omega⟩
  rw [hf]
  clear hf
  by_cases k6 : S ≤ l.length - a
  rotate_left
  · have HNO := Aside0.mk (HN.out (by omega))
    go_wp2_with fail
    exact bodyPost_ret (v := .tuple #[.int .i64 0, .int .i64 0, .bool false]) (by simp [results, Try.results102, go_sem]) rfl ⟨by rw [HNO.out], HB2.out⟩
  go_wp2_with fail
  refine (obj_Front_calls K _).mono ?_
  rintro e wx ⟨rfl, rfl⟩
  rw [HQ.out]
  by_cases k7 : 16 + 8 * q ≤ S
  rotate_left
  · have HNO := Aside0.mk (HN.out (by omega))
    go_wp2_with fail
    exact bodyPost_ret (v := .tuple #[.int .i64 0, .int .i64 0, .bool false]) (by simp [results, Try.results102, go_sem]) rfl ⟨by rw [HNO.out], HB2.out⟩
  go_wp2_with fail
  refine (le_Align_calls S _ (by omega)).mono ?_
  rintro e w3 ⟨rfl, hb3⟩
  have HB3 := Aside0.mk (below_step HB2.out hb3)
  clear hb3
  have hal : 0 ≤ alignZ S ∧ alignZ S ≤ S + 8 := by unfold alignZ; split <;> omega
  obtain ⟨al, hal'⟩ : ∃ x, alignZ S = x := ⟨_, rfl⟩
  rw [hal'] at hal HN HY ⊢
  obtain ⟨al0, al1⟩ := hal
  clear hal'
  by_cases k8 : al ≤ l.length - a
  rotate_left
  · have HNO := Aside0.mk (HN.out (by omega))
    go_wp2_with fail
    exact bodyPost_ret (v := .tuple #[.int .i64 0, .int .i64 0, .bool false]) (by simp [results, Try.results102, go_sem]) rfl ⟨by rw [HNO.out], HB3.out⟩
  have HYE := Aside0.mk (HY.out ⟨a0, k5, k2, k3, k4, k6, k7, k8⟩)
  go_wp2_with fail
  exact bodyPost_ret (v := .tuple #[.int .i64 K, .int .i64 S, .bool true]) (by simp [results, Try.results102, go_sem]) rfl ⟨by rw [HYE.out], HB3.out⟩
set_option maxHeartbeats 8000000 in
set_option maxRecDepth 100000 in
theorem obj_notZero_calls (x : Int) (w : World) : Calls Try.prog 109 #[.int .u8 x] w fun e w' => e = .returned (.bool (x != 0)) ∧ w = w' := by
  go_enter Try.func109, Try.ntmps109
  go_wp2_with fail
  go_ret
  exact ⟨rfl, rfl⟩
theorem decide_any {l : List Int} : (l.any fun x => x != 0) = true ∨ (l.any fun x => x != 0) = false := by cases (l.any fun x => x != 0) <;> simp
def idxZ (l : List Int) : Int := if (l.any fun x => x != 0) then ((l.takeWhile fun x => x == 0).length : Int) else -1
theorem idxZ_at {l : List Int} {i : Nat} (h : i < l.length) (hz : ∀ x ∈ l.take i, x = 0) (hn : l.getD i 0 ≠ 0) : idxZ l = i := by
  have hg : l[i]? = some (l.getD i 0) := by rw [List.getD_eq_getElem?_getD, List.getElem?_eq_getElem h]; rfl
  obtain ⟨y, hy⟩ : ∃ y, l.getD i 0 = y := ⟨_, rfl⟩
  rw [hy] at hg hn
  have hs : l = l.take i ++ y :: l.drop (i + 1) := by
    have e1 : l.drop i = y :: l.drop (i + 1) := by
      rw [List.drop_eq_getElem_cons h]; congr 1; rw [List.getElem?_eq_getElem h] at hg; injection hg
    rw [← e1, List.take_append_drop]
  have ha : (l.any fun x => x != 0) = true := by rw [List.any_eq_true]; exact ⟨y, List.mem_of_getElem? hg, by simpa using hn⟩
  have ht : (l.takeWhile fun x => x == 0) = l.take i := by
    rw [hs, List.takeWhile_append_of_pos (by intro x hx; simpa using hz x hx), List.takeWhile_cons_of_neg (by simpa using hn)]
    rw [List.append_nil, ← hs]
  rw [idxZ, if_pos ha, ht, List.length_take, Nat.min_eq_left (by omega)]
theorem idxZ_no {l : List Int} (hz : ∀ x ∈ l, x = 0) : idxZ l = -1 := by
  have ha : (l.any fun x => x != 0) = false := by rw [List.any_eq_false]; intro x hx; simp [hz x hx]
  rw [idxZ, if_neg (by rw [ha]; simp)]
theorem take_zero_step {l : List Int} {i : Nat} (h : i < l.length) (hz : ∀ x ∈ l.take i, x = 0) (h0 : l.getD i 0 = 0) : ∀ x ∈ l.take (i + 1), x = 0 := by
  intro x hx
  rw [take_snoc h] at hx
  rcases List.mem_append.1 hx with hx | hx
  · exact hz x hx
  · simp at hx; rw [hx, ← List.getD_eq_getElem?_getD]; exact h0
set_option maxHeartbeats 8000000 in
set_option maxRecDepth 100000 in
theorem IndexZ_calls (v : Value) (l : List Int) (w : World) (hr : Rd w .u8 v l) :
    Calls Try.prog 145 #[v, .func (.func 109) #[] #[]] w fun e w' => e = .returned (.int .i64 (idxZ l)) ∧ Below w.heap.size w w' := by
  have HV := Aside0.mk hr
  obtain ⟨A, c, rfl, hc, hm, hr'⟩ := hr.mid
  obtain ⟨n, hn⟩ : ∃ n, l.length = n := ⟨_, rfl⟩
  rw [hn] at hc hm hr' HV
  rw [hn]
  have HR := Aside0.mk hr'
  have HN := Aside0.mk hn
  clear hr hr' hn
  go_enter Try.func145, Try.ntmps145
  go_wp2_with fail
  go_loopw [5, 8] (fun v5 v8 w' => ∃ i : Nat, i ≤ n ∧ v8 = .int .i64 i ∧ Aside0 (∀ x ∈ l.take i, x = 0) ∧ Aside0 (Below w.heap.size w w')) (fun _ v8 _ => n - (intOf v8).toNat)
  case atStart => exact ⟨0, by omega, rfl, ⟨fun x hx => by simp at hx⟩, ⟨Below.refl _ _⟩⟩
  case round =>
    obtain ⟨i, hi, rfl, HT, HB⟩ := hrel
    by_cases c3 : i < n
    · obtain ⟨a0, ea0, hcell0⟩ := rd_at (HR.out.below HB.out) i c3
      obtain ⟨x, hx⟩ : ∃ x, l.getD i 0 = x := ⟨_, rfl⟩
      rw [hx] at hcell0
      have HX := Aside0.mk hx
      clear hx
      cases ea0
      go_wp2_with fail
      refine (obj_notZero_calls x _).mono ?_
      rintro e wx ⟨rfl, rfl⟩
      by_cases exy : x = 0
      · have HT1 := Aside0.mk (take_zero_step (by rw [HN.out]; exact c3) HT.out (by rw [HX.out]; exact exy))
        subst exy
        go_wp2_with fail
        go_roundw
        case rel => exact ⟨i + 1, by omega, by go_num, HT1, HB⟩
        case measure => simp [intOf]; omega
      · have hxy : (x != 0) = true := by simpa using exy
        have HE := Aside0.mk (idxZ_at (by rw [HN.out]; exact c3) HT.out (by rw [HX.out]; exact exy))
        rw [hxy]
        go_wp2_with fail
        go_ret
        exact ⟨by rw [HE.out]; rfl, HB.out⟩
    · have HE := Aside0.mk (idxZ_no (l := l) (by have h := HT.out; rw [List.take_of_length_le (by rw [HN.out]; omega)] at h; exact h))
      go_wp2_with fail
      go_ret
      exact ⟨by rw [HE.out]; rfl, HB.out⟩
theorem idxZ_any (l : List Int) : decide (idxZ l ≥ 0) = (l.any fun x => x != 0) := by
  unfold idxZ
  cases h : (l.any fun x => x != 0)
  · simp
  · simp
set_option maxHeartbeats 8000000 in
set_option maxRecDepth 100000 in
theorem ContainsZ_calls (v : Value) (l : List Int) (w : World) (hr : Rd w .u8 v l) :
    Calls Try.prog 108 #[v, .func (.func 109) #[] #[]] w fun e w' => e = .returned (.bool (l.any fun x => x != 0)) ∧ Below w.heap.size w w' := by
  have HV := Aside0.mk hr
  obtain ⟨i, hi⟩ : ∃ i, idxZ l = i := ⟨_, rfl⟩
  have HI := Aside0.mk hi
  have HE := idxZ_any l
  rw [hi] at HE
  have HE := Aside0.mk HE
  clear hr hi
  go_enter Try.func108, Try.ntmps108
  go_wp2_with fail
  refine (IndexZ_calls _ l _ HV.out).mono ?_
  rintro e w1 ⟨rfl, hb⟩
  have HB := Aside0.mk hb
  clear hb
  rw [HI.out]
  go_wp2_with fail
  go_ret
  exact ⟨by rw [← HE.out]; rfl, HB.out⟩
end Go.Proofs.Ytigdchfjcfljjaa
end
section
/- obj.Decode. -/
namespace Go.Proofs.Ytigdchfjcfljjaa
open Go.RowKit Go.Proofs.YtigdchfjcfljjaaW.PrintWords Go.Proofs.YtigdchfjcfljjaaW.PrintLast Go.Proofs.YtigdchfjcfljjaaW.PrintMore
attribute [local go_sem] max2_int min2_int max_two min_two max_three min_three max_four min_four
theorem obelow_set {w W : World} (h : Below w.heap.size w W) (p : Addr) (hg : w.heap.size ≤ p.block) (v : Value) : Below w.heap.size w (W.setCell p v) := h.setCell hg v
theorem kp_set4 {S : Nat → Prop} {w5 w7 : World} {a : Nat} (h : Kp S w5 w7) (ha : S a) (v0 v1 v2 v3 : Value) : Kp S w5 ((((w7.setCell ⟨a, 0, none⟩ v0).setCell ⟨a, 1, none⟩ v1).setCell ⟨a, 2, none⟩ v2).setCell ⟨a, 3, none⟩ v3) := by
  have st : ∀ {w6 : World} (j : Nat) (v : Value), Kp S w5 w6 → Kp S w5 (w6.setCell ⟨a, j, none⟩ v) := fun j v hh => hh.trans (Kp.set _ ⟨a, j, none⟩ v) (fun k hk => .inl (by rw [hk]; exact ha))
  exact st 3 v3 (st 2 v2 (st 1 v1 (st 0 v0 h)))
theorem rd_end {k : IntKind} {w5 wf : World} {S : Nat → Prop} {base e : Nat} {u : Value} {xs ys : List Int} (ho : Own (Value.int k) w5 base e u xs) (hk : Kp S w5 wf) (hn : ∀ b, u.ownBlock = some b → ¬ S b) (hy : ys = xs) : Rd wf k u ys := by
  rw [hy]; exact Own.rd (hk.own ho hn)
theorem below_set4 {w w1 : World} {a : Nat} (h : Below w.heap.size w w1) (ha : w.heap.size ≤ a) (v0 v1 v2 v3 : Value) : Below w.heap.size w ((((w1.setCell ⟨a, 0, none⟩ v0).setCell ⟨a, 1, none⟩ v1).setCell ⟨a, 2, none⟩ v2).setCell ⟨a, 3, none⟩ v3) :=
  obelow_set (obelow_set (obelow_set (obelow_set h _ ha _) _ ha _) _ ha _) _ ha _
set_option maxHeartbeats 8000000 in
set_option maxRecDepth 100000 in
theorem obj_Decode_no (v : Value) (l : List Int) (a : Int) (w : World) (hr : Rd w .u8 v l) (hb : isB l) (hl : l.length ≤ 100000) (ha : a ≤ 100000) (ha0 : -9223372036854775808 ≤ a) (hf : frOk l a = false) :
    Calls Try.prog 33 #[v, .int .i64 a] w fun e w' => e = .returned (.tuple #[.agg #[.int .i64 0, .slice none 0 0, .slice none 0 0, .slice none 0 0], .int .i64 0, .bool false]) ∧ Below w.heap.size w w' := by
  have HV := Aside0.mk hr
  have HIB := Aside0.mk hb
  have HF := Aside0.mk (show frV l a = .tuple #[.int .i64 0, .int .i64 0, .bool false] by rw [frV, hf]; rfl)
  obtain ⟨A, c, rfl, hc, hm, hr'⟩ := hr.mid
  clear hr' hr hb hc hm hf
  have HZ0 := Aside0.mk (blk_new w (.cells #[.int .i64 0, .slice none 0 0, .slice none 0 0, .slice none 0 0] 51))
  have HB0 := Aside0.mk (below_alloc (Below.refl w.heap.size w) (.cells #[.int .i64 0, .slice none 0 0, .slice none 0 0, .slice none 0 0] 51))
  go_enter Try.func33, Try.ntmps33
  go_wp2_with fail
  refine (obj_frame_calls _ l a _ (HV.out.below HB0.out) HIB.out hl ha ha0).mono ?_
  rintro e w1 ⟨rfl, hb1⟩
  have HB1 := Aside0.mk (below_step HB0.out hb1)
  have H0 := blk_below HZ0.out hb1
  have r0 := blk_cell H0 0
  have r1 := blk_cell H0 1
  have r2 := blk_cell H0 2
  have r3 := blk_cell H0 3
  have f0 := blk_frozen H0 0
  have f1 := blk_frozen H0 1
  have f2 := blk_frozen H0 2
  have f3 := blk_frozen H0 3
  clear H0 hb1
  rw [HF.out]
  go_wp2_with fail
  refine bodyPost_ret (v := .tuple #[.agg #[.int .i64 0, .slice none 0 0, .slice none 0 0, .slice none 0 0], .int .i64 0, .bool false]) (by simp [results, Try.results33, go_sem, r0, r1, r2, r3]) rfl ⟨rfl, ?_⟩
  exact below_set4 HB1.out (Nat.le_refl _) _ _ _ _
def odW (l : List Int) (a K : Int) : List Int := wordsAt l (a + 16) (wN K).toNat
def odR (l : List Int) (a K S : Int) : List Int := if K < 3 then rawAt l (a + 16 + 8 * wN K) (S - (16 + 8 * wN K)) else []
def odI (l : List Int) (a K S : Int) : List Int := if K < 3 then [] else wordsAt l (a + 16 + 8 * wN K) ((S - (16 + 8 * wN K)) / 8).toNat
def odP (l : List Int) (a S al : Int) : List Int := (l.take (a + al).toNat).drop (a + S).toNat
def odG (l : List Int) (a K S al : Int) : Bool := oR K (odW l a K).length (odR l a K S).length (odI l a K S).length && (decide (K < 3) || decide (S % 8 = 0)) && !((odP l a S al).any fun x => x != 0)
set_option maxHeartbeats 8000000 in
set_option maxRecDepth 100000 in
theorem obj_Decode_1 (v : Value) (l : List Int) (a : Int) (w : World) (hr : Rd w .u8 v l) (hb : isB l) (hl : l.length ≤ 100000) (ha : a ≤ 100000) (ha0 : -9223372036854775808 ≤ a) (S al : Int) (hf : frV l a = .tuple #[.int .i64 1, .int .i64 S, .bool true]) (hal : alignZ S = al) (a0 : 0 ≤ a) (s0 : 56 ≤ S) (s1 : S ≤ al) (s2 : a + al ≤ l.length) :
    Calls Try.prog 33 #[v, .int .i64 a] w fun e w' => (∃ u1 u2 u3, e = .returned (bif odG l a 1 S al then .tuple #[.agg #[.int .i64 1, u1, u2, u3], .int .i64 (a + al), .bool true] else .tuple #[.agg #[.int .i64 0, .slice none 0 0, .slice none 0 0, .slice none 0 0], .int .i64 0, .bool false]) ∧ Rd w' .u64 u1 (odW l a 1) ∧ Rd w' .u8 u2 (odR l a 1 S) ∧ Rd w' .u64 u3 (odI l a 1 S)) ∧ Below w.heap.size w w' := by
  have HV := Aside0.mk hr
  have HIB := Aside0.mk hb
  have HF := Aside0.mk hf
  have HAL := Aside0.mk hal
  obtain ⟨A, c, rfl, hc, hm, hr'⟩ := hr.mid
  have HFAR : Aside0 (∀ (A' : Addr) n c', (.slice A l.length c : Value) = .slice (some A') n c' → 0 < l.length → A'.block < w.heap.size) := ⟨fun A' n c' e hp => rd_old HV.out e hp⟩
  clear hr' hr hb hc hm hf hal
  have HZ0 := Aside0.mk (blk_new w (.cells #[.int .i64 0, .slice none 0 0, .slice none 0 0, .slice none 0 0] 51))
  have HB0 := Aside0.mk (below_alloc (Below.refl w.heap.size w) (.cells #[.int .i64 0, .slice none 0 0, .slice none 0 0, .slice none 0 0] 51))
  go_enter Try.func33, Try.ntmps33
  go_wp2_with fail
  refine (obj_frame_calls _ l a _ (HV.out.below HB0.out) HIB.out hl ha ha0).mono ?_
  rintro e w1 ⟨rfl, hb1⟩
  have HB1 := Aside0.mk (below_step HB0.out hb1)
  have HZ1 := Aside0.mk (blk_below HZ0.out hb1)
  clear hb1
  rw [HF.out]
  go_wp2_with fail
  refine (le_Read_calls _ l (a + 16) _ (HV.out.below HB1.out) (by omega)).mono ?_
  rintro e w2 ⟨rfl, hb2, hr2⟩
  rw [if_pos (by omega)] at hr2
  obtain ⟨g, hg⟩ : ∃ g, w1.heap.size = g := ⟨_, rfl⟩
  have hgw : w.heap.size < g := by have := blk_lt HZ1.out; omega
  have HB2 := Aside0.mk (below_step HB1.out hb2)
  have HZ2 := Aside0.mk (blk_below HZ1.out hb2)
  rw [hg] at hr2 ⊢
  have HR2 := Aside0.mk hr2
  clear hb2 hr2 hg
  have HFR : Aside0 (∀ (A' : Addr) n c', (.slice A l.length c : Value) = .slice (some A') n c' → 0 < l.length → A'.block ≠ g) := ⟨fun A' n c' e hp => by have := HFAR.out A' n c' e hp; omega⟩
  go_wp2_with fail
  refine (obj_Words_calls 1 _).mono ?_
  rintro e wx ⟨rfl, rfl⟩
  rw [show wN 1 = 5 from rfl]
  go_wp2_with fail
  refine (Reader_Words_calls 5 _ g _ l (a + 16) false HR2.out (HV.out.below HB2.out) HIB.out HFR.out (by omega) (by omega) (by omega)).mono ?_
  rintro e w3 ⟨u1, rfl, hO1, hr3, hk3⟩
  have HWL : wOk false l.length (a + 16) 5 = true := by simp [wOk]; omega
  rw [HWL] at hO1 hr3
  simp only [cond_true, Bool.not_true] at hO1 hr3
  obtain ⟨A1, d1, e1⟩ := own_slice hO1
  rw [wordsAt_len] at e1
  have e1' : u1 = .slice A1 5 d1 := e1
  clear e1
  subst e1'
  have hg2 : g < w2.heap.size := blk_lt HR2.out
  have HO1 := Aside0.mk hO1
  have HB3 := Aside0.mk (Kp.from HB2.out hk3 (fun k hk => by omega))
  have HZ3 := Aside0.mk (hk3.blk HZ2.out (by omega))
  have hg3 : g < w3.heap.size := blk_lt hr3
  have HR3 := Aside0.mk (show RrV w3 g (.slice A l.length c) (a + 56) false by rwa [show a + 16 + 8 * 5 = a + 56 by omega] at hr3)
  clear HWL hO1 hr3 hk3
  go_wp2_with fail
  refine (obj_Front_calls 1 _).mono ?_
  rintro e wx ⟨rfl, rfl⟩
  rw [show (16 : Int) + 8 * wN 1 = 56 from rfl]
  have HX4 := Aside0.mk (blk_new w3 (.cells #[.int .i64 1, .slice A1 5 d1, .slice none 0 0, .slice none 0 0] 51))
  have HB4 := Aside0.mk (below_alloc HB3.out (.cells #[.int .i64 1, .slice A1 5 d1, .slice none 0 0, .slice none 0 0] 51))
  have HZ4 := Aside0.mk (blk_alloc HZ3.out (.cells #[.int .i64 1, .slice A1 5 d1, .slice none 0 0, .slice none 0 0] 51))
  have HR4 := Aside0.mk (HR3.out.below (below_alloc (Below.refl _ _) (.cells #[.int .i64 1, .slice A1 5 d1, .slice none 0 0, .slice none 0 0] 51)))
  have HO4 := Aside0.mk (HO1.out.below (below_alloc (Below.refl _ _) (.cells #[.int .i64 1, .slice A1 5 d1, .slice none 0 0, .slice none 0 0] 51)))
  obtain ⟨p, hp⟩ : ∃ p, w3.heap.size = p := ⟨_, rfl⟩
  obtain ⟨w4, hw4⟩ : ∃ w4, w3.alloc (.cells #[.int .i64 1, .slice A1 5 d1, .slice none 0 0, .slice none 0 0] 51) = w4 := ⟨_, rfl⟩
  rw [hw4] at HX4 HB4 HZ4 HR4 HO4 ⊢
  rw [hp] at HX4 hg3 ⊢
  have HP := Aside0.mk hp
  clear hp hw4
  obtain ⟨q, hq⟩ : ∃ q, S - 56 = q := ⟨_, rfl⟩
  have q0 : 0 ≤ q := by omega
  have hS1 : S ≤ q + 56 := by omega
  have hS2 : q + 56 ≤ S := by omega
  have hwq : IntKind.i64.wrap (S - 56) = q := by rw [IntKind.wrap_i64]; omega
  clear hq
  go_wp2_with fail
  refine (Reader_Raw_calls q _ g _ l (a + 56) false HR4.out (HV.out.below HB4.out) HIB.out (by omega) (by omega) (by omega)).mono ?_
  rintro e w5 ⟨u2, rfl, hO2, hr5, hk5⟩
  have HWL : kOk false l.length (a + 56) q = true := by simp [kOk]; omega
  rw [HWL] at hO2
  simp only [cond_true] at hO2
  obtain ⟨A2, d2, e2⟩ := own_slice hO2
  obtain ⟨N, hN⟩ : ∃ N, (rawAt l (a + 56) q).length = N := ⟨_, rfl⟩
  have hNq : (N : Int) = q := by rw [← hN]; exact rawAt_len l (a + 56) q (by omega) q0 (by omega)
  rw [hN] at e2
  subst e2
  have HN := Aside0.mk hN
  have HO2 := Aside0.mk hO2
  have HO5 := Aside0.mk (hk5.own HO4.out (fun k hk e => by have := HO4.out.ge hk; omega))
  have HB5 := Aside0.mk (Kp.from HB4.out hk5 (fun k hk => by omega))
  have HZ5 := Aside0.mk (hk5.blk HZ4.out (by omega))
  have HX5 := Aside0.mk (hk5.blk HX4.out (by omega))
  have HNQ := Aside0.mk hNq
  have hN9 : N ≤ 100000 := by omega
  clear HWL hO2 hr5 hk5 hN hNq hwq
  have x2 := blk_cell HX5.out 2
  have y2 := blk_frozen HX5.out 2
  go_wp2_with fail
  refine (le_Align_calls S _ (by omega)).mono ?_
  rintro e w6 ⟨rfl, hb6⟩
  rw [HAL.out]
  have hset := blk_set HX5.out 2 (.slice A2 N d2)
  have HX6 := Aside0.mk (show w6.heap[p]? = some (.cells #[.int .i64 1, .slice A1 5 d1, .slice A2 N d2, .slice none 0 0] 51 (0, 0)) from blk_below (by simpa using hset) hb6)
  have hpw : w.heap.size < p := by omega
  have HB6 := Aside0.mk (below_step (obelow_set HB5.out ⟨p, 2, none⟩ (by show w.heap.size ≤ p; omega) (.slice A2 N d2)) hb6)
  have HZ6 := Aside0.mk (blk_below (blk_far HZ5.out (by show w.heap.size ≠ p; omega) (.slice A2 N d2)) hb6)
  have HK6 := Aside0.mk (((Kp.set w5 ⟨p, 2, none⟩ (.slice A2 N d2)).mono (S1 := fun b => b = p ∨ b = w.heap.size) (fun k hk => .inl hk)).below hb6)
  clear hset hb6 x2 y2
  have x0 := blk_cell HX6.out 0
  have x1 := blk_cell HX6.out 1
  have x2 := blk_cell HX6.out 2
  have x3 := blk_cell HX6.out 3
  obtain ⟨i5, hi5, hz5⟩ := infoU8'
  obtain ⟨v', hcut, hrd⟩ := Rd.cut 22 5 Try.underlying22 hi5 hz5 HV.out (a + S) (a + al) (by omega) (by omega) (by omega)
  have HRD := Aside0.mk (show ∀ w1 : World, Rd w1 .u8 (.slice A l.length c) l → Rd w1 .u8 v' (odP l a S al) from hrd)
  have hrem : Int.tmod q 8 = q % 8 := Int.tmod_eq_emod_of_nonneg q0
  have HREM := Aside0.mk hrem
  clear hrd hi5 hz5 hrem
  have H0 := HZ6.out
  go_wp2_with fail
  refine (obj_Right_calls 1 A1 A2 none 5 N 0 d1 d2 0 _ (by omega) (by omega) (by omega)).mono ?_
  rintro e w7 ⟨rfl, hb7⟩
  have HB7 := Aside0.mk (below_step HB6.out hb7)
  have HX7 := Aside0.mk (blk_below HX6.out hb7)
  have HK7 := Aside0.mk (HK6.out.below hb7)
  have HZ7 := Aside0.mk (blk_below HZ6.out hb7)
  clear hb7 H0 x0 x1 x2 x3
  obtain ⟨b, hbq⟩ : ∃ b, oR 1 5 N 0 = b := ⟨_, rfl⟩
  rw [hbq]
  have HBQ := Aside0.mk hbq
  clear hbq
  have HW1 := Aside0.mk (show odW l a 1 = wordsAt l (a + 16) (Int.toNat 5) from rfl)
  have HW2 := Aside0.mk (show odR l a 1 S = rawAt l (a + 56) q by rw [odR, if_pos (by decide), show a + 16 + 8 * wN 1 = a + 56 from by show a + 16 + 8 * 5 = a + 56; omega, show S - (16 + 8 * wN 1) = q from by show S - (16 + 8 * 5) = q; omega])
  have HW3 := Aside0.mk (show odI l a 1 S = [] by rw [odI, if_pos (by decide)])
  have HG := Aside0.mk (show odG l a 1 S al = (oR 1 5 N 0 && !((odP l a S al).any fun x => x != 0)) by rw [odG, HW1.out, HW2.out, HW3.out, HN.out, wordsAt_len]; simp)
  have HN1 := Aside0.mk (show ∀ b, (.slice A1 5 d1 : Value).ownBlock = some b → ¬ (b = p ∨ b = w.heap.size) from fun b hb => by have h1 := HO1.out.ge hb; have h2 := HO1.out.lt hb; have h3 := HP.out; omega)
  have HN2 := Aside0.mk (show ∀ b, (.slice A2 N d2 : Value).ownBlock = some b → ¬ (b = p ∨ b = w.heap.size) from fun b hb => by have h1 := HO2.out.ge hb; have h2 := blk_lt HX4.out; omega)
  have H0 := HZ7.out
  have r0 := blk_cell H0 0
  have r1 := blk_cell H0 1
  have r2 := blk_cell H0 2
  have r3 := blk_cell H0 3
  have f0 := blk_frozen H0 0
  have f1 := blk_frozen H0 1
  have f2 := blk_frozen H0 2
  have f3 := blk_frozen H0 3
  have x0 := blk_cell HX7.out 0
  have x1 := blk_cell HX7.out 1
  have x2 := blk_cell HX7.out 2
  have x3 := blk_cell HX7.out 3
  clear H0
  cases b with
  | false =>
    have HE := Aside0.mk (show odG l a 1 S al = false by rw [HG.out, HBQ.out]; rfl)
    go_wp2_with fail
    refine bodyPost_ret (v := .tuple #[.agg #[.int .i64 0, .slice none 0 0, .slice none 0 0, .slice none 0 0], .int .i64 0, .bool false]) (by simp [results, Try.results33, go_sem, r0, r1, r2, r3]) rfl ⟨⟨.slice A1 5 d1, .slice A2 N d2, .slice none 0 0, by rw [HE.out]; rfl, ?_, ?_, ?_⟩, below_set4 HB7.out (Nat.le_refl _) _ _ _ _⟩
    · exact rd_end HO5.out (kp_set4 HK7.out (.inr rfl) _ _ _ _) HN1.out HW1.out
    · exact rd_end HO2.out (kp_set4 HK7.out (.inr rfl) _ _ _ _) HN2.out HW2.out
    · exact Rd.nil _ _
  | true =>
    go_wp2_with fail
    refine (ContainsZ_calls v' (odP l a S al) _ (HRD.out _ (HV.out.below HB7.out))).mono ?_
    rintro e w8 ⟨rfl, hb8⟩
    have HB8 := Aside0.mk (below_step HB7.out hb8)
    have HX8 := blk_below HX7.out hb8
    have HK8 := Aside0.mk (HK7.out.below hb8)
    have H0 := blk_below HZ7.out hb8
    clear hb8 r0 r1 r2 r3 f0 f1 f2 f3 x0 x1 x2 x3
    obtain ⟨pb, hpb⟩ : ∃ pb, ((odP l a S al).any fun x => x != 0) = pb := ⟨_, rfl⟩
    rw [hpb]
    have HPB := Aside0.mk hpb
    clear hpb
    have r0 := blk_cell H0 0
    have r1 := blk_cell H0 1
    have r2 := blk_cell H0 2
    have r3 := blk_cell H0 3
    have f0 := blk_frozen H0 0
    have f1 := blk_frozen H0 1
    have f2 := blk_frozen H0 2
    have f3 := blk_frozen H0 3
    have x0 := blk_cell HX8 0
    have x1 := blk_cell HX8 1
    have x2 := blk_cell HX8 2
    have x3 := blk_cell HX8 3
    clear H0 HX8
    cases pb with
    | true =>
      have HE := Aside0.mk (show odG l a 1 S al = false by rw [HG.out, HBQ.out, HPB.out]; rfl)
      go_wp2_with fail
      refine bodyPost_ret (v := .tuple #[.agg #[.int .i64 0, .slice none 0 0, .slice none 0 0, .slice none 0 0], .int .i64 0, .bool false]) (by simp [results, Try.results33, go_sem, r0, r1, r2, r3]) rfl ⟨⟨.slice A1 5 d1, .slice A2 N d2, .slice none 0 0, by rw [HE.out]; rfl, ?_, ?_, ?_⟩, below_set4 HB8.out (Nat.le_refl _) _ _ _ _⟩
      · exact rd_end HO5.out (kp_set4 HK8.out (.inr rfl) _ _ _ _) HN1.out HW1.out
      · exact rd_end HO2.out (kp_set4 HK8.out (.inr rfl) _ _ _ _) HN2.out HW2.out
      · exact Rd.nil _ _
    | false =>
      have HE := Aside0.mk (show odG l a 1 S al = true by rw [HG.out, HBQ.out, HPB.out]; rfl)
      go_wp2_with fail
      refine bodyPost_ret (v := .tuple #[.agg #[.int .i64 1, .slice A1 5 d1, .slice A2 N d2, .slice none 0 0], .int .i64 (a + al), .bool true]) (by simp [results, Try.results33, go_sem, r0, r1, r2, r3]) rfl ⟨⟨.slice A1 5 d1, .slice A2 N d2, .slice none 0 0, by rw [HE.out]; rfl, ?_, ?_, ?_⟩, below_set4 HB8.out (Nat.le_refl _) _ _ _ _⟩
      · exact rd_end HO5.out (kp_set4 HK8.out (.inr rfl) _ _ _ _) HN1.out HW1.out
      · exact rd_end HO2.out (kp_set4 HK8.out (.inr rfl) _ _ _ _) HN2.out HW2.out
      · exact Rd.nil _ _
set_option maxHeartbeats 8000000 in
set_option maxRecDepth 100000 in
theorem obj_Decode_2 (v : Value) (l : List Int) (a : Int) (w : World) (hr : Rd w .u8 v l) (hb : isB l) (hl : l.length ≤ 100000) (ha : a ≤ 100000) (ha0 : -9223372036854775808 ≤ a) (S al : Int) (hf : frV l a = .tuple #[.int .i64 2, .int .i64 S, .bool true]) (hal : alignZ S = al) (a0 : 0 ≤ a) (s0 : 40 ≤ S) (s1 : S ≤ al) (s2 : a + al ≤ l.length) :
    Calls Try.prog 33 #[v, .int .i64 a] w fun e w' => (∃ u1 u2 u3, e = .returned (bif odG l a 2 S al then .tuple #[.agg #[.int .i64 2, u1, u2, u3], .int .i64 (a + al), .bool true] else .tuple #[.agg #[.int .i64 0, .slice none 0 0, .slice none 0 0, .slice none 0 0], .int .i64 0, .bool false]) ∧ Rd w' .u64 u1 (odW l a 2) ∧ Rd w' .u8 u2 (odR l a 2 S) ∧ Rd w' .u64 u3 (odI l a 2 S)) ∧ Below w.heap.size w w' := by
  have HV := Aside0.mk hr
  have HIB := Aside0.mk hb
  have HF := Aside0.mk hf
  have HAL := Aside0.mk hal
  obtain ⟨A, c, rfl, hc, hm, hr'⟩ := hr.mid
  have HFAR : Aside0 (∀ (A' : Addr) n c', (.slice A l.length c : Value) = .slice (some A') n c' → 0 < l.length → A'.block < w.heap.size) := ⟨fun A' n c' e hp => rd_old HV.out e hp⟩
  clear hr' hr hb hc hm hf hal
  have HZ0 := Aside0.mk (blk_new w (.cells #[.int .i64 0, .slice none 0 0, .slice none 0 0, .slice none 0 0] 51))
  have HB0 := Aside0.mk (below_alloc (Below.refl w.heap.size w) (.cells #[.int .i64 0, .slice none 0 0, .slice none 0 0, .slice none 0 0] 51))
  go_enter Try.func33, Try.ntmps33
  go_wp2_with fail
  refine (obj_frame_calls _ l a _ (HV.out.below HB0.out) HIB.out hl ha ha0).mono ?_
  rintro e w1 ⟨rfl, hb1⟩
  have HB1 := Aside0.mk (below_step HB0.out hb1)
  have HZ1 := Aside0.mk (blk_below HZ0.out hb1)
  clear hb1
  rw [HF.out]
  go_wp2_with fail
  refine (le_Read_calls _ l (a + 16) _ (HV.out.below HB1.out) (by omega)).mono ?_
  rintro e w2 ⟨rfl, hb2, hr2⟩
  rw [if_pos (by omega)] at hr2
  obtain ⟨g, hg⟩ : ∃ g, w1.heap.size = g := ⟨_, rfl⟩
  have hgw : w.heap.size < g := by have := blk_lt HZ1.out; omega
  have HB2 := Aside0.mk (below_step HB1.out hb2)
  have HZ2 := Aside0.mk (blk_below HZ1.out hb2)
  rw [hg] at hr2 ⊢
  have HR2 := Aside0.mk hr2
  clear hb2 hr2 hg
  have HFR : Aside0 (∀ (A' : Addr) n c', (.slice A l.length c : Value) = .slice (some A') n c' → 0 < l.length → A'.block ≠ g) := ⟨fun A' n c' e hp => by have := HFAR.out A' n c' e hp; omega⟩
  go_wp2_with fail
  refine (obj_Words_calls 2 _).mono ?_
  rintro e wx ⟨rfl, rfl⟩
  rw [show wN 2 = 3 from rfl]
  go_wp2_with fail
  refine (Reader_Words_calls 3 _ g _ l (a + 16) false HR2.out (HV.out.below HB2.out) HIB.out HFR.out (by omega) (by omega) (by omega)).mono ?_
  rintro e w3 ⟨u1, rfl, hO1, hr3, hk3⟩
  have HWL : wOk false l.length (a + 16) 3 = true := by simp [wOk]; omega
  rw [HWL] at hO1 hr3
  simp only [cond_true, Bool.not_true] at hO1 hr3
  obtain ⟨A1, d1, e1⟩ := own_slice hO1
  rw [wordsAt_len] at e1
  have e1' : u1 = .slice A1 3 d1 := e1
  clear e1
  subst e1'
  have hg2 : g < w2.heap.size := blk_lt HR2.out
  have HO1 := Aside0.mk hO1
  have HB3 := Aside0.mk (Kp.from HB2.out hk3 (fun k hk => by omega))
  have HZ3 := Aside0.mk (hk3.blk HZ2.out (by omega))
  have hg3 : g < w3.heap.size := blk_lt hr3
  have HR3 := Aside0.mk (show RrV w3 g (.slice A l.length c) (a + 40) false by rwa [show a + 16 + 8 * 3 = a + 40 by omega] at hr3)
  clear HWL hO1 hr3 hk3
  go_wp2_with fail
  refine (obj_Front_calls 2 _).mono ?_
  rintro e wx ⟨rfl, rfl⟩
  rw [show (16 : Int) + 8 * wN 2 = 40 from rfl]
  have HX4 := Aside0.mk (blk_new w3 (.cells #[.int .i64 2, .slice A1 3 d1, .slice none 0 0, .slice none 0 0] 51))
  have HB4 := Aside0.mk (below_alloc HB3.out (.cells #[.int .i64 2, .slice A1 3 d1, .slice none 0 0, .slice none 0 0] 51))
  have HZ4 := Aside0.mk (blk_alloc HZ3.out (.cells #[.int .i64 2, .slice A1 3 d1, .slice none 0 0, .slice none 0 0] 51))
  have HR4 := Aside0.mk (HR3.out.below (below_alloc (Below.refl _ _) (.cells #[.int .i64 2, .slice A1 3 d1, .slice none 0 0, .slice none 0 0] 51)))
  have HO4 := Aside0.mk (HO1.out.below (below_alloc (Below.refl _ _) (.cells #[.int .i64 2, .slice A1 3 d1, .slice none 0 0, .slice none 0 0] 51)))
  obtain ⟨p, hp⟩ : ∃ p, w3.heap.size = p := ⟨_, rfl⟩
  obtain ⟨w4, hw4⟩ : ∃ w4, w3.alloc (.cells #[.int .i64 2, .slice A1 3 d1, .slice none 0 0, .slice none 0 0] 51) = w4 := ⟨_, rfl⟩
  rw [hw4] at HX4 HB4 HZ4 HR4 HO4 ⊢
  rw [hp] at HX4 hg3 ⊢
  have HP := Aside0.mk hp
  clear hp hw4
  obtain ⟨q, hq⟩ : ∃ q, S - 40 = q := ⟨_, rfl⟩
  have q0 : 0 ≤ q := by omega
  have hS1 : S ≤ q + 40 := by omega
  have hS2 : q + 40 ≤ S := by omega
  have hwq : IntKind.i64.wrap (S - 40) = q := by rw [IntKind.wrap_i64]; omega
  clear hq
  go_wp2_with fail
  refine (Reader_Raw_calls q _ g _ l (a + 40) false HR4.out (HV.out.below HB4.out) HIB.out (by omega) (by omega) (by omega)).mono ?_
  rintro e w5 ⟨u2, rfl, hO2, hr5, hk5⟩
  have HWL : kOk false l.length (a + 40) q = true := by simp [kOk]; omega
  rw [HWL] at hO2
  simp only [cond_true] at hO2
  obtain ⟨A2, d2, e2⟩ := own_slice hO2
  obtain ⟨N, hN⟩ : ∃ N, (rawAt l (a + 40) q).length = N := ⟨_, rfl⟩
  have hNq : (N : Int) = q := by rw [← hN]; exact rawAt_len l (a + 40) q (by omega) q0 (by omega)
  rw [hN] at e2
  subst e2
  have HN := Aside0.mk hN
  have HO2 := Aside0.mk hO2
  have HO5 := Aside0.mk (hk5.own HO4.out (fun k hk e => by have := HO4.out.ge hk; omega))
  have HB5 := Aside0.mk (Kp.from HB4.out hk5 (fun k hk => by omega))
  have HZ5 := Aside0.mk (hk5.blk HZ4.out (by omega))
  have HX5 := Aside0.mk (hk5.blk HX4.out (by omega))
  have HNQ := Aside0.mk hNq
  have hN9 : N ≤ 100000 := by omega
  clear HWL hO2 hr5 hk5 hN hNq hwq
  have x2 := blk_cell HX5.out 2
  have y2 := blk_frozen HX5.out 2
  go_wp2_with fail
  refine (le_Align_calls S _ (by omega)).mono ?_
  rintro e w6 ⟨rfl, hb6⟩
  rw [HAL.out]
  have hset := blk_set HX5.out 2 (.slice A2 N d2)
  have HX6 := Aside0.mk (show w6.heap[p]? = some (.cells #[.int .i64 2, .slice A1 3 d1, .slice A2 N d2, .slice none 0 0] 51 (0, 0)) from blk_below (by simpa using hset) hb6)
  have hpw : w.heap.size < p := by omega
  have HB6 := Aside0.mk (below_step (obelow_set HB5.out ⟨p, 2, none⟩ (by show w.heap.size ≤ p; omega) (.slice A2 N d2)) hb6)
  have HZ6 := Aside0.mk (blk_below (blk_far HZ5.out (by show w.heap.size ≠ p; omega) (.slice A2 N d2)) hb6)
  have HK6 := Aside0.mk (((Kp.set w5 ⟨p, 2, none⟩ (.slice A2 N d2)).mono (S1 := fun b => b = p ∨ b = w.heap.size) (fun k hk => .inl hk)).below hb6)
  clear hset hb6 x2 y2
  have x0 := blk_cell HX6.out 0
  have x1 := blk_cell HX6.out 1
  have x2 := blk_cell HX6.out 2
  have x3 := blk_cell HX6.out 3
  obtain ⟨i5, hi5, hz5⟩ := infoU8'
  obtain ⟨v', hcut, hrd⟩ := Rd.cut 22 5 Try.underlying22 hi5 hz5 HV.out (a + S) (a + al) (by omega) (by omega) (by omega)
  have HRD := Aside0.mk (show ∀ w1 : World, Rd w1 .u8 (.slice A l.length c) l → Rd w1 .u8 v' (odP l a S al) from hrd)
  have hrem : Int.tmod q 8 = q % 8 := Int.tmod_eq_emod_of_nonneg q0
  have HREM := Aside0.mk hrem
  clear hrd hi5 hz5 hrem
  have H0 := HZ6.out
  go_wp2_with fail
  refine (obj_Right_calls 2 A1 A2 none 3 N 0 d1 d2 0 _ (by omega) (by omega) (by omega)).mono ?_
  rintro e w7 ⟨rfl, hb7⟩
  have HB7 := Aside0.mk (below_step HB6.out hb7)
  have HX7 := Aside0.mk (blk_below HX6.out hb7)
  have HK7 := Aside0.mk (HK6.out.below hb7)
  have HZ7 := Aside0.mk (blk_below HZ6.out hb7)
  clear hb7 H0 x0 x1 x2 x3
  obtain ⟨b, hbq⟩ : ∃ b, oR 2 3 N 0 = b := ⟨_, rfl⟩
  rw [hbq]
  have HBQ := Aside0.mk hbq
  clear hbq
  have HW1 := Aside0.mk (show odW l a 2 = wordsAt l (a + 16) (Int.toNat 3) from rfl)
  have HW2 := Aside0.mk (show odR l a 2 S = rawAt l (a + 40) q by rw [odR, if_pos (by decide), show a + 16 + 8 * wN 2 = a + 40 from by show a + 16 + 8 * 3 = a + 40; omega, show S - (16 + 8 * wN 2) = q from by show S - (16 + 8 * 3) = q; omega])
  have HW3 := Aside0.mk (show odI l a 2 S = [] by rw [odI, if_pos (by decide)])
  have HG := Aside0.mk (show odG l a 2 S al = (oR 2 3 N 0 && !((odP l a S al).any fun x => x != 0)) by rw [odG, HW1.out, HW2.out, HW3.out, HN.out, wordsAt_len]; simp)
  have HN1 := Aside0.mk (show ∀ b, (.slice A1 3 d1 : Value).ownBlock = some b → ¬ (b = p ∨ b = w.heap.size) from fun b hb => by have h1 := HO1.out.ge hb; have h2 := HO1.out.lt hb; have h3 := HP.out; omega)
  have HN2 := Aside0.mk (show ∀ b, (.slice A2 N d2 : Value).ownBlock = some b → ¬ (b = p ∨ b = w.heap.size) from fun b hb => by have h1 := HO2.out.ge hb; have h2 := blk_lt HX4.out; omega)
  have H0 := HZ7.out
  have r0 := blk_cell H0 0
  have r1 := blk_cell H0 1
  have r2 := blk_cell H0 2
  have r3 := blk_cell H0 3
  have f0 := blk_frozen H0 0
  have f1 := blk_frozen H0 1
  have f2 := blk_frozen H0 2
  have f3 := blk_frozen H0 3
  have x0 := blk_cell HX7.out 0
  have x1 := blk_cell HX7.out 1
  have x2 := blk_cell HX7.out 2
  have x3 := blk_cell HX7.out 3
  clear H0
  cases b with
  | false =>
    have HE := Aside0.mk (show odG l a 2 S al = false by rw [HG.out, HBQ.out]; rfl)
    go_wp2_with fail
    refine bodyPost_ret (v := .tuple #[.agg #[.int .i64 0, .slice none 0 0, .slice none 0 0, .slice none 0 0], .int .i64 0, .bool false]) (by simp [results, Try.results33, go_sem, r0, r1, r2, r3]) rfl ⟨⟨.slice A1 3 d1, .slice A2 N d2, .slice none 0 0, by rw [HE.out]; rfl, ?_, ?_, ?_⟩, below_set4 HB7.out (Nat.le_refl _) _ _ _ _⟩
    · exact rd_end HO5.out (kp_set4 HK7.out (.inr rfl) _ _ _ _) HN1.out HW1.out
    · exact rd_end HO2.out (kp_set4 HK7.out (.inr rfl) _ _ _ _) HN2.out HW2.out
    · exact Rd.nil _ _
  | true =>
    go_wp2_with fail
    refine (ContainsZ_calls v' (odP l a S al) _ (HRD.out _ (HV.out.below HB7.out))).mono ?_
    rintro e w8 ⟨rfl, hb8⟩
    have HB8 := Aside0.mk (below_step HB7.out hb8)
    have HX8 := blk_below HX7.out hb8
    have HK8 := Aside0.mk (HK7.out.below hb8)
    have H0 := blk_below HZ7.out hb8
    clear hb8 r0 r1 r2 r3 f0 f1 f2 f3 x0 x1 x2 x3
    obtain ⟨pb, hpb⟩ : ∃ pb, ((odP l a S al).any fun x => x != 0) = pb := ⟨_, rfl⟩
    rw [hpb]
    have HPB := Aside0.mk hpb
    clear hpb
    have r0 := blk_cell H0 0
    have r1 := blk_cell H0 1
    have r2 := blk_cell H0 2
    have r3 := blk_cell H0 3
    have f0 := blk_frozen H0 0
    have f1 := blk_frozen H0 1
    have f2 := blk_frozen H0 2
    have f3 := blk_frozen H0 3
    have x0 := blk_cell HX8 0
    have x1 := blk_cell HX8 1
    have x2 := blk_cell HX8 2
    have x3 := blk_cell HX8 3
    clear H0 HX8
    cases pb with
    | true =>
      have HE := Aside0.mk (show odG l a 2 S al = false by rw [HG.out, HBQ.out, HPB.out]; rfl)
      go_wp2_with fail
      refine bodyPost_ret (v := .tuple #[.agg #[.int .i64 0, .slice none 0 0, .slice none 0 0, .slice none 0 0], .int .i64 0, .bool false]) (by simp [results, Try.results33, go_sem, r0, r1, r2, r3]) rfl ⟨⟨.slice A1 3 d1, .slice A2 N d2, .slice none 0 0, by rw [HE.out]; rfl, ?_, ?_, ?_⟩, below_set4 HB8.out (Nat.le_refl _) _ _ _ _⟩
      · exact rd_end HO5.out (kp_set4 HK8.out (.inr rfl) _ _ _ _) HN1.out HW1.out
      · exact rd_end HO2.out (kp_set4 HK8.out (.inr rfl) _ _ _ _) HN2.out HW2.out
      · exact Rd.nil _ _
    | false =>
      have HE := Aside0.mk (show odG l a 2 S al = true by rw [HG.out, HBQ.out, HPB.out]; rfl)
      go_wp2_with fail
      refine bodyPost_ret (v := .tuple #[.agg #[.int .i64 2, .slice A1 3 d1, .slice A2 N d2, .slice none 0 0], .int .i64 (a + al), .bool true]) (by simp [results, Try.results33, go_sem, r0, r1, r2, r3]) rfl ⟨⟨.slice A1 3 d1, .slice A2 N d2, .slice none 0 0, by rw [HE.out]; rfl, ?_, ?_, ?_⟩, below_set4 HB8.out (Nat.le_refl _) _ _ _ _⟩
      · exact rd_end HO5.out (kp_set4 HK8.out (.inr rfl) _ _ _ _) HN1.out HW1.out
      · exact rd_end HO2.out (kp_set4 HK8.out (.inr rfl) _ _ _ _) HN2.out HW2.out
      · exact Rd.nil _ _
set_option maxHeartbeats 8000000 in
set_option maxRecDepth 100000 in
theorem obj_Decode_3 (v : Value) (l : List Int) (a : Int) (w : World) (hr : Rd w .u8 v l) (hb : isB l) (hl : l.length ≤ 100000) (ha : a ≤ 100000) (ha0 : -9223372036854775808 ≤ a) (S al : Int) (hf : frV l a = .tuple #[.int .i64 3, .int .i64 S, .bool true]) (hal : alignZ S = al) (a0 : 0 ≤ a) (s0 : 56 ≤ S) (s1 : S ≤ al) (s2 : a + al ≤ l.length) :
    Calls Try.prog 33 #[v, .int .i64 a] w fun e w' => (∃ u1 u2 u3, e = .returned (bif odG l a 3 S al then .tuple #[.agg #[.int .i64 3, u1, u2, u3], .int .i64 (a + al), .bool true] else .tuple #[.agg #[.int .i64 0, .slice none 0 0, .slice none 0 0, .slice none 0 0], .int .i64 0, .bool false]) ∧ Rd w' .u64 u1 (odW l a 3) ∧ Rd w' .u8 u2 (odR l a 3 S) ∧ Rd w' .u64 u3 (odI l a 3 S)) ∧ Below w.heap.size w w' := by
  have HV := Aside0.mk hr
  have HIB := Aside0.mk hb
  have HF := Aside0.mk hf
  have HAL := Aside0.mk hal
  obtain ⟨A, c, rfl, hc, hm, hr'⟩ := hr.mid
  have HFAR : Aside0 (∀ (A' : Addr) n c', (.slice A l.length c : Value) = .slice (some A') n c' → 0 < l.length → A'.block < w.heap.size) := ⟨fun A' n c' e hp => rd_old HV.out e hp⟩
  clear hr' hr hb hc hm hf hal
  have HZ0 := Aside0.mk (blk_new w (.cells #[.int .i64 0, .slice none 0 0, .slice none 0 0, .slice none 0 0] 51))
  have HB0 := Aside0.mk (below_alloc (Below.refl w.heap.size w) (.cells #[.int .i64 0, .slice none 0 0, .slice none 0 0, .slice none 0 0] 51))
  go_enter Try.func33, Try.ntmps33
  go_wp2_with fail
  refine (obj_frame_calls _ l a _ (HV.out.below HB0.out) HIB.out hl ha ha0).mono ?_
  rintro e w1 ⟨rfl, hb1⟩
  have HB1 := Aside0.mk (below_step HB0.out hb1)
  have HZ1 := Aside0.mk (blk_below HZ0.out hb1)
  clear hb1
  rw [HF.out]
  go_wp2_with fail
  refine (le_Read_calls _ l (a + 16) _ (HV.out.below HB1.out) (by omega)).mono ?_
  rintro e w2 ⟨rfl, hb2, hr2⟩
  rw [if_pos (by omega)] at hr2
  obtain ⟨g, hg⟩ : ∃ g, w1.heap.size = g := ⟨_, rfl⟩
  have hgw : w.heap.size < g := by have := blk_lt HZ1.out; omega
  have HB2 := Aside0.mk (below_step HB1.out hb2)
  have HZ2 := Aside0.mk (blk_below HZ1.out hb2)
  rw [hg] at hr2 ⊢
  have HR2 := Aside0.mk hr2
  clear hb2 hr2 hg
  have HFR : Aside0 (∀ (A' : Addr) n c', (.slice A l.length c : Value) = .slice (some A') n c' → 0 < l.length → A'.block ≠ g) := ⟨fun A' n c' e hp => by have := HFAR.out A' n c' e hp; omega⟩
  go_wp2_with fail
  refine (obj_Words_calls 3 _).mono ?_
  rintro e wx ⟨rfl, rfl⟩
  rw [show wN 3 = 5 from rfl]
  go_wp2_with fail
  refine (Reader_Words_calls 5 _ g _ l (a + 16) false HR2.out (HV.out.below HB2.out) HIB.out HFR.out (by omega) (by omega) (by omega)).mono ?_
  rintro e w3 ⟨u1, rfl, hO1, hr3, hk3⟩
  have HWL : wOk false l.length (a + 16) 5 = true := by simp [wOk]; omega
  rw [HWL] at hO1 hr3
  simp only [cond_true, Bool.not_true] at hO1 hr3
  obtain ⟨A1, d1, e1⟩ := own_slice hO1
  rw [wordsAt_len] at e1
  have e1' : u1 = .slice A1 5 d1 := e1
  clear e1
  subst e1'
  have hg2 : g < w2.heap.size := blk_lt HR2.out
  have HO1 := Aside0.mk hO1
  have HB3 := Aside0.mk (Kp.from HB2.out hk3 (fun k hk => by omega))
  have HZ3 := Aside0.mk (hk3.blk HZ2.out (by omega))
  have hg3 : g < w3.heap.size := blk_lt hr3
  have HR3 := Aside0.mk (show RrV w3 g (.slice A l.length c) (a + 56) false by rwa [show a + 16 + 8 * 5 = a + 56 by omega] at hr3)
  clear HWL hO1 hr3 hk3
  go_wp2_with fail
  refine (obj_Front_calls 3 _).mono ?_
  rintro e wx ⟨rfl, rfl⟩
  rw [show (16 : Int) + 8 * wN 3 = 56 from rfl]
  have HX4 := Aside0.mk (blk_new w3 (.cells #[.int .i64 3, .slice A1 5 d1, .slice none 0 0, .slice none 0 0] 51))
  have HB4 := Aside0.mk (below_alloc HB3.out (.cells #[.int .i64 3, .slice A1 5 d1, .slice none 0 0, .slice none 0 0] 51))
  have HZ4 := Aside0.mk (blk_alloc HZ3.out (.cells #[.int .i64 3, .slice A1 5 d1, .slice none 0 0, .slice none 0 0] 51))
  have HR4 := Aside0.mk (HR3.out.below (below_alloc (Below.refl _ _) (.cells #[.int .i64 3, .slice A1 5 d1, .slice none 0 0, .slice none 0 0] 51)))
  have HO4 := Aside0.mk (HO1.out.below (below_alloc (Below.refl _ _) (.cells #[.int .i64 3, .slice A1 5 d1, .slice none 0 0, .slice none 0 0] 51)))
  obtain ⟨p, hp⟩ : ∃ p, w3.heap.size = p := ⟨_, rfl⟩
  obtain ⟨w4, hw4⟩ : ∃ w4, w3.alloc (.cells #[.int .i64 3, .slice A1 5 d1, .slice none 0 0, .slice none 0 0] 51) = w4 := ⟨_, rfl⟩
  rw [hw4] at HX4 HB4 HZ4 HR4 HO4 ⊢
  rw [hp] at HX4 hg3 ⊢
  have HP := Aside0.mk hp
  clear hp hw4
  obtain ⟨q, hq⟩ : ∃ q, S - 56 = q := ⟨_, rfl⟩
  have q0 : 0 ≤ q := by omega
  have hS1 : S ≤ q + 56 := by omega
  have hS2 : q + 56 ≤ S := by omega
  have hwq : IntKind.i64.wrap (S - 56) = q := by rw [IntKind.wrap_i64]; omega
  clear hq
  go_wp2_with fail
  obtain ⟨m, hm8⟩ : ∃ m, q / 8 = m := ⟨_, rfl⟩
  have m0 : 0 ≤ m := by omega
  have m1 : 8 * m ≤ q := by omega
  have m2 : q < 8 * m + 8 := by omega
  rw [hm8]
  have HM := Aside0.mk hm8
  clear hm8
  refine (Reader_Words_calls m _ g _ l (a + 56) false HR4.out (HV.out.below HB4.out) HIB.out HFR.out (by omega) (by omega) (by omega)).mono ?_
  rintro e w5 ⟨u2, rfl, hO2, hr5, hk5⟩
  have HWL : wOk false l.length (a + 56) m = true := by simp [wOk]; omega
  rw [HWL] at hO2
  simp only [cond_true] at hO2
  obtain ⟨A2, d2, e2⟩ := own_slice hO2
  rw [wordsAt_len] at e2
  obtain ⟨N, hN⟩ : ∃ N, m.toNat = N := ⟨_, rfl⟩
  have hNq : (N : Int) = m := by omega
  rw [hN] at e2
  subst e2
  have HN := Aside0.mk hN
  have HO2 := Aside0.mk hO2
  have HO5 := Aside0.mk (hk5.own HO4.out (fun k hk e => by have := HO4.out.ge hk; omega))
  have HB5 := Aside0.mk (Kp.from HB4.out hk5 (fun k hk => by omega))
  have HZ5 := Aside0.mk (hk5.blk HZ4.out (by omega))
  have HX5 := Aside0.mk (hk5.blk HX4.out (by omega))
  have HNQ := Aside0.mk hNq
  have hN9 : N ≤ 100000 := by omega
  clear HWL hO2 hr5 hk5 hN hNq hwq
  have x2 := blk_cell HX5.out 3
  have y2 := blk_frozen HX5.out 3
  go_wp2_with fail
  refine (le_Align_calls S _ (by omega)).mono ?_
  rintro e w6 ⟨rfl, hb6⟩
  rw [HAL.out]
  have hset := blk_set HX5.out 3 (.slice A2 N d2)
  have HX6 := Aside0.mk (show w6.heap[p]? = some (.cells #[.int .i64 3, .slice A1 5 d1, .slice none 0 0, .slice A2 N d2] 51 (0, 0)) from blk_below (by simpa using hset) hb6)
  have hpw : w.heap.size < p := by omega
  have HB6 := Aside0.mk (below_step (obelow_set HB5.out ⟨p, 3, none⟩ (by show w.heap.size ≤ p; omega) (.slice A2 N d2)) hb6)
  have HZ6 := Aside0.mk (blk_below (blk_far HZ5.out (by show w.heap.size ≠ p; omega) (.slice A2 N d2)) hb6)
  have HK6 := Aside0.mk (((Kp.set w5 ⟨p, 3, none⟩ (.slice A2 N d2)).mono (S1 := fun b => b = p ∨ b = w.heap.size) (fun k hk => .inl hk)).below hb6)
  clear hset hb6 x2 y2
  have x0 := blk_cell HX6.out 0
  have x1 := blk_cell HX6.out 1
  have x2 := blk_cell HX6.out 2
  have x3 := blk_cell HX6.out 3
  obtain ⟨i5, hi5, hz5⟩ := infoU8'
  obtain ⟨v', hcut, hrd⟩ := Rd.cut 22 5 Try.underlying22 hi5 hz5 HV.out (a + S) (a + al) (by omega) (by omega) (by omega)
  have HRD := Aside0.mk (show ∀ w1 : World, Rd w1 .u8 (.slice A l.length c) l → Rd w1 .u8 v' (odP l a S al) from hrd)
  have hrem : Int.tmod q 8 = q % 8 := Int.tmod_eq_emod_of_nonneg q0
  have HREM := Aside0.mk hrem
  clear hrd hi5 hz5 hrem
  have H0 := HZ6.out
  go_wp2_with fail
  refine (obj_Right_calls 3 A1 none A2 5 0 N d1 0 d2 _ (by omega) (by omega) (by omega)).mono ?_
  rintro e w7 ⟨rfl, hb7⟩
  have HB7 := Aside0.mk (below_step HB6.out hb7)
  have HX7 := Aside0.mk (blk_below HX6.out hb7)
  have HK7 := Aside0.mk (HK6.out.below hb7)
  have HZ7 := Aside0.mk (blk_below HZ6.out hb7)
  clear hb7 H0 x0 x1 x2 x3
  obtain ⟨b, hbq⟩ : ∃ b, oR 3 5 0 N = b := ⟨_, rfl⟩
  rw [hbq]
  have HBQ := Aside0.mk hbq
  clear hbq
  have HW1 := Aside0.mk (show odW l a 3 = wordsAt l (a + 16) (Int.toNat 5) from rfl)
  have HW2 := Aside0.mk (show odR l a 3 S = [] by rw [odR, if_neg (by decide)])
  have HW3 := Aside0.mk (show odI l a 3 S = wordsAt l (a + 56) m.toNat by rw [odI, if_neg (by decide), show a + 16 + 8 * wN 3 = a + 56 from by show a + 16 + 8 * 5 = a + 56; omega, show S - (16 + 8 * wN 3) = q from by show S - (16 + 8 * 5) = q; omega, HM.out])
  have HG := Aside0.mk (show odG l a 3 S al = (oR 3 5 0 N && decide (q % 8 = 0) && !((odP l a S al).any fun x => x != 0)) by rw [odG, HW1.out, HW2.out, HW3.out, wordsAt_len, wordsAt_len, HN.out, show decide (S % 8 = 0) = decide (q % 8 = 0) from decide_eq_decide.2 (by omega)]; simp)
  have HN1 := Aside0.mk (show ∀ b, (.slice A1 5 d1 : Value).ownBlock = some b → ¬ (b = p ∨ b = w.heap.size) from fun b hb => by have h1 := HO1.out.ge hb; have h2 := HO1.out.lt hb; have h3 := HP.out; omega)
  have HN2 := Aside0.mk (show ∀ b, (.slice A2 N d2 : Value).ownBlock = some b → ¬ (b = p ∨ b = w.heap.size) from fun b hb => by have h1 := HO2.out.ge hb; have h2 := blk_lt HX4.out; omega)
  have H0 := HZ7.out
  have r0 := blk_cell H0 0
  have r1 := blk_cell H0 1
  have r2 := blk_cell H0 2
  have r3 := blk_cell H0 3
  have f0 := blk_frozen H0 0
  have f1 := blk_frozen H0 1
  have f2 := blk_frozen H0 2
  have f3 := blk_frozen H0 3
  have x0 := blk_cell HX7.out 0
  have x1 := blk_cell HX7.out 1
  have x2 := blk_cell HX7.out 2
  have x3 := blk_cell HX7.out 3
  clear H0
  cases b with
  | false =>
    have HE := Aside0.mk (show odG l a 3 S al = false by rw [HG.out, HBQ.out]; rfl)
    go_wp2_with fail
    refine bodyPost_ret (v := .tuple #[.agg #[.int .i64 0, .slice none 0 0, .slice none 0 0, .slice none 0 0], .int .i64 0, .bool false]) (by simp [results, Try.results33, go_sem, r0, r1, r2, r3]) rfl ⟨⟨.slice A1 5 d1, .slice none 0 0, .slice A2 N d2, by rw [HE.out]; rfl, ?_, ?_, ?_⟩, below_set4 HB7.out (Nat.le_refl _) _ _ _ _⟩
    · exact rd_end HO5.out (kp_set4 HK7.out (.inr rfl) _ _ _ _) HN1.out HW1.out
    · exact Rd.nil _ _
    · exact rd_end HO2.out (kp_set4 HK7.out (.inr rfl) _ _ _ _) HN2.out HW3.out
  | true =>
    by_cases k8 : q % 8 = 0
    rotate_left
    · skip
      have HE := Aside0.mk (show odG l a 3 S al = false by rw [HG.out, HBQ.out, decide_eq_false k8]; rfl)
      have k9 : (q % 8 != 0) = true := by simpa using k8
      go_wp2_with fail
      refine bodyPost_ret (v := .tuple #[.agg #[.int .i64 0, .slice none 0 0, .slice none 0 0, .slice none 0 0], .int .i64 0, .bool false]) (by simp [results, Try.results33, go_sem, r0, r1, r2, r3]) rfl ⟨⟨.slice A1 5 d1, .slice none 0 0, .slice A2 N d2, by rw [HE.out]; rfl, ?_, ?_, ?_⟩, below_set4 HB7.out (Nat.le_refl _) _ _ _ _⟩
      · exact rd_end HO5.out (kp_set4 HK7.out (.inr rfl) _ _ _ _) HN1.out HW1.out
      · exact Rd.nil _ _
      · exact rd_end HO2.out (kp_set4 HK7.out (.inr rfl) _ _ _ _) HN2.out HW3.out
    have k9 : (q % 8 != 0) = false := by simpa using k8
    have HK8' := Aside0.mk k8
    clear k8
    go_wp2_with fail
    refine (ContainsZ_calls v' (odP l a S al) _ (HRD.out _ (HV.out.below HB7.out))).mono ?_
    rintro e w8 ⟨rfl, hb8⟩
    have HB8 := Aside0.mk (below_step HB7.out hb8)
    have HX8 := blk_below HX7.out hb8
    have HK8 := Aside0.mk (HK7.out.below hb8)
    have H0 := blk_below HZ7.out hb8
    clear hb8 r0 r1 r2 r3 f0 f1 f2 f3 x0 x1 x2 x3
    obtain ⟨pb, hpb⟩ : ∃ pb, ((odP l a S al).any fun x => x != 0) = pb := ⟨_, rfl⟩
    rw [hpb]
    have HPB := Aside0.mk hpb
    clear hpb
    have r0 := blk_cell H0 0
    have r1 := blk_cell H0 1
    have r2 := blk_cell H0 2
    have r3 := blk_cell H0 3
    have f0 := blk_frozen H0 0
    have f1 := blk_frozen H0 1
    have f2 := blk_frozen H0 2
    have f3 := blk_frozen H0 3
    have x0 := blk_cell HX8 0
    have x1 := blk_cell HX8 1
    have x2 := blk_cell HX8 2
    have x3 := blk_cell HX8 3
    clear H0 HX8
    cases pb with
    | true =>
      have HE := Aside0.mk (show odG l a 3 S al = false by rw [HG.out, HBQ.out, HPB.out, decide_eq_true HK8'.out]; rfl)
      go_wp2_with fail
      refine bodyPost_ret (v := .tuple #[.agg #[.int .i64 0, .slice none 0 0, .slice none 0 0, .slice none 0 0], .int .i64 0, .bool false]) (by simp [results, Try.results33, go_sem, r0, r1, r2, r3]) rfl ⟨⟨.slice A1 5 d1, .slice none 0 0, .slice A2 N d2, by rw [HE.out]; rfl, ?_, ?_, ?_⟩, below_set4 HB8.out (Nat.le_refl _) _ _ _ _⟩
      · exact rd_end HO5.out (kp_set4 HK8.out (.inr rfl) _ _ _ _) HN1.out HW1.out
      · exact Rd.nil _ _
      · exact rd_end HO2.out (kp_set4 HK8.out (.inr rfl) _ _ _ _) HN2.out HW3.out
    | false =>
      have HE := Aside0.mk (show odG l a 3 S al = true by rw [HG.out, HBQ.out, HPB.out, decide_eq_true HK8'.out]; rfl)
      go_wp2_with fail
      refine bodyPost_ret (v := .tuple #[.agg #[.int .i64 3, .slice A1 5 d1, .slice none 0 0, .slice A2 N d2], .int .i64 (a + al), .bool true]) (by simp [results, Try.results33, go_sem, r0, r1, r2, r3]) rfl ⟨⟨.slice A1 5 d1, .slice none 0 0, .slice A2 N d2, by rw [HE.out]; rfl, ?_, ?_, ?_⟩, below_set4 HB8.out (Nat.le_refl _) _ _ _ _⟩
      · exact rd_end HO5.out (kp_set4 HK8.out (.inr rfl) _ _ _ _) HN1.out HW1.out
      · exact Rd.nil _ _
      · exact rd_end HO2.out (kp_set4 HK8.out (.inr rfl) _ _ _ _) HN2.out HW3.out
set_option maxHeartbeats 8000000 in
set_option maxRecDepth 100000 in
theorem obj_Decode_4 (v : Value) (l : List Int) (a : Int) (w : World) (hr : Rd w .u8 v l) (hb : isB l) (hl : l.length ≤ 100000) (ha : a ≤ 100000) (ha0 : -9223372036854775808 ≤ a) (S al : Int) (hf : frV l a = .tuple #[.int .i64 4, .int .i64 S, .bool true]) (hal : alignZ S = al) (a0 : 0 ≤ a) (s0 : 24 ≤ S) (s1 : S ≤ al) (s2 : a + al ≤ l.length) :
    Calls Try.prog 33 #[v, .int .i64 a] w fun e w' => (∃ u1 u2 u3, e = .returned (bif odG l a 4 S al then .tuple #[.agg #[.int .i64 4, u1, u2, u3], .int .i64 (a + al), .bool true] else .tuple #[.agg #[.int .i64 0, .slice none 0 0, .slice none 0 0, .slice none 0 0], .int .i64 0, .bool false]) ∧ Rd w' .u64 u1 (odW l a 4) ∧ Rd w' .u8 u2 (odR l a 4 S) ∧ Rd w' .u64 u3 (odI l a 4 S)) ∧ Below w.heap.size w w' := by
  have HV := Aside0.mk hr
  have HIB := Aside0.mk hb
  have HF := Aside0.mk hf
  have HAL := Aside0.mk hal
  obtain ⟨A, c, rfl, hc, hm, hr'⟩ := hr.mid
  have HFAR : Aside0 (∀ (A' : Addr) n c', (.slice A l.length c : Value) = .slice (some A') n c' → 0 < l.length → A'.block < w.heap.size) := ⟨fun A' n c' e hp => rd_old HV.out e hp⟩
  clear hr' hr hb hc hm hf hal
  have HZ0 := Aside0.mk (blk_new w (.cells #[.int .i64 0, .slice none 0 0, .slice none 0 0, .slice none 0 0] 51))
  have HB0 := Aside0.mk (below_alloc (Below.refl w.heap.size w) (.cells #[.int .i64 0, .slice none 0 0, .slice none 0 0, .slice none 0 0] 51))
  go_enter Try.func33, Try.ntmps33
  go_wp2_with fail
  refine (obj_frame_calls _ l a _ (HV.out.below HB0.out) HIB.out hl ha ha0).mono ?_
  rintro e w1 ⟨rfl, hb1⟩
  have HB1 := Aside0.mk (below_step HB0.out hb1)
  have HZ1 := Aside0.mk (blk_below HZ0.out hb1)
  clear hb1
  rw [HF.out]
  go_wp2_with fail
  refine (le_Read_calls _ l (a + 16) _ (HV.out.below HB1.out) (by omega)).mono ?_
  rintro e w2 ⟨rfl, hb2, hr2⟩
  rw [if_pos (by omega)] at hr2
  obtain ⟨g, hg⟩ : ∃ g, w1.heap.size = g := ⟨_, rfl⟩
  have hgw : w.heap.size < g := by have := blk_lt HZ1.out; omega
  have HB2 := Aside0.mk (below_step HB1.out hb2)
  have HZ2 := Aside0.mk (blk_below HZ1.out hb2)
  rw [hg] at hr2 ⊢
  have HR2 := Aside0.mk hr2
  clear hb2 hr2 hg
  have HFR : Aside0 (∀ (A' : Addr) n c', (.slice A l.length c : Value) = .slice (some A') n c' → 0 < l.length → A'.block ≠ g) := ⟨fun A' n c' e hp => by have := HFAR.out A' n c' e hp; omega⟩
  go_wp2_with fail
  refine (obj_Words_calls 4 _).mono ?_
  rintro e wx ⟨rfl, rfl⟩
  rw [show wN 4 = 1 from rfl]
  go_wp2_with fail
  refine (Reader_Words_calls 1 _ g _ l (a + 16) false HR2.out (HV.out.below HB2.out) HIB.out HFR.out (by omega) (by omega) (by omega)).mono ?_
  rintro e w3 ⟨u1, rfl, hO1, hr3, hk3⟩
  have HWL : wOk false l.length (a + 16) 1 = true := by simp [wOk]; omega
  rw [HWL] at hO1 hr3
  simp only [cond_true, Bool.not_true] at hO1 hr3
  obtain ⟨A1, d1, e1⟩ := own_slice hO1
  rw [wordsAt_len] at e1
  have e1' : u1 = .slice A1 1 d1 := e1
  clear e1
  subst e1'
  have hg2 : g < w2.heap.size := blk_lt HR2.out
  have HO1 := Aside0.mk hO1
  have HB3 := Aside0.mk (Kp.from HB2.out hk3 (fun k hk => by omega))
  have HZ3 := Aside0.mk (hk3.blk HZ2.out (by omega))
  have hg3 : g < w3.heap.size := blk_lt hr3
  have HR3 := Aside0.mk (show RrV w3 g (.slice A l.length c) (a + 24) false by rwa [show a + 16 + 8 * 1 = a + 24 by omega] at hr3)
  clear HWL hO1 hr3 hk3
  go_wp2_with fail
  refine (obj_Front_calls 4 _).mono ?_
  rintro e wx ⟨rfl, rfl⟩
  rw [show (16 : Int) + 8 * wN 4 = 24 from rfl]
  have HX4 := Aside0.mk (blk_new w3 (.cells #[.int .i64 4, .slice A1 1 d1, .slice none 0 0, .slice none 0 0] 51))
  have HB4 := Aside0.mk (below_alloc HB3.out (.cells #[.int .i64 4, .slice A1 1 d1, .slice none 0 0, .slice none 0 0] 51))
  have HZ4 := Aside0.mk (blk_alloc HZ3.out (.cells #[.int .i64 4, .slice A1 1 d1, .slice none 0 0, .slice none 0 0] 51))
  have HR4 := Aside0.mk (HR3.out.below (below_alloc (Below.refl _ _) (.cells #[.int .i64 4, .slice A1 1 d1, .slice none 0 0, .slice none 0 0] 51)))
  have HO4 := Aside0.mk (HO1.out.below (below_alloc (Below.refl _ _) (.cells #[.int .i64 4, .slice A1 1 d1, .slice none 0 0, .slice none 0 0] 51)))
  obtain ⟨p, hp⟩ : ∃ p, w3.heap.size = p := ⟨_, rfl⟩
  obtain ⟨w4, hw4⟩ : ∃ w4, w3.alloc (.cells #[.int .i64 4, .slice A1 1 d1, .slice none 0 0, .slice none 0 0] 51) = w4 := ⟨_, rfl⟩
  rw [hw4] at HX4 HB4 HZ4 HR4 HO4 ⊢
  rw [hp] at HX4 hg3 ⊢
  have HP := Aside0.mk hp
  clear hp hw4
  obtain ⟨q, hq⟩ : ∃ q, S - 24 = q := ⟨_, rfl⟩
  have q0 : 0 ≤ q := by omega
  have hS1 : S ≤ q + 24 := by omega
  have hS2 : q + 24 ≤ S := by omega
  have hwq : IntKind.i64.wrap (S - 24) = q := by rw [IntKind.wrap_i64]; omega
  clear hq
  go_wp2_with fail
  obtain ⟨m, hm8⟩ : ∃ m, q / 8 = m := ⟨_, rfl⟩
  have m0 : 0 ≤ m := by omega
  have m1 : 8 * m ≤ q := by omega
  have m2 : q < 8 * m + 8 := by omega
  rw [hm8]
  have HM := Aside0.mk hm8
  clear hm8
  refine (Reader_Words_calls m _ g _ l (a + 24) false HR4.out (HV.out.below HB4.out) HIB.out HFR.out (by omega) (by omega) (by omega)).mono ?_
  rintro e w5 ⟨u2, rfl, hO2, hr5, hk5⟩
  have HWL : wOk false l.length (a + 24) m = true := by simp [wOk]; omega
  rw [HWL] at hO2
  simp only [cond_true] at hO2
  obtain ⟨A2, d2, e2⟩ := own_slice hO2
  rw [wordsAt_len] at e2
  obtain ⟨N, hN⟩ : ∃ N, m.toNat = N := ⟨_, rfl⟩
  have hNq : (N : Int) = m := by omega
  rw [hN] at e2
  subst e2
  have HN := Aside0.mk hN
  have HO2 := Aside0.mk hO2
  have HO5 := Aside0.mk (hk5.own HO4.out (fun k hk e => by have := HO4.out.ge hk; omega))
  have HB5 := Aside0.mk (Kp.from HB4.out hk5 (fun k hk => by omega))
  have HZ5 := Aside0.mk (hk5.blk HZ4.out (by omega))
  have HX5 := Aside0.mk (hk5.blk HX4.out (by omega))
  have HNQ := Aside0.mk hNq
  have hN9 : N ≤ 100000 := by omega
  clear HWL hO2 hr5 hk5 hN hNq hwq
  have x2 := blk_cell HX5.out 3
  have y2 := blk_frozen HX5.out 3
  go_wp2_with fail
  refine (le_Align_calls S _ (by omega)).mono ?_
  rintro e w6 ⟨rfl, hb6⟩
  rw [HAL.out]
  have hset := blk_set HX5.out 3 (.slice A2 N d2)
  have HX6 := Aside0.mk (show w6.heap[p]? = some (.cells #[.int .i64 4, .slice A1 1 d1, .slice none 0 0, .slice A2 N d2] 51 (0, 0)) from blk_below (by simpa using hset) hb6)
  have hpw : w.heap.size < p := by omega
  have HB6 := Aside0.mk (below_step (obelow_set HB5.out ⟨p, 3, none⟩ (by show w.heap.size ≤ p; omega) (.slice A2 N d2)) hb6)
  have HZ6 := Aside0.mk (blk_below (blk_far HZ5.out (by show w.heap.size ≠ p; omega) (.slice A2 N d2)) hb6)
  have HK6 := Aside0.mk (((Kp.set w5 ⟨p, 3, none⟩ (.slice A2 N d2)).mono (S1 := fun b => b = p ∨ b = w.heap.size) (fun k hk => .inl hk)).below hb6)
  clear hset hb6 x2 y2
  have x0 := blk_cell HX6.out 0
  have x1 := blk_cell HX6.out 1
  have x2 := blk_cell HX6.out 2
  have x3 := blk_cell HX6.out 3
  obtain ⟨i5, hi5, hz5⟩ := infoU8'
  obtain ⟨v', hcut, hrd⟩ := Rd.cut 22 5 Try.underlying22 hi5 hz5 HV.out (a + S) (a + al) (by omega) (by omega) (by omega)
  have HRD := Aside0.mk (show ∀ w1 : World, Rd w1 .u8 (.slice A l.length c) l → Rd w1 .u8 v' (odP l a S al) from hrd)
  have hrem : Int.tmod q 8 = q % 8 := Int.tmod_eq_emod_of_nonneg q0
  have HREM := Aside0.mk hrem
  clear hrd hi5 hz5 hrem
  have H0 := HZ6.out
  go_wp2_with fail
  refine (obj_Right_calls 4 A1 none A2 1 0 N d1 0 d2 _ (by omega) (by omega) (by omega)).mono ?_
  rintro e w7 ⟨rfl, hb7⟩
  have HB7 := Aside0.mk (below_step HB6.out hb7)
  have HX7 := Aside0.mk (blk_below HX6.out hb7)
  have HK7 := Aside0.mk (HK6.out.below hb7)
  have HZ7 := Aside0.mk (blk_below HZ6.out hb7)
  clear hb7 H0 x0 x1 x2 x3
  obtain ⟨b, hbq⟩ : ∃ b, oR 4 1 0 N = b := ⟨_, rfl⟩
  rw [hbq]
  have HBQ := Aside0.mk hbq
  clear hbq
  have HW1 := Aside0.mk (show odW l a 4 = wordsAt l (a + 16) (Int.toNat 1) from rfl)
  have HW2 := Aside0.mk (show odR l a 4 S = [] by rw [odR, if_neg (by decide)])
  have HW3 := Aside0.mk (show odI l a 4 S = wordsAt l (a + 24) m.toNat by rw [odI, if_neg (by decide), show a + 16 + 8 * wN 4 = a + 24 from by show a + 16 + 8 * 1 = a + 24; omega, show S - (16 + 8 * wN 4) = q from by show S - (16 + 8 * 1) = q; omega, HM.out])
  have HG := Aside0.mk (show odG l a 4 S al = (oR 4 1 0 N && decide (q % 8 = 0) && !((odP l a S al).any fun x => x != 0)) by rw [odG, HW1.out, HW2.out, HW3.out, wordsAt_len, wordsAt_len, HN.out, show decide (S % 8 = 0) = decide (q % 8 = 0) from decide_eq_decide.2 (by omega)]; simp)
  have HN1 := Aside0.mk (show ∀ b, (.slice A1 1 d1 : Value).ownBlock = some b → ¬ (b = p ∨ b = w.heap.size) from fun b hb => by have h1 := HO1.out.ge hb; have h2 := HO1.out.lt hb; have h3 := HP.out; omega)
  have HN2 := Aside0.mk (show ∀ b, (.slice A2 N d2 : Value).ownBlock = some b → ¬ (b = p ∨ b = w.heap.size) from fun b hb => by have h1 := HO2.out.ge hb; have h2 := blk_lt HX4.out; omega)
  have H0 := HZ7.out
  have r0 := blk_cell H0 0
  have r1 := blk_cell H0 1
  have r2 := blk_cell H0 2
  have r3 := blk_cell H0 3
  have f0 := blk_frozen H0 0
  have f1 := blk_frozen H0 1
  have f2 := blk_frozen H0 2
  have f3 := blk_frozen H0 3
  have x0 := blk_cell HX7.out 0
  have x1 := blk_cell HX7.out 1
  have x2 := blk_cell HX7.out 2
  have x3 := blk_cell HX7.out 3
  clear H0
  cases b with
  | false =>
    have HE := Aside0.mk (show odG l a 4 S al = false by rw [HG.out, HBQ.out]; rfl)
    go_wp2_with fail
    refine bodyPost_ret (v := .tuple #[.agg #[.int .i64 0, .slice none 0 0, .slice none 0 0, .slice none 0 0], .int .i64 0, .bool false]) (by simp [results, Try.results33, go_sem, r0, r1, r2, r3]) rfl ⟨⟨.slice A1 1 d1, .slice none 0 0, .slice A2 N d2, by rw [HE.out]; rfl, ?_, ?_, ?_⟩, below_set4 HB7.out (Nat.le_refl _) _ _ _ _⟩
    · exact rd_end HO5.out (kp_set4 HK7.out (.inr rfl) _ _ _ _) HN1.out HW1.out
    · exact Rd.nil _ _
    · exact rd_end HO2.out (kp_set4 HK7.out (.inr rfl) _ _ _ _) HN2.out HW3.out
  | true =>
    by_cases k8 : q % 8 = 0
    rotate_left
    · skip
      have HE := Aside0.mk (show odG l a 4 S al = false by rw [HG.out, HBQ.out, decide_eq_false k8]; rfl)
      have k9 : (q % 8 != 0) = true := by simpa using k8
      go_wp2_with fail
      refine bodyPost_ret (v := .tuple #[.agg #[.int .i64 0, .slice none 0 0, .slice none 0 0, .slice none 0 0], .int .i64 0, .bool false]) (by simp [results, Try.results33, go_sem, r0, r1, r2, r3]) rfl ⟨⟨.slice A1 1 d1, .slice none 0 0, .slice A2 N d2, by rw [HE.out]; rfl, ?_, ?_, ?_⟩, below_set4 HB7.out (Nat.le_refl _) _ _ _ _⟩
      · exact rd_end HO5.out (kp_set4 HK7.out (.inr rfl) _ _ _ _) HN1.out HW1.out
      · exact Rd.nil _ _
      · exact rd_end HO2.out (kp_set4 HK7.out (.inr rfl) _ _ _ _) HN2.out HW3.out
    have k9 : (q % 8 != 0) = false := by simpa using k8
    have HK8' := Aside0.mk k8
    clear k8
    go_wp2_with fail
    refine (ContainsZ_calls v' (odP l a S al) _ (HRD.out _ (HV.out.below HB7.out))).mono ?_
    rintro e w8 ⟨rfl, hb8⟩
    have HB8 := Aside0.mk (below_step HB7.out hb8)
    have HX8 := blk_below HX7.out hb8
    have HK8 := Aside0.mk (HK7.out.below hb8)
    have H0 := blk_below HZ7.out hb8
    clear hb8 r0 r1 r2 r3 f0 f1 f2 f3 x0 x1 x2 x3
    obtain ⟨pb, hpb⟩ : ∃ pb, ((odP l a S al).any fun x => x != 0) = pb := ⟨_, rfl⟩
    rw [hpb]
    have HPB := Aside0.mk hpb
    clear hpb
    have r0 := blk_cell H0 0
    have r1 := blk_cell H0 1
    have r2 := blk_cell H0 2
    have r3 := blk_cell H0 3
    have f0 := blk_frozen H0 0
    have f1 := blk_frozen H0 1
    have f2 := blk_frozen H0 2
    have f3 := blk_frozen H0 3
    have x0 := blk_cell HX8 0
    have x1 := blk_cell HX8 1
    have x2 := blk_cell HX8 2
    have x3 := blk_cell HX8 3
    clear H0 HX8
    cases pb with
    | true =>
      have HE := Aside0.mk (show odG l a 4 S al = false by rw [HG.out, HBQ.out, HPB.out, decide_eq_true HK8'.out]; rfl)
      go_wp2_with fail
      refine bodyPost_ret (v := .tuple #[.agg #[.int .i64 0, .slice none 0 0, .slice none 0 0, .slice none 0 0], .int .i64 0, .bool false]) (by simp [results, Try.results33, go_sem, r0, r1, r2, r3]) rfl ⟨⟨.slice A1 1 d1, .slice none 0 0, .slice A2 N d2, by rw [HE.out]; rfl, ?_, ?_, ?_⟩, below_set4 HB8.out (Nat.le_refl _) _ _ _ _⟩
      · exact rd_end HO5.out (kp_set4 HK8.out (.inr rfl) _ _ _ _) HN1.out HW1.out
      · exact Rd.nil _ _
      · exact rd_end HO2.out (kp_set4 HK8.out (.inr rfl) _ _ _ _) HN2.out HW3.out
    | false =>
      have HE := Aside0.mk (show odG l a 4 S al = true by rw [HG.out, HBQ.out, HPB.out, decide_eq_true HK8'.out]; rfl)
      go_wp2_with fail
      refine bodyPost_ret (v := .tuple #[.agg #[.int .i64 4, .slice A1 1 d1, .slice none 0 0, .slice A2 N d2], .int .i64 (a + al), .bool true]) (by simp [results, Try.results33, go_sem, r0, r1, r2, r3]) rfl ⟨⟨.slice A1 1 d1, .slice none 0 0, .slice A2 N d2, by rw [HE.out]; rfl, ?_, ?_, ?_⟩, below_set4 HB8.out (Nat.le_refl _) _ _ _ _⟩
      · exact rd_end HO5.out (kp_set4 HK8.out (.inr rfl) _ _ _ _) HN1.out HW1.out
      · exact Rd.nil _ _
      · exact rd_end HO2.out (kp_set4 HK8.out (.inr rfl) _ _ _ _) HN2.out HW3.out
end Go.Proofs.Ytigdchfjcfljjaa
end
section
/- ObjReads: the plain law: what was read, encoded, is what stands there. -/
namespace Go.Proofs.Ytigdchfjcfljjaa
theorem wordsAt_snoc' (l : List Int) (a : Int) (k : Nat) : wordsAt l a (k + 1) = wordsAt l a k ++ [getN l (a + 8 * (k : Int)) 8] := by simp [wordsAt, List.range_succ]
theorem leB_at (l : List Int) (hb : isB l) (p : Nat) (h : p + 8 ≤ l.length) : leB (getN l p 8) 8 = (l.drop p).take 8 := by
  have := getN_bytes l hb p 8 (fits_ok ⟨by omega, by omega, by omega, by omega⟩)
  rwa [leW8, Int.toNat_natCast] at this
theorem words8_at (l : List Int) (hb : isB l) (p : Nat) : ∀ (k : Nat), p + 8 * k ≤ l.length → words8 (wordsAt l p k) = (l.drop p).take (8 * k)
  | 0, _ => by simp [wordsAt, words8]
  | k + 1, h => by
    rw [wordsAt_snoc', words8_snoc, words8_at l hb p k (by omega), show (p : Int) + 8 * (k : Int) = ((p + 8 * k : Nat) : Int) by omega, leB_at l hb _ (by omega), show 8 * (k + 1) = 8 * k + 8 by omega, List.take_add, List.drop_drop]
theorem leB_inj {x y : Int} (hx : 0 ≤ x) (hx1 : x < 18446744073709551616) (hy : 0 ≤ y) (hy1 : y < 18446744073709551616) (h : leB x 8 = leB y 8) : x = y := by
  have a := leN_leB 8 x hx
  have b := leN_leB 8 y hy
  rw [h, b] at a
  omega
/-- Zeros, or not. -/
theorem zeros_iff : ∀ (m : List Int), m = List.replicate m.length 0 ↔ (m.any fun x => x != 0) = false
  | [] => by simp
  | x :: m => by
    have := zeros_iff m
    simp only [List.length_cons, List.replicate_succ, List.cons.injEq, List.any_cons, Bool.or_eq_false_iff, bne_eq_false_iff_eq]
    rw [this]
section
variable {l : List Int} {A : Nat} {K S : Int} {ws raw it : List Int}
theorem two_at (hb : isB l) (h16 : A + 16 ≤ l.length) (hK : getN l A 8 = K) (hS : getN l ((A : Int) + 8) 8 = S) : words8 [K, S] = (l.drop A).take 16 := by
  have h := words8_at l hb A 2 (by omega)
  have e : wordsAt l A 2 = [K, S] := by simp [wordsAt, List.range_succ, hK, hS]
  rw [e] at h
  exact h
theorem objB_at (hb : isB l) {z : Nat} (hz : (z : Int) = S) (h16 : A + 16 ≤ l.length) (hK : getN l A 8 = K) (hS : getN l ((A : Int) + 8) 8 = S) (hz2 : z = 16 + 8 * ws.length + raw.length + 8 * it.length)
    (h : words8 ws ++ raw ++ words8 it = ((l.drop A).drop 16).take (z - 16)) : objB K ws raw it = (l.drop A).take z := by
  rw [objB, show 16 + 8 * (ws.length : Int) + (raw.length : Int) + 8 * (it.length : Int) = S by omega, two_at hb h16 hK hS, List.append_assoc, List.append_assoc, ← List.append_assoc (words8 ws), h]
  rw [show z = 16 + (z - 16) by omega, List.take_add, show 16 + (z - 16) - 16 = z - 16 by omega]
/-- The padding. -/
theorem objZ_at {z p : Nat} {d : List Int} (hl : z + p ≤ d.length) (hB : objB K ws raw it = d.take z) (hp : padN (z : Int) 8 = p) :
    (objZ K ws raw it).length = z + p ∧ (objZ K ws raw it = d.take (z + p) ↔ (((d.take (z + p)).drop z).any fun x => x != 0) = false) := by
  have hn : (objB K ws raw it).length = z := by rw [hB, List.length_take]; omega
  have hq : ((d.drop z).take p).length = p := by rw [List.length_take, List.length_drop]; omega
  constructor
  · rw [objZ, List.length_append, List.length_replicate, hn, hp]
  · have e : (d.take (z + p)).drop z = (d.drop z).take p := by rw [List.drop_take, Nat.add_sub_cancel_left]
    rw [e, ← zeros_iff, hq, objZ, hn, hp, hB, List.take_add, List.append_cancel_left_eq]
    exact ⟨fun h => h.symm, fun h => h.symm⟩
/-- With another size than the one that stands there, it is not what stands there. -/
theorem objZ_ne (hb : isB l) (h16 : A + 16 ≤ l.length) (hS : getN l ((A : Int) + 8) 8 = S) (hs : (16 + 8 * (ws.length : Int) + (raw.length : Int) + 8 * (it.length : Int)) ≠ S) (hs1 : (16 + 8 * (ws.length : Int) + (raw.length : Int) + 8 * (it.length : Int)) < 18446744073709551616) {n : Nat} (hn : 16 ≤ n) :
    objZ K ws raw it ≠ (l.drop A).take n := fun e => by
  have e1 : (((objZ K ws raw it).drop 8).take 8) = ((((l.drop A).take n).drop 8).take 8) := by rw [e]
  have e2 : (((objZ K ws raw it).drop 8).take 8) = leB (16 + 8 * (ws.length : Int) + (raw.length : Int) + 8 * (it.length : Int)) 8 := by
    simp only [objZ, objB, words8, List.append_assoc, List.nil_append]
    rw [List.drop_append, List.drop_eq_nil_of_le (by rw [leB_len]; omega), List.nil_append, leB_len, Nat.sub_self, List.drop_zero, List.take_append_of_le_length (by rw [leB_len]; omega), List.take_of_length_le (by rw [leB_len]; omega)]
  have e3 : (((l.drop A).take n).drop 8).take 8 = leB S 8 := by
    rw [← hS, show (A : Int) + 8 = ((A + 8 : Nat) : Int) by omega, leB_at l hb _ (by omega), List.drop_take, List.take_take, List.drop_drop, Nat.min_eq_left (by omega)]
  rw [e2, e3] at e1
  have hSb := getN_bound l hb ((A : Int) + 8) 8
  rw [hS] at hSb
  exact hs (leB_inj (by omega) hs1 hSb.1 (by omega) e1)
end
/-- The reference's test. -/
def rdT (l : List Int) (a K S : Int) : Bool := oR K (odW l a K).length (odR l a K S).length (odI l a K S).length && decide (((objZ K (odW l a K) (odR l a K S) (odI l a K S)).length : Int) ≤ l.length - a) && decide (objZ K (odW l a K) (odR l a K S) (odI l a K S) = (l.drop a.toNat).take (objZ K (odW l a K) (odR l a K S) (odI l a K S)).length)
theorem pad_al {z : Nat} (hz : 0 < z) : alignZ (z : Int) = (z : Int) + (padN (z : Int) 8 : Int) := by
  rw [alignZ, if_neg (by omega)]; unfold padN; rw [if_pos (by omega)]; omega
theorem drop_take_rel (l : List Int) (A z p : Nat) : (l.take (A + (z + p))).drop (A + z) = ((l.drop A).take (z + p)).drop z := by
  rw [← List.drop_drop, List.drop_take, Nat.add_sub_cancel_left]
set_option maxHeartbeats 4000000 in
theorem rdT_main {l : List Int} (hb : isB l) (hl : l.length ≤ 100000) {a K S : Int} (a0 : 0 ≤ a) (a1 : a + 16 ≤ l.length) (hK : getN l a 8 = K) (hS : getN l (a + 8) 8 = S) (k0 : 1 ≤ K) (k1 : K ≤ 4) (s0 : 16 + 8 * wN K ≤ S) (s1 : S ≤ l.length - a) :
    rdT l a K S = (decide (alignZ S ≤ l.length - a) && odG l a K S (alignZ S)) ∧ (rdT l a K S = true → objZ K (odW l a K) (odR l a K S) (odI l a K S) = rawAt l a (alignZ S) ∧ ((objZ K (odW l a K) (odR l a K S) (odI l a K S)).length : Int) = alignZ S) := by
  obtain ⟨A, rfl⟩ := Int.eq_ofNat_of_zero_le a0
  obtain ⟨z, rfl⟩ := Int.eq_ofNat_of_zero_le (show 0 ≤ S by have := wN_bd K; omega)
  obtain ⟨q0, q1⟩ := wN_bd K
  obtain ⟨q, hq⟩ : ∃ q : Nat, wN K = (q : Int) := Int.eq_ofNat_of_zero_le q0
  have hal := pad_al (z := z) (by omega)
  obtain ⟨p, hp⟩ : ∃ p, padN (z : Int) 8 = p := ⟨_, rfl⟩
  rw [hp] at hal
  have hp7 : p ≤ 7 := by have := hp; unfold padN at this; rw [if_pos (by omega)] at this; omega
  have hp8 : p = 0 ↔ z % 8 = 0 := by have := hp; unfold padN at this; rw [if_pos (by omega)] at this; omega
  have hW : words8 (odW l A K) = ((l.drop A).drop 16).take (8 * q) := by
    rw [odW, hq, Int.toNat_natCast, show (A : Int) + 16 = ((A + 16 : Nat) : Int) by omega, words8_at l hb _ q (by omega), List.drop_drop]
  have hWl : (odW l A K).length = q := by rw [odW, hq, wordsAt_len, Int.toNat_natCast]
  have hsz : alignZ (z : Int) ≤ (l.length : Int) - (A : Int) ↔ z + p ≤ (l.drop A).length := by rw [hal, List.length_drop]; omega
  have hP : odP l A z (alignZ z) = ((l.drop A).take (z + p)).drop z := by
    rw [odP, hal, show ((A : Int) + ((z : Int) + (p : Int))).toNat = A + (z + p) by omega, show ((A : Int) + (z : Int)).toNat = A + z by omega, drop_take_rel]
  have hR : rawAt l A (alignZ z) = (l.drop A).take (z + p) := by
    rw [rawAt, hal, show ((A : Int) + ((z : Int) + (p : Int))).toNat = A + (z + p) by omega, Int.toNat_natCast, List.drop_take, Nat.add_sub_cancel_left]
  -- the end of both kinds
  have fin : (words8 (odW l A K) ++ odR l A K z ++ words8 (odI l A K z) = ((l.drop A).drop 16).take (z - 16)) → z = 16 + 8 * (odW l A K).length + (odR l A K z).length + 8 * (odI l A K z).length → (decide (K < 3) || decide ((z : Int) % 8 = 0)) = true →
      rdT l A K z = (decide (alignZ (z : Int) ≤ (l.length : Int) - (A : Int)) && odG l A K z (alignZ z)) ∧ (rdT l A K z = true → objZ K (odW l A K) (odR l A K z) (odI l A K z) = rawAt l A (alignZ z) ∧ ((objZ K (odW l A K) (odR l A K z) (odI l A K z)).length : Int) = alignZ (z : Int)) := by
    intro h1 h2 h3
    have hB := objB_at hb rfl (by omega) hK hS h2 h1
    have hBl : (objB K (odW l A K) (odR l A K z) (odI l A K z)).length = z := by rw [hB, List.length_take, List.length_drop]; omega
    have hZl : (objZ K (odW l A K) (odR l A K z) (odI l A K z)).length = z + p := by rw [objZ, List.length_append, List.length_replicate, hBl, hp]
    by_cases hfit : z + p ≤ (l.drop A).length
    · obtain ⟨hZ1, hZ2⟩ := objZ_at hfit hB hp
      have e1 : rdT l A K z = odG l A K z (alignZ z) := by
        rw [rdT, odG, h3, hP, hZl, Int.toNat_natCast, decide_eq_true (show (((z + p : Nat) : Int) ≤ (l.length : Int) - (A : Int)) by rw [List.length_drop] at hfit; omega)]
        simp only [Bool.and_true]
        congr 1
        cases h : (((l.drop A).take (z + p)).drop z).any fun x => x != 0
        · rw [decide_eq_true (hZ2.2 h)]; rfl
        · rw [decide_eq_false (fun e => by rw [hZ2.1 e] at h; cases h)]; rfl
      refine ⟨by rw [e1, decide_eq_true (hsz.2 hfit)]; simp, fun ht => ?_⟩
      rw [rdT, Bool.and_eq_true, hZl, Int.toNat_natCast] at ht
      exact ⟨by rw [hR]; exact of_decide_eq_true ht.2, by rw [hZl, hal]; omega⟩
    · have e1 : rdT l A K z = false := by
        rw [rdT, hZl, decide_eq_false (show ¬ (((z + p : Nat) : Int) ≤ (l.length : Int) - (A : Int)) by rw [List.length_drop] at hfit; omega)]; simp
      rw [e1, decide_eq_false (fun h => hfit (hsz.1 h))]
      exact ⟨by simp, fun h => by cases h⟩
  have hqz : 16 + 8 * q ≤ z := by omega
  have hzl : z ≤ (l.drop A).length := by rw [List.length_drop]; omega
  by_cases k3 : K < 3
  · have hr1 : odR l A K z = (((l.drop A).drop 16).drop (8 * q)).take (z - 16 - 8 * q) := by
      rw [odR, if_pos k3, hq, rawAt, show ((A : Int) + 16 + 8 * (q : Int) + ((z : Int) - (16 + 8 * (q : Int)))).toNat = A + z by omega, show ((A : Int) + 16 + 8 * (q : Int)).toNat = A + 16 + 8 * q by omega, List.drop_take, List.drop_drop, List.drop_drop, show A + 16 + 8 * q = A + (16 + 8 * q) by omega]
      congr 1
      omega
    have hi1 : odI l A K z = [] := by rw [odI, if_pos k3]
    refine fin ?_ ?_ (by rw [decide_eq_true k3]; rfl)
    · rw [hW, hr1, hi1, words8, List.append_nil, show z - 16 = 8 * q + (z - 16 - 8 * q) by omega, List.take_add]
      simp
    · rw [hWl, hi1, hr1, List.length_take, List.length_drop, List.length_drop, List.length_nil]; omega
  · have hr1 : odR l A K z = [] := by rw [odR, if_neg k3]
    obtain ⟨m, hm⟩ : ∃ m : Nat, ((z : Int) - (16 + 8 * wN K)) / 8 = (m : Int) := Int.eq_ofNat_of_zero_le (by omega)
    have hi1 : odI l A K z = wordsAt l ((A + 16 + 8 * q : Nat) : Int) m := by rw [odI, if_neg k3, hm, hq, Int.toNat_natCast]; congr 1
    have hm8 : 8 * m ≤ z - 16 - 8 * q := by omega
    have hi2 : words8 (odI l A K z) = (((l.drop A).drop 16).drop (8 * q)).take (8 * m) := by
      rw [hi1, words8_at l hb _ m (by rw [List.length_drop] at hzl; omega), List.drop_drop, List.drop_drop, Nat.add_assoc]
    by_cases hz8 : z % 8 = 0
    · refine fin ?_ ?_ (by rw [decide_eq_true (show (z : Int) % 8 = 0 by omega)]; simp)
      · rw [hW, hi2, hr1, List.append_nil, show z - 16 = 8 * q + 8 * m by omega, List.take_add]
      · rw [hWl, hr1, hi1, wordsAt_len, List.length_nil]; omega
    · have e1 : rdT l A K z = false := by
        rw [rdT, Int.toNat_natCast, decide_eq_false (objZ_ne hb (by omega) hS (by rw [hWl, hr1, hi1, wordsAt_len, List.length_nil]; omega) (by rw [hWl, hr1, hi1, wordsAt_len, List.length_nil]; omega) (by rw [objZ, List.length_append, objB_len]; omega))]
        simp
      have e2 : odG l A K z (alignZ z) = false := by
        rw [odG, decide_eq_false k3, decide_eq_false (show ¬ (z : Int) % 8 = 0 by omega)]; simp
      rw [e1, e2]
      exact ⟨by simp, fun h => by cases h⟩
end Go.Proofs.Ytigdchfjcfljjaa
end
section
/- obj.Decode, all kinds. -/
namespace Go.Proofs.Ytigdchfjcfljjaa
open Go.RowKit Go.Proofs.YtigdchfjcfljjaaW.PrintWords Go.Proofs.YtigdchfjcfljjaaW.PrintLast Go.Proofs.YtigdchfjcfljjaaW.PrintMore
/-- Does an object begin there. -/
def dG (l : List Int) (a : Int) : Bool := frOk l a && odG l a (getN l a 8) (getN l (a + 8) 8) (alignZ (getN l (a + 8) 8))
def dV (l : List Int) (a : Int) (u1 u2 u3 : Value) : Value := bif dG l a then .tuple #[.agg #[.int .i64 (getN l a 8), u1, u2, u3], .int .i64 (a + alignZ (getN l (a + 8) 8)), .bool true] else .tuple #[.agg #[.int .i64 0, .slice none 0 0, .slice none 0 0, .slice none 0 0], .int .i64 0, .bool false]
theorem alignZ_ge (S : Int) : S ≤ alignZ S := by unfold alignZ; split <;> omega
theorem obj_Decode_all (v : Value) (l : List Int) (a : Int) (w : World) (hr : Rd w .u8 v l) (hb : isB l) (hl : l.length ≤ 100000) (ha : a ≤ 100000) (ha0 : -9223372036854775808 ≤ a) : Calls Try.prog 33 #[v, .int .i64 a] w fun e w' => (∃ u1 u2 u3, e = .returned (dV l a u1 u2 u3) ∧ (dG l a = true → Rd w' .u64 u1 (odW l a (getN l a 8)) ∧ Rd w' .u8 u2 (odR l a (getN l a 8) (getN l (a + 8) 8)) ∧ Rd w' .u64 u3 (odI l a (getN l a 8) (getN l (a + 8) 8)))) ∧ Below w.heap.size w w' := by
  cases hfo : frOk l a
  · refine (obj_Decode_no v l a w hr hb hl ha ha0 hfo).mono ?_
    rintro e w1 ⟨rfl, hb1⟩
    exact ⟨⟨.slice none 0 0, .slice none 0 0, .slice none 0 0, by rw [dV, dG, hfo]; rfl, fun h => by rw [dG, hfo] at h; cases h⟩, hb1⟩
  · obtain ⟨a0, a1, a8, k0, k1, s1, s0, s2⟩ := of_decide_eq_true hfo
    have hfv : frV l a = .tuple #[.int .i64 (getN l a 8), .int .i64 (getN l (a + 8) 8), .bool true] := by rw [frV, hfo]; rfl
    have hdg : dG l a = odG l a (getN l a 8) (getN l (a + 8) 8) (alignZ (getN l (a + 8) 8)) := by rw [dG, hfo]; rfl
    have hdv : ∀ u1 u2 u3, dV l a u1 u2 u3 = bif odG l a (getN l a 8) (getN l (a + 8) 8) (alignZ (getN l (a + 8) 8)) then .tuple #[.agg #[.int .i64 (getN l a 8), u1, u2, u3], .int .i64 (a + alignZ (getN l (a + 8) 8)), .bool true] else .tuple #[.agg #[.int .i64 0, .slice none 0 0, .slice none 0 0, .slice none 0 0], .int .i64 0, .bool false] := fun u1 u2 u3 => by rw [dV, hdg]
    clear hfo
    obtain ⟨K, hK⟩ : ∃ x, getN l a 8 = x := ⟨_, rfl⟩
    obtain ⟨S, hS⟩ : ∃ x, getN l (a + 8) 8 = x := ⟨_, rfl⟩
    simp only [hK, hS] at *
    have hal := alignZ_ge S
    have hk : K = 1 ∨ K = 2 ∨ K = 3 ∨ K = 4 := by omega
    have w1 : wN 1 = 5 := rfl
    have w2 : wN 2 = 3 := rfl
    have w3 : wN 3 = 5 := rfl
    have w4 : wN 4 = 1 := rfl
    rcases hk with rfl | rfl | rfl | rfl
    · refine (obj_Decode_1 v l a w hr hb hl ha ha0 S (alignZ S) hfv rfl a0 (by omega) hal (by omega)).mono ?_
      rintro e w1 ⟨⟨u1, u2, u3, rfl, r1, r2, r3⟩, hb1⟩
      exact ⟨⟨u1, u2, u3, by rw [hdv], fun _ => ⟨r1, r2, r3⟩⟩, hb1⟩
    · refine (obj_Decode_2 v l a w hr hb hl ha ha0 S (alignZ S) hfv rfl a0 (by omega) hal (by omega)).mono ?_
      rintro e w1 ⟨⟨u1, u2, u3, rfl, r1, r2, r3⟩, hb1⟩
      exact ⟨⟨u1, u2, u3, by rw [hdv], fun _ => ⟨r1, r2, r3⟩⟩, hb1⟩
    · refine (obj_Decode_3 v l a w hr hb hl ha ha0 S (alignZ S) hfv rfl a0 (by omega) hal (by omega)).mono ?_
      rintro e w1 ⟨⟨u1, u2, u3, rfl, r1, r2, r3⟩, hb1⟩
      exact ⟨⟨u1, u2, u3, by rw [hdv], fun _ => ⟨r1, r2, r3⟩⟩, hb1⟩
    · refine (obj_Decode_4 v l a w hr hb hl ha ha0 S (alignZ S) hfv rfl a0 (by omega) hal (by omega)).mono ?_
      rintro e w1 ⟨⟨u1, u2, u3, rfl, r1, r2, r3⟩, hb1⟩
      exact ⟨⟨u1, u2, u3, by rw [hdv], fun _ => ⟨r1, r2, r3⟩⟩, hb1⟩
end Go.Proofs.Ytigdchfjcfljjaa
end
