/- Two objects told the same: the slices' Equal, obj.Same, the reference's Same. -/
import Derived.Test.YtigdchfjcfljjaaObjO
namespace Go.Proofs.Ytigdchfjcfljjaa
open Go.RowKit Go.Proofs.YtigdchfjcfljjaaW.PrintWords Go.Proofs.YtigdchfjcfljjaaW.PrintLast Go.Proofs.YtigdchfjcfljjaaW.PrintMore
attribute [local go_sem] max2_int min2_int max_two min_two max_three min_three max_four min_four   -- for this text's walks alone
set_option linter.unusedVariables false
set_option linter.unusedSimpArgs false


set_option maxHeartbeats 8000000 in
set_option maxRecDepth 100000 in
theorem EqW_calls (v0 v1 : Value) (l0 l1 : List Int) (w : World) (hr0 : Rd w .u64 v0 l0) (hr1 : Rd w .u64 v1 l1) :
    Calls Try.prog 110 #[v0, v1] w fun e w' => e = .returned (.bool (decide (l0 = l1))) ∧ Below w.heap.size w w' := by
  obtain ⟨A0, c0, rfl, hc0, hm0, hr0⟩ := hr0.mid
  obtain ⟨A1, c1, rfl, hc1, hm1, hr1⟩ := hr1.mid
  have HR0 := Aside0.mk hr0
  have HR1 := Aside0.mk hr1
  clear hr0 hr1
  by_cases e1 : l0.length = l1.length
  · have HE := Aside0.mk e1
    obtain ⟨n, hn⟩ : ∃ n, l0.length = n := ⟨_, rfl⟩
    have hn1 : l1.length = n := by omega
    rw [hn] at HR0 hc0 hm0
    rw [hn1] at HR1 hc1 hm1
    rw [hn, hn1]
    have HN := Aside0.mk hn
    have HN1 := Aside0.mk hn1
    clear hn hn1 e1
    go_enter Try.func110, Try.ntmps110
    go_wp2_with fail
    go_loopw [5, 13] (fun v5 v13 w' => ∃ i : Nat, i ≤ n ∧ v13 = .int .i64 i ∧ Aside0 (l0.take i = l1.take i) ∧ Aside0 (Below w.heap.size w w')) (fun _ v13 _ => n - (intOf v13).toNat)
    case atStart => exact ⟨0, by omega, rfl, ⟨by simp⟩, ⟨Below.refl _ _⟩⟩
    case round =>
      obtain ⟨i, hi, rfl, HT, HB⟩ := hrel
      by_cases c3 : i < n
      · obtain ⟨a0, ea0, hcell0⟩ := rd_at (HR0.out.below HB.out) i c3
        obtain ⟨a1, ea1, hcell1⟩ := rd_at (HR1.out.below HB.out) i c3
        obtain ⟨x, hx⟩ : ∃ x, l0.getD i 0 = x := ⟨_, rfl⟩
        obtain ⟨y, hy⟩ : ∃ y, l1.getD i 0 = y := ⟨_, rfl⟩
        rw [hx] at hcell0
        rw [hy] at hcell1
        have HX := Aside0.mk hx
        have HY := Aside0.mk hy
        clear hx hy
        cases ea0
        cases ea1
        by_cases exy : x = y
        · have HT1 := Aside0.mk (show l0.take (i + 1) = l1.take (i + 1) by rw [take_snoc (by rw [HN.out]; exact c3), take_snoc (by rw [HN1.out]; exact c3), HT.out, HX.out, HY.out, exy])
          subst exy
          go_wp2_with fail
          go_quiet (fail)
          go_wp2_with fail
          go_roundw
          case rel => exact ⟨i + 1, by omega, by go_num, HT1, ⟨pw_below_drewN HB.out _⟩⟩
          case measure => simp [intOf]; omega
        · have hxy : (x != y) = true := by simpa using exy
          have HD := Aside0.mk (show decide (l0 = l1) = false from decide_eq_false (fun e => exy (by rw [← HX.out, ← HY.out, e])))
          go_wp2_with fail
          go_quiet (fail)
          go_wp2_with fail
          go_ret
          exact ⟨by rw [HD.out]; rfl, pw_below_drewN HB.out _⟩
      · have HI := Aside0.mk (show i = n by omega)
        have HD := Aside0.mk (show decide (l0 = l1) = true from decide_eq_true (take_eq_all HE.out (by rw [HN.out, ← HI.out]; exact HT.out)))
        go_wp2_with fail
        go_ret
        exact ⟨by rw [HD.out]; rfl, HB.out⟩
  · have HD := Aside0.mk (show decide (l0 = l1) = false from decide_eq_false (fun e => e1 (by rw [e])))
    have hne : ((l0.length : Int) != (l1.length : Int)) = true := by simp; omega
    clear e1
    go_enter Try.func110, Try.ntmps110
    go_wp2_with fail
    go_ret
    exact ⟨by rw [HD.out]; rfl, Below.refl _ _⟩
set_option maxHeartbeats 8000000 in
set_option maxRecDepth 100000 in
theorem EqB_calls (v0 v1 : Value) (l0 l1 : List Int) (w : World) (hr0 : Rd w .u8 v0 l0) (hr1 : Rd w .u8 v1 l1) :
    Calls Try.prog 111 #[v0, v1] w fun e w' => e = .returned (.bool (decide (l0 = l1))) ∧ Below w.heap.size w w' := by
  obtain ⟨A0, c0, rfl, hc0, hm0, hr0⟩ := hr0.mid
  obtain ⟨A1, c1, rfl, hc1, hm1, hr1⟩ := hr1.mid
  have HR0 := Aside0.mk hr0
  have HR1 := Aside0.mk hr1
  clear hr0 hr1
  by_cases e1 : l0.length = l1.length
  · have HE := Aside0.mk e1
    obtain ⟨n, hn⟩ : ∃ n, l0.length = n := ⟨_, rfl⟩
    have hn1 : l1.length = n := by omega
    rw [hn] at HR0 hc0 hm0
    rw [hn1] at HR1 hc1 hm1
    rw [hn, hn1]
    have HN := Aside0.mk hn
    have HN1 := Aside0.mk hn1
    clear hn hn1 e1
    go_enter Try.func111, Try.ntmps111
    go_wp2_with fail
    go_loopw [5, 13] (fun v5 v13 w' => ∃ i : Nat, i ≤ n ∧ v13 = .int .i64 i ∧ Aside0 (l0.take i = l1.take i) ∧ Aside0 (Below w.heap.size w w')) (fun _ v13 _ => n - (intOf v13).toNat)
    case atStart => exact ⟨0, by omega, rfl, ⟨by simp⟩, ⟨Below.refl _ _⟩⟩
    case round =>
      obtain ⟨i, hi, rfl, HT, HB⟩ := hrel
      by_cases c3 : i < n
      · obtain ⟨a0, ea0, hcell0⟩ := rd_at (HR0.out.below HB.out) i c3
        obtain ⟨a1, ea1, hcell1⟩ := rd_at (HR1.out.below HB.out) i c3
        obtain ⟨x, hx⟩ : ∃ x, l0.getD i 0 = x := ⟨_, rfl⟩
        obtain ⟨y, hy⟩ : ∃ y, l1.getD i 0 = y := ⟨_, rfl⟩
        rw [hx] at hcell0
        rw [hy] at hcell1
        have HX := Aside0.mk hx
        have HY := Aside0.mk hy
        clear hx hy
        cases ea0
        cases ea1
        by_cases exy : x = y
        · have HT1 := Aside0.mk (show l0.take (i + 1) = l1.take (i + 1) by rw [take_snoc (by rw [HN.out]; exact c3), take_snoc (by rw [HN1.out]; exact c3), HT.out, HX.out, HY.out, exy])
          subst exy
          go_wp2_with fail
          go_quiet (fail)
          go_wp2_with fail
          go_roundw
          case rel => exact ⟨i + 1, by omega, by go_num, HT1, ⟨pw_below_drewN HB.out _⟩⟩
          case measure => simp [intOf]; omega
        · have hxy : (x != y) = true := by simpa using exy
          have HD := Aside0.mk (show decide (l0 = l1) = false from decide_eq_false (fun e => exy (by rw [← HX.out, ← HY.out, e])))
          go_wp2_with fail
          go_quiet (fail)
          go_wp2_with fail
          go_ret
          exact ⟨by rw [HD.out]; rfl, pw_below_drewN HB.out _⟩
      · have HI := Aside0.mk (show i = n by omega)
        have HD := Aside0.mk (show decide (l0 = l1) = true from decide_eq_true (take_eq_all HE.out (by rw [HN.out, ← HI.out]; exact HT.out)))
        go_wp2_with fail
        go_ret
        exact ⟨by rw [HD.out]; rfl, HB.out⟩
  · have HD := Aside0.mk (show decide (l0 = l1) = false from decide_eq_false (fun e => e1 (by rw [e])))
    have hne : ((l0.length : Int) != (l1.length : Int)) = true := by simp; omega
    clear e1
    go_enter Try.func111, Try.ntmps111
    go_wp2_with fail
    go_ret
    exact ⟨by rw [HD.out]; rfl, Below.refl _ _⟩

def sameO (k k' : Int) (ws raw it ws' raw' it' : List Int) : Bool := decide (k = k' ∧ ws = ws' ∧ raw = raw' ∧ it = it')
theorem sameO_yes (k : Int) {ws raw it ws' raw' it' : List Int} (e1 : ws = ws') (e2 : raw = raw') (e3 : it = it') : sameO k k ws raw it ws' raw' it' = true := decide_eq_true ⟨rfl, e1, e2, e3⟩
theorem sameO_no0 {k k' : Int} (ws raw it ws' raw' it' : List Int) (e : ¬ k = k') : sameO k k' ws raw it ws' raw' it' = false := decide_eq_false (fun h => e h.1)
theorem sameO_no1 (k k' : Int) {ws ws' : List Int} (raw it raw' it' : List Int) (e : ¬ ws = ws') : sameO k k' ws raw it ws' raw' it' = false := decide_eq_false (fun h => e h.2.1)
theorem sameO_no2 (k k' : Int) {raw raw' : List Int} (ws it ws' it' : List Int) (e : ¬ raw = raw') : sameO k k' ws raw it ws' raw' it' = false := decide_eq_false (fun h => e h.2.2.1)
theorem sameO_no3 (k k' : Int) {it it' : List Int} (ws raw ws' raw' : List Int) (e : ¬ it = it') : sameO k k' ws raw it ws' raw' it' = false := decide_eq_false (fun h => e h.2.2.2)
set_option maxHeartbeats 8000000 in
set_option maxRecDepth 100000 in
theorem obj_Same_calls (k k' : Int) (ws raw it ws' raw' it' : List Int) (A1 A2 A3 B1 B2 B3 : Option Addr) (c1 c2 c3 d1 d2 d3 : Nat) (w : World) (h1 : Rd w .u64 (.slice A1 ws.length c1) ws) (h2 : Rd w .u8 (.slice A2 raw.length c2) raw) (h3 : Rd w .u64 (.slice A3 it.length c3) it)
    (h4 : Rd w .u64 (.slice B1 ws'.length d1) ws') (h5 : Rd w .u8 (.slice B2 raw'.length d2) raw') (h6 : Rd w .u64 (.slice B3 it'.length d3) it') (w2 : isB raw) (w5 : isB raw') :
    Calls Try.prog 34 #[.agg #[.int .i64 k, .slice A1 ws.length c1, .slice A2 raw.length c2, .slice A3 it.length c3], .agg #[.int .i64 k', .slice B1 ws'.length d1, .slice B2 raw'.length d2, .slice B3 it'.length d3]] w fun e w' => e = .returned (.bool (sameO k k' ws raw it ws' raw' it')) ∧ Below w.heap.size w w' := by
  have HR1 := Aside0.mk h1
  have HR2 := Aside0.mk h2
  have HR3 := Aside0.mk h3
  have HR4 := Aside0.mk h4
  have HR5 := Aside0.mk h5
  have HR6 := Aside0.mk h6
  have W2 := Aside0.mk w2
  have W5 := Aside0.mk w5
  have HX0 := Aside0.mk (blk_below (blk_new w (.cells #[.int .i64 k, .slice A1 ws.length c1, .slice A2 raw.length c2, .slice A3 it.length c3] 51)) (below_alloc (Below.refl _ _) (.cells #[.int .i64 k', .slice B1 ws'.length d1, .slice B2 raw'.length d2, .slice B3 it'.length d3] 51)))
  have HX1 := Aside0.mk (blk_new (w.alloc (.cells #[.int .i64 k, .slice A1 ws.length c1, .slice A2 raw.length c2, .slice A3 it.length c3] 51)) (.cells #[.int .i64 k', .slice B1 ws'.length d1, .slice B2 raw'.length d2, .slice B3 it'.length d3] 51))
  rw [show (w.alloc (.cells #[.int .i64 k, .slice A1 ws.length c1, .slice A2 raw.length c2, .slice A3 it.length c3] 51)).heap.size = w.heap.size + 1 from Array.size_push _] at HX1
  have HB0 := Aside0.mk (below_alloc (below_alloc (Below.refl w.heap.size w) (.cells #[.int .i64 k, .slice A1 ws.length c1, .slice A2 raw.length c2, .slice A3 it.length c3] 51)) (.cells #[.int .i64 k', .slice B1 ws'.length d1, .slice B2 raw'.length d2, .slice B3 it'.length d3] 51))
  clear h1 h2 h3 h4 h5 h6 w2 w5
  by_cases e0 : k = k'
  · subst e0
    by_cases e1 : ws = ws'
    · have D1 := Aside0.mk (decide_eq_true e1)
      by_cases e2 : raw = raw'
      · have D2 := Aside0.mk (decide_eq_true e2)
        by_cases e3 : it = it'
        · have D3 := Aside0.mk (decide_eq_true e3)
          have HE := Aside0.mk (sameO_yes k e1 e2 e3)
          have hkk : (k == k) = true := by simp
          clear e1 e2 e3
          have z0 : ((w.alloc (.cells #[.int .i64 k, .slice A1 ws.length c1, .slice A2 raw.length c2, .slice A3 it.length c3] 51)).alloc (.cells #[.int .i64 k, .slice B1 ws'.length d1, .slice B2 raw'.length d2, .slice B3 it'.length d3] 51)).cell? ⟨w.heap.size, 0, none⟩ = some (.int .i64 k) := blk_cell HX0.out 0
          have z1 : ((w.alloc (.cells #[.int .i64 k, .slice A1 ws.length c1, .slice A2 raw.length c2, .slice A3 it.length c3] 51)).alloc (.cells #[.int .i64 k, .slice B1 ws'.length d1, .slice B2 raw'.length d2, .slice B3 it'.length d3] 51)).cell? ⟨w.heap.size, 1, none⟩ = some (.slice A1 ws.length c1) := blk_cell HX0.out 1
          have z2 : ((w.alloc (.cells #[.int .i64 k, .slice A1 ws.length c1, .slice A2 raw.length c2, .slice A3 it.length c3] 51)).alloc (.cells #[.int .i64 k, .slice B1 ws'.length d1, .slice B2 raw'.length d2, .slice B3 it'.length d3] 51)).cell? ⟨w.heap.size, 2, none⟩ = some (.slice A2 raw.length c2) := blk_cell HX0.out 2
          have z3 : ((w.alloc (.cells #[.int .i64 k, .slice A1 ws.length c1, .slice A2 raw.length c2, .slice A3 it.length c3] 51)).alloc (.cells #[.int .i64 k, .slice B1 ws'.length d1, .slice B2 raw'.length d2, .slice B3 it'.length d3] 51)).cell? ⟨w.heap.size, 3, none⟩ = some (.slice A3 it.length c3) := blk_cell HX0.out 3
          have y0 : ((w.alloc (.cells #[.int .i64 k, .slice A1 ws.length c1, .slice A2 raw.length c2, .slice A3 it.length c3] 51)).alloc (.cells #[.int .i64 k, .slice B1 ws'.length d1, .slice B2 raw'.length d2, .slice B3 it'.length d3] 51)).cell? ⟨w.heap.size + 1, 0, none⟩ = some (.int .i64 k) := blk_cell HX1.out 0
          have y1 : ((w.alloc (.cells #[.int .i64 k, .slice A1 ws.length c1, .slice A2 raw.length c2, .slice A3 it.length c3] 51)).alloc (.cells #[.int .i64 k, .slice B1 ws'.length d1, .slice B2 raw'.length d2, .slice B3 it'.length d3] 51)).cell? ⟨w.heap.size + 1, 1, none⟩ = some (.slice B1 ws'.length d1) := blk_cell HX1.out 1
          have y2 : ((w.alloc (.cells #[.int .i64 k, .slice A1 ws.length c1, .slice A2 raw.length c2, .slice A3 it.length c3] 51)).alloc (.cells #[.int .i64 k, .slice B1 ws'.length d1, .slice B2 raw'.length d2, .slice B3 it'.length d3] 51)).cell? ⟨w.heap.size + 1, 2, none⟩ = some (.slice B2 raw'.length d2) := blk_cell HX1.out 2
          have y3 : ((w.alloc (.cells #[.int .i64 k, .slice A1 ws.length c1, .slice A2 raw.length c2, .slice A3 it.length c3] 51)).alloc (.cells #[.int .i64 k, .slice B1 ws'.length d1, .slice B2 raw'.length d2, .slice B3 it'.length d3] 51)).cell? ⟨w.heap.size + 1, 3, none⟩ = some (.slice B3 it'.length d3) := blk_cell HX1.out 3
          go_enter Try.func34, Try.ntmps34
          go_wp2_with fail
          refine (EqW_calls (.slice A1 ws.length c1) (.slice B1 ws'.length d1) ws ws' _ (HR1.out.below HB0.out) (HR4.out.below HB0.out)).mono ?_
          rintro e w1 ⟨rfl, hb⟩
          have HB1 := Aside0.mk (below_step HB0.out hb)
          have HX01 := Aside0.mk (blk_below HX0.out hb)
          have HX11 := Aside0.mk (blk_below HX1.out hb)
          clear hb z0 z1 z2 z3 y0 y1 y2 y3
          rw [D1.out]
          have z0 : (w1).cell? ⟨w.heap.size, 0, none⟩ = some (.int .i64 k) := blk_cell HX01.out 0
          have z1 : (w1).cell? ⟨w.heap.size, 1, none⟩ = some (.slice A1 ws.length c1) := blk_cell HX01.out 1
          have z2 : (w1).cell? ⟨w.heap.size, 2, none⟩ = some (.slice A2 raw.length c2) := blk_cell HX01.out 2
          have z3 : (w1).cell? ⟨w.heap.size, 3, none⟩ = some (.slice A3 it.length c3) := blk_cell HX01.out 3
          have y0 : (w1).cell? ⟨w.heap.size + 1, 0, none⟩ = some (.int .i64 k) := blk_cell HX11.out 0
          have y1 : (w1).cell? ⟨w.heap.size + 1, 1, none⟩ = some (.slice B1 ws'.length d1) := blk_cell HX11.out 1
          have y2 : (w1).cell? ⟨w.heap.size + 1, 2, none⟩ = some (.slice B2 raw'.length d2) := blk_cell HX11.out 2
          have y3 : (w1).cell? ⟨w.heap.size + 1, 3, none⟩ = some (.slice B3 it'.length d3) := blk_cell HX11.out 3
          go_wp2_with fail
          refine (EqB_calls (.slice A2 raw.length c2) (.slice B2 raw'.length d2) raw raw' _ (HR2.out.below HB1.out) (HR5.out.below HB1.out)).mono ?_
          rintro e w2 ⟨rfl, hb⟩
          have HB2 := Aside0.mk (below_step HB1.out hb)
          have HX02 := Aside0.mk (blk_below HX01.out hb)
          have HX12 := Aside0.mk (blk_below HX11.out hb)
          clear hb z0 z1 z2 z3 y0 y1 y2 y3
          rw [D2.out]
          have z0 : (w2).cell? ⟨w.heap.size, 0, none⟩ = some (.int .i64 k) := blk_cell HX02.out 0
          have z1 : (w2).cell? ⟨w.heap.size, 1, none⟩ = some (.slice A1 ws.length c1) := blk_cell HX02.out 1
          have z2 : (w2).cell? ⟨w.heap.size, 2, none⟩ = some (.slice A2 raw.length c2) := blk_cell HX02.out 2
          have z3 : (w2).cell? ⟨w.heap.size, 3, none⟩ = some (.slice A3 it.length c3) := blk_cell HX02.out 3
          have y0 : (w2).cell? ⟨w.heap.size + 1, 0, none⟩ = some (.int .i64 k) := blk_cell HX12.out 0
          have y1 : (w2).cell? ⟨w.heap.size + 1, 1, none⟩ = some (.slice B1 ws'.length d1) := blk_cell HX12.out 1
          have y2 : (w2).cell? ⟨w.heap.size + 1, 2, none⟩ = some (.slice B2 raw'.length d2) := blk_cell HX12.out 2
          have y3 : (w2).cell? ⟨w.heap.size + 1, 3, none⟩ = some (.slice B3 it'.length d3) := blk_cell HX12.out 3
          go_wp2_with fail
          refine (EqW_calls (.slice A3 it.length c3) (.slice B3 it'.length d3) it it' _ (HR3.out.below HB2.out) (HR6.out.below HB2.out)).mono ?_
          rintro e w3 ⟨rfl, hb⟩
          have HB3 := Aside0.mk (below_step HB2.out hb)
          have HX03 := Aside0.mk (blk_below HX02.out hb)
          have HX13 := Aside0.mk (blk_below HX12.out hb)
          clear hb z0 z1 z2 z3 y0 y1 y2 y3
          rw [D3.out]
          have z0 : (w3).cell? ⟨w.heap.size, 0, none⟩ = some (.int .i64 k) := blk_cell HX03.out 0
          have z1 : (w3).cell? ⟨w.heap.size, 1, none⟩ = some (.slice A1 ws.length c1) := blk_cell HX03.out 1
          have z2 : (w3).cell? ⟨w.heap.size, 2, none⟩ = some (.slice A2 raw.length c2) := blk_cell HX03.out 2
          have z3 : (w3).cell? ⟨w.heap.size, 3, none⟩ = some (.slice A3 it.length c3) := blk_cell HX03.out 3
          have y0 : (w3).cell? ⟨w.heap.size + 1, 0, none⟩ = some (.int .i64 k) := blk_cell HX13.out 0
          have y1 : (w3).cell? ⟨w.heap.size + 1, 1, none⟩ = some (.slice B1 ws'.length d1) := blk_cell HX13.out 1
          have y2 : (w3).cell? ⟨w.heap.size + 1, 2, none⟩ = some (.slice B2 raw'.length d2) := blk_cell HX13.out 2
          have y3 : (w3).cell? ⟨w.heap.size + 1, 3, none⟩ = some (.slice B3 it'.length d3) := blk_cell HX13.out 3
          go_wp2_with fail
          go_ret
          exact ⟨by rw [HE.out]; rfl, HB3.out⟩
        · have D3 := Aside0.mk (decide_eq_false e3)
          have HE := Aside0.mk (sameO_no3 k k ws raw ws' raw' e3)
          have hkk : (k == k) = true := by simp
          clear e1 e2 e3
          have z0 : ((w.alloc (.cells #[.int .i64 k, .slice A1 ws.length c1, .slice A2 raw.length c2, .slice A3 it.length c3] 51)).alloc (.cells #[.int .i64 k, .slice B1 ws'.length d1, .slice B2 raw'.length d2, .slice B3 it'.length d3] 51)).cell? ⟨w.heap.size, 0, none⟩ = some (.int .i64 k) := blk_cell HX0.out 0
          have z1 : ((w.alloc (.cells #[.int .i64 k, .slice A1 ws.length c1, .slice A2 raw.length c2, .slice A3 it.length c3] 51)).alloc (.cells #[.int .i64 k, .slice B1 ws'.length d1, .slice B2 raw'.length d2, .slice B3 it'.length d3] 51)).cell? ⟨w.heap.size, 1, none⟩ = some (.slice A1 ws.length c1) := blk_cell HX0.out 1
          have z2 : ((w.alloc (.cells #[.int .i64 k, .slice A1 ws.length c1, .slice A2 raw.length c2, .slice A3 it.length c3] 51)).alloc (.cells #[.int .i64 k, .slice B1 ws'.length d1, .slice B2 raw'.length d2, .slice B3 it'.length d3] 51)).cell? ⟨w.heap.size, 2, none⟩ = some (.slice A2 raw.length c2) := blk_cell HX0.out 2
          have z3 : ((w.alloc (.cells #[.int .i64 k, .slice A1 ws.length c1, .slice A2 raw.length c2, .slice A3 it.length c3] 51)).alloc (.cells #[.int .i64 k, .slice B1 ws'.length d1, .slice B2 raw'.length d2, .slice B3 it'.length d3] 51)).cell? ⟨w.heap.size, 3, none⟩ = some (.slice A3 it.length c3) := blk_cell HX0.out 3
          have y0 : ((w.alloc (.cells #[.int .i64 k, .slice A1 ws.length c1, .slice A2 raw.length c2, .slice A3 it.length c3] 51)).alloc (.cells #[.int .i64 k, .slice B1 ws'.length d1, .slice B2 raw'.length d2, .slice B3 it'.length d3] 51)).cell? ⟨w.heap.size + 1, 0, none⟩ = some (.int .i64 k) := blk_cell HX1.out 0
          have y1 : ((w.alloc (.cells #[.int .i64 k, .slice A1 ws.length c1, .slice A2 raw.length c2, .slice A3 it.length c3] 51)).alloc (.cells #[.int .i64 k, .slice B1 ws'.length d1, .slice B2 raw'.length d2, .slice B3 it'.length d3] 51)).cell? ⟨w.heap.size + 1, 1, none⟩ = some (.slice B1 ws'.length d1) := blk_cell HX1.out 1
          have y2 : ((w.alloc (.cells #[.int .i64 k, .slice A1 ws.length c1, .slice A2 raw.length c2, .slice A3 it.length c3] 51)).alloc (.cells #[.int .i64 k, .slice B1 ws'.length d1, .slice B2 raw'.length d2, .slice B3 it'.length d3] 51)).cell? ⟨w.heap.size + 1, 2, none⟩ = some (.slice B2 raw'.length d2) := blk_cell HX1.out 2
          have y3 : ((w.alloc (.cells #[.int .i64 k, .slice A1 ws.length c1, .slice A2 raw.length c2, .slice A3 it.length c3] 51)).alloc (.cells #[.int .i64 k, .slice B1 ws'.length d1, .slice B2 raw'.length d2, .slice B3 it'.length d3] 51)).cell? ⟨w.heap.size + 1, 3, none⟩ = some (.slice B3 it'.length d3) := blk_cell HX1.out 3
          go_enter Try.func34, Try.ntmps34
          go_wp2_with fail
          refine (EqW_calls (.slice A1 ws.length c1) (.slice B1 ws'.length d1) ws ws' _ (HR1.out.below HB0.out) (HR4.out.below HB0.out)).mono ?_
          rintro e w1 ⟨rfl, hb⟩
          have HB1 := Aside0.mk (below_step HB0.out hb)
          have HX01 := Aside0.mk (blk_below HX0.out hb)
          have HX11 := Aside0.mk (blk_below HX1.out hb)
          clear hb z0 z1 z2 z3 y0 y1 y2 y3
          rw [D1.out]
          have z0 : (w1).cell? ⟨w.heap.size, 0, none⟩ = some (.int .i64 k) := blk_cell HX01.out 0
          have z1 : (w1).cell? ⟨w.heap.size, 1, none⟩ = some (.slice A1 ws.length c1) := blk_cell HX01.out 1
          have z2 : (w1).cell? ⟨w.heap.size, 2, none⟩ = some (.slice A2 raw.length c2) := blk_cell HX01.out 2
          have z3 : (w1).cell? ⟨w.heap.size, 3, none⟩ = some (.slice A3 it.length c3) := blk_cell HX01.out 3
          have y0 : (w1).cell? ⟨w.heap.size + 1, 0, none⟩ = some (.int .i64 k) := blk_cell HX11.out 0
          have y1 : (w1).cell? ⟨w.heap.size + 1, 1, none⟩ = some (.slice B1 ws'.length d1) := blk_cell HX11.out 1
          have y2 : (w1).cell? ⟨w.heap.size + 1, 2, none⟩ = some (.slice B2 raw'.length d2) := blk_cell HX11.out 2
          have y3 : (w1).cell? ⟨w.heap.size + 1, 3, none⟩ = some (.slice B3 it'.length d3) := blk_cell HX11.out 3
          go_wp2_with fail
          refine (EqB_calls (.slice A2 raw.length c2) (.slice B2 raw'.length d2) raw raw' _ (HR2.out.below HB1.out) (HR5.out.below HB1.out)).mono ?_
          rintro e w2 ⟨rfl, hb⟩
          have HB2 := Aside0.mk (below_step HB1.out hb)
          have HX02 := Aside0.mk (blk_below HX01.out hb)
          have HX12 := Aside0.mk (blk_below HX11.out hb)
          clear hb z0 z1 z2 z3 y0 y1 y2 y3
          rw [D2.out]
          have z0 : (w2).cell? ⟨w.heap.size, 0, none⟩ = some (.int .i64 k) := blk_cell HX02.out 0
          have z1 : (w2).cell? ⟨w.heap.size, 1, none⟩ = some (.slice A1 ws.length c1) := blk_cell HX02.out 1
          have z2 : (w2).cell? ⟨w.heap.size, 2, none⟩ = some (.slice A2 raw.length c2) := blk_cell HX02.out 2
          have z3 : (w2).cell? ⟨w.heap.size, 3, none⟩ = some (.slice A3 it.length c3) := blk_cell HX02.out 3
          have y0 : (w2).cell? ⟨w.heap.size + 1, 0, none⟩ = some (.int .i64 k) := blk_cell HX12.out 0
          have y1 : (w2).cell? ⟨w.heap.size + 1, 1, none⟩ = some (.slice B1 ws'.length d1) := blk_cell HX12.out 1
          have y2 : (w2).cell? ⟨w.heap.size + 1, 2, none⟩ = some (.slice B2 raw'.length d2) := blk_cell HX12.out 2
          have y3 : (w2).cell? ⟨w.heap.size + 1, 3, none⟩ = some (.slice B3 it'.length d3) := blk_cell HX12.out 3
          go_wp2_with fail
          refine (EqW_calls (.slice A3 it.length c3) (.slice B3 it'.length d3) it it' _ (HR3.out.below HB2.out) (HR6.out.below HB2.out)).mono ?_
          rintro e w3 ⟨rfl, hb⟩
          have HB3 := Aside0.mk (below_step HB2.out hb)
          have HX03 := Aside0.mk (blk_below HX02.out hb)
          have HX13 := Aside0.mk (blk_below HX12.out hb)
          clear hb z0 z1 z2 z3 y0 y1 y2 y3
          rw [D3.out]
          have z0 : (w3).cell? ⟨w.heap.size, 0, none⟩ = some (.int .i64 k) := blk_cell HX03.out 0
          have z1 : (w3).cell? ⟨w.heap.size, 1, none⟩ = some (.slice A1 ws.length c1) := blk_cell HX03.out 1
          have z2 : (w3).cell? ⟨w.heap.size, 2, none⟩ = some (.slice A2 raw.length c2) := blk_cell HX03.out 2
          have z3 : (w3).cell? ⟨w.heap.size, 3, none⟩ = some (.slice A3 it.length c3) := blk_cell HX03.out 3
          have y0 : (w3).cell? ⟨w.heap.size + 1, 0, none⟩ = some (.int .i64 k) := blk_cell HX13.out 0
          have y1 : (w3).cell? ⟨w.heap.size + 1, 1, none⟩ = some (.slice B1 ws'.length d1) := blk_cell HX13.out 1
          have y2 : (w3).cell? ⟨w.heap.size + 1, 2, none⟩ = some (.slice B2 raw'.length d2) := blk_cell HX13.out 2
          have y3 : (w3).cell? ⟨w.heap.size + 1, 3, none⟩ = some (.slice B3 it'.length d3) := blk_cell HX13.out 3
          go_wp2_with fail
          go_ret
          exact ⟨by rw [HE.out]; rfl, HB3.out⟩
      · have D2 := Aside0.mk (decide_eq_false e2)
        have HE := Aside0.mk (sameO_no2 k k ws it ws' it' e2)
        have hkk : (k == k) = true := by simp
        clear e1 e2
        have z0 : ((w.alloc (.cells #[.int .i64 k, .slice A1 ws.length c1, .slice A2 raw.length c2, .slice A3 it.length c3] 51)).alloc (.cells #[.int .i64 k, .slice B1 ws'.length d1, .slice B2 raw'.length d2, .slice B3 it'.length d3] 51)).cell? ⟨w.heap.size, 0, none⟩ = some (.int .i64 k) := blk_cell HX0.out 0
        have z1 : ((w.alloc (.cells #[.int .i64 k, .slice A1 ws.length c1, .slice A2 raw.length c2, .slice A3 it.length c3] 51)).alloc (.cells #[.int .i64 k, .slice B1 ws'.length d1, .slice B2 raw'.length d2, .slice B3 it'.length d3] 51)).cell? ⟨w.heap.size, 1, none⟩ = some (.slice A1 ws.length c1) := blk_cell HX0.out 1
        have z2 : ((w.alloc (.cells #[.int .i64 k, .slice A1 ws.length c1, .slice A2 raw.length c2, .slice A3 it.length c3] 51)).alloc (.cells #[.int .i64 k, .slice B1 ws'.length d1, .slice B2 raw'.length d2, .slice B3 it'.length d3] 51)).cell? ⟨w.heap.size, 2, none⟩ = some (.slice A2 raw.length c2) := blk_cell HX0.out 2
        have z3 : ((w.alloc (.cells #[.int .i64 k, .slice A1 ws.length c1, .slice A2 raw.length c2, .slice A3 it.length c3] 51)).alloc (.cells #[.int .i64 k, .slice B1 ws'.length d1, .slice B2 raw'.length d2, .slice B3 it'.length d3] 51)).cell? ⟨w.heap.size, 3, none⟩ = some (.slice A3 it.length c3) := blk_cell HX0.out 3
        have y0 : ((w.alloc (.cells #[.int .i64 k, .slice A1 ws.length c1, .slice A2 raw.length c2, .slice A3 it.length c3] 51)).alloc (.cells #[.int .i64 k, .slice B1 ws'.length d1, .slice B2 raw'.length d2, .slice B3 it'.length d3] 51)).cell? ⟨w.heap.size + 1, 0, none⟩ = some (.int .i64 k) := blk_cell HX1.out 0
        have y1 : ((w.alloc (.cells #[.int .i64 k, .slice A1 ws.length c1, .slice A2 raw.length c2, .slice A3 it.length c3] 51)).alloc (.cells #[.int .i64 k, .slice B1 ws'.length d1, .slice B2 raw'.length d2, .slice B3 it'.length d3] 51)).cell? ⟨w.heap.size + 1, 1, none⟩ = some (.slice B1 ws'.length d1) := blk_cell HX1.out 1
        have y2 : ((w.alloc (.cells #[.int .i64 k, .slice A1 ws.length c1, .slice A2 raw.length c2, .slice A3 it.length c3] 51)).alloc (.cells #[.int .i64 k, .slice B1 ws'.length d1, .slice B2 raw'.length d2, .slice B3 it'.length d3] 51)).cell? ⟨w.heap.size + 1, 2, none⟩ = some (.slice B2 raw'.length d2) := blk_cell HX1.out 2
        have y3 : ((w.alloc (.cells #[.int .i64 k, .slice A1 ws.length c1, .slice A2 raw.length c2, .slice A3 it.length c3] 51)).alloc (.cells #[.int .i64 k, .slice B1 ws'.length d1, .slice B2 raw'.length d2, .slice B3 it'.length d3] 51)).cell? ⟨w.heap.size + 1, 3, none⟩ = some (.slice B3 it'.length d3) := blk_cell HX1.out 3
        go_enter Try.func34, Try.ntmps34
        go_wp2_with fail
        refine (EqW_calls (.slice A1 ws.length c1) (.slice B1 ws'.length d1) ws ws' _ (HR1.out.below HB0.out) (HR4.out.below HB0.out)).mono ?_
        rintro e w1 ⟨rfl, hb⟩
        have HB1 := Aside0.mk (below_step HB0.out hb)
        have HX01 := Aside0.mk (blk_below HX0.out hb)
        have HX11 := Aside0.mk (blk_below HX1.out hb)
        clear hb z0 z1 z2 z3 y0 y1 y2 y3
        rw [D1.out]
        have z0 : (w1).cell? ⟨w.heap.size, 0, none⟩ = some (.int .i64 k) := blk_cell HX01.out 0
        have z1 : (w1).cell? ⟨w.heap.size, 1, none⟩ = some (.slice A1 ws.length c1) := blk_cell HX01.out 1
        have z2 : (w1).cell? ⟨w.heap.size, 2, none⟩ = some (.slice A2 raw.length c2) := blk_cell HX01.out 2
        have z3 : (w1).cell? ⟨w.heap.size, 3, none⟩ = some (.slice A3 it.length c3) := blk_cell HX01.out 3
        have y0 : (w1).cell? ⟨w.heap.size + 1, 0, none⟩ = some (.int .i64 k) := blk_cell HX11.out 0
        have y1 : (w1).cell? ⟨w.heap.size + 1, 1, none⟩ = some (.slice B1 ws'.length d1) := blk_cell HX11.out 1
        have y2 : (w1).cell? ⟨w.heap.size + 1, 2, none⟩ = some (.slice B2 raw'.length d2) := blk_cell HX11.out 2
        have y3 : (w1).cell? ⟨w.heap.size + 1, 3, none⟩ = some (.slice B3 it'.length d3) := blk_cell HX11.out 3
        go_wp2_with fail
        refine (EqB_calls (.slice A2 raw.length c2) (.slice B2 raw'.length d2) raw raw' _ (HR2.out.below HB1.out) (HR5.out.below HB1.out)).mono ?_
        rintro e w2 ⟨rfl, hb⟩
        have HB2 := Aside0.mk (below_step HB1.out hb)
        have HX02 := Aside0.mk (blk_below HX01.out hb)
        have HX12 := Aside0.mk (blk_below HX11.out hb)
        clear hb z0 z1 z2 z3 y0 y1 y2 y3
        rw [D2.out]
        have z0 : (w2).cell? ⟨w.heap.size, 0, none⟩ = some (.int .i64 k) := blk_cell HX02.out 0
        have z1 : (w2).cell? ⟨w.heap.size, 1, none⟩ = some (.slice A1 ws.length c1) := blk_cell HX02.out 1
        have z2 : (w2).cell? ⟨w.heap.size, 2, none⟩ = some (.slice A2 raw.length c2) := blk_cell HX02.out 2
        have z3 : (w2).cell? ⟨w.heap.size, 3, none⟩ = some (.slice A3 it.length c3) := blk_cell HX02.out 3
        have y0 : (w2).cell? ⟨w.heap.size + 1, 0, none⟩ = some (.int .i64 k) := blk_cell HX12.out 0
        have y1 : (w2).cell? ⟨w.heap.size + 1, 1, none⟩ = some (.slice B1 ws'.length d1) := blk_cell HX12.out 1
        have y2 : (w2).cell? ⟨w.heap.size + 1, 2, none⟩ = some (.slice B2 raw'.length d2) := blk_cell HX12.out 2
        have y3 : (w2).cell? ⟨w.heap.size + 1, 3, none⟩ = some (.slice B3 it'.length d3) := blk_cell HX12.out 3
        go_wp2_with fail
        go_ret
        exact ⟨by rw [HE.out]; rfl, HB2.out⟩
    · have D1 := Aside0.mk (decide_eq_false e1)
      have HE := Aside0.mk (sameO_no1 k k raw it raw' it' e1)
      have hkk : (k == k) = true := by simp
      clear e1
      have z0 : ((w.alloc (.cells #[.int .i64 k, .slice A1 ws.length c1, .slice A2 raw.length c2, .slice A3 it.length c3] 51)).alloc (.cells #[.int .i64 k, .slice B1 ws'.length d1, .slice B2 raw'.length d2, .slice B3 it'.length d3] 51)).cell? ⟨w.heap.size, 0, none⟩ = some (.int .i64 k) := blk_cell HX0.out 0
      have z1 : ((w.alloc (.cells #[.int .i64 k, .slice A1 ws.length c1, .slice A2 raw.length c2, .slice A3 it.length c3] 51)).alloc (.cells #[.int .i64 k, .slice B1 ws'.length d1, .slice B2 raw'.length d2, .slice B3 it'.length d3] 51)).cell? ⟨w.heap.size, 1, none⟩ = some (.slice A1 ws.length c1) := blk_cell HX0.out 1
      have z2 : ((w.alloc (.cells #[.int .i64 k, .slice A1 ws.length c1, .slice A2 raw.length c2, .slice A3 it.length c3] 51)).alloc (.cells #[.int .i64 k, .slice B1 ws'.length d1, .slice B2 raw'.length d2, .slice B3 it'.length d3] 51)).cell? ⟨w.heap.size, 2, none⟩ = some (.slice A2 raw.length c2) := blk_cell HX0.out 2
      have z3 : ((w.alloc (.cells #[.int .i64 k, .slice A1 ws.length c1, .slice A2 raw.length c2, .slice A3 it.length c3] 51)).alloc (.cells #[.int .i64 k, .slice B1 ws'.length d1, .slice B2 raw'.length d2, .slice B3 it'.length d3] 51)).cell? ⟨w.heap.size, 3, none⟩ = some (.slice A3 it.length c3) := blk_cell HX0.out 3
      have y0 : ((w.alloc (.cells #[.int .i64 k, .slice A1 ws.length c1, .slice A2 raw.length c2, .slice A3 it.length c3] 51)).alloc (.cells #[.int .i64 k, .slice B1 ws'.length d1, .slice B2 raw'.length d2, .slice B3 it'.length d3] 51)).cell? ⟨w.heap.size + 1, 0, none⟩ = some (.int .i64 k) := blk_cell HX1.out 0
      have y1 : ((w.alloc (.cells #[.int .i64 k, .slice A1 ws.length c1, .slice A2 raw.length c2, .slice A3 it.length c3] 51)).alloc (.cells #[.int .i64 k, .slice B1 ws'.length d1, .slice B2 raw'.length d2, .slice B3 it'.length d3] 51)).cell? ⟨w.heap.size + 1, 1, none⟩ = some (.slice B1 ws'.length d1) := blk_cell HX1.out 1
      have y2 : ((w.alloc (.cells #[.int .i64 k, .slice A1 ws.length c1, .slice A2 raw.length c2, .slice A3 it.length c3] 51)).alloc (.cells #[.int .i64 k, .slice B1 ws'.length d1, .slice B2 raw'.length d2, .slice B3 it'.length d3] 51)).cell? ⟨w.heap.size + 1, 2, none⟩ = some (.slice B2 raw'.length d2) := blk_cell HX1.out 2
      have y3 : ((w.alloc (.cells #[.int .i64 k, .slice A1 ws.length c1, .slice A2 raw.length c2, .slice A3 it.length c3] 51)).alloc (.cells #[.int .i64 k, .slice B1 ws'.length d1, .slice B2 raw'.length d2, .slice B3 it'.length d3] 51)).cell? ⟨w.heap.size + 1, 3, none⟩ = some (.slice B3 it'.length d3) := blk_cell HX1.out 3
      go_enter Try.func34, Try.ntmps34
      go_wp2_with fail
      refine (EqW_calls (.slice A1 ws.length c1) (.slice B1 ws'.length d1) ws ws' _ (HR1.out.below HB0.out) (HR4.out.below HB0.out)).mono ?_
      rintro e w1 ⟨rfl, hb⟩
      have HB1 := Aside0.mk (below_step HB0.out hb)
      have HX01 := Aside0.mk (blk_below HX0.out hb)
      have HX11 := Aside0.mk (blk_below HX1.out hb)
      clear hb z0 z1 z2 z3 y0 y1 y2 y3
      rw [D1.out]
      have z0 : (w1).cell? ⟨w.heap.size, 0, none⟩ = some (.int .i64 k) := blk_cell HX01.out 0
      have z1 : (w1).cell? ⟨w.heap.size, 1, none⟩ = some (.slice A1 ws.length c1) := blk_cell HX01.out 1
      have z2 : (w1).cell? ⟨w.heap.size, 2, none⟩ = some (.slice A2 raw.length c2) := blk_cell HX01.out 2
      have z3 : (w1).cell? ⟨w.heap.size, 3, none⟩ = some (.slice A3 it.length c3) := blk_cell HX01.out 3
      have y0 : (w1).cell? ⟨w.heap.size + 1, 0, none⟩ = some (.int .i64 k) := blk_cell HX11.out 0
      have y1 : (w1).cell? ⟨w.heap.size + 1, 1, none⟩ = some (.slice B1 ws'.length d1) := blk_cell HX11.out 1
      have y2 : (w1).cell? ⟨w.heap.size + 1, 2, none⟩ = some (.slice B2 raw'.length d2) := blk_cell HX11.out 2
      have y3 : (w1).cell? ⟨w.heap.size + 1, 3, none⟩ = some (.slice B3 it'.length d3) := blk_cell HX11.out 3
      go_wp2_with fail
      go_ret
      exact ⟨by rw [HE.out]; rfl, HB1.out⟩
  · have HE := Aside0.mk (sameO_no0 ws raw it ws' raw' it' e0)
    have hkk : (k == k') = false := by simpa using e0
    clear e0
    have z0 : ((w.alloc (.cells #[.int .i64 k, .slice A1 ws.length c1, .slice A2 raw.length c2, .slice A3 it.length c3] 51)).alloc (.cells #[.int .i64 k', .slice B1 ws'.length d1, .slice B2 raw'.length d2, .slice B3 it'.length d3] 51)).cell? ⟨w.heap.size, 0, none⟩ = some (.int .i64 k) := blk_cell HX0.out 0
    have z1 : ((w.alloc (.cells #[.int .i64 k, .slice A1 ws.length c1, .slice A2 raw.length c2, .slice A3 it.length c3] 51)).alloc (.cells #[.int .i64 k', .slice B1 ws'.length d1, .slice B2 raw'.length d2, .slice B3 it'.length d3] 51)).cell? ⟨w.heap.size, 1, none⟩ = some (.slice A1 ws.length c1) := blk_cell HX0.out 1
    have z2 : ((w.alloc (.cells #[.int .i64 k, .slice A1 ws.length c1, .slice A2 raw.length c2, .slice A3 it.length c3] 51)).alloc (.cells #[.int .i64 k', .slice B1 ws'.length d1, .slice B2 raw'.length d2, .slice B3 it'.length d3] 51)).cell? ⟨w.heap.size, 2, none⟩ = some (.slice A2 raw.length c2) := blk_cell HX0.out 2
    have z3 : ((w.alloc (.cells #[.int .i64 k, .slice A1 ws.length c1, .slice A2 raw.length c2, .slice A3 it.length c3] 51)).alloc (.cells #[.int .i64 k', .slice B1 ws'.length d1, .slice B2 raw'.length d2, .slice B3 it'.length d3] 51)).cell? ⟨w.heap.size, 3, none⟩ = some (.slice A3 it.length c3) := blk_cell HX0.out 3
    have y0 : ((w.alloc (.cells #[.int .i64 k, .slice A1 ws.length c1, .slice A2 raw.length c2, .slice A3 it.length c3] 51)).alloc (.cells #[.int .i64 k', .slice B1 ws'.length d1, .slice B2 raw'.length d2, .slice B3 it'.length d3] 51)).cell? ⟨w.heap.size + 1, 0, none⟩ = some (.int .i64 k') := blk_cell HX1.out 0
    have y1 : ((w.alloc (.cells #[.int .i64 k, .slice A1 ws.length c1, .slice A2 raw.length c2, .slice A3 it.length c3] 51)).alloc (.cells #[.int .i64 k', .slice B1 ws'.length d1, .slice B2 raw'.length d2, .slice B3 it'.length d3] 51)).cell? ⟨w.heap.size + 1, 1, none⟩ = some (.slice B1 ws'.length d1) := blk_cell HX1.out 1
    have y2 : ((w.alloc (.cells #[.int .i64 k, .slice A1 ws.length c1, .slice A2 raw.length c2, .slice A3 it.length c3] 51)).alloc (.cells #[.int .i64 k', .slice B1 ws'.length d1, .slice B2 raw'.length d2, .slice B3 it'.length d3] 51)).cell? ⟨w.heap.size + 1, 2, none⟩ = some (.slice B2 raw'.length d2) := blk_cell HX1.out 2
    have y3 : ((w.alloc (.cells #[.int .i64 k, .slice A1 ws.length c1, .slice A2 raw.length c2, .slice A3 it.length c3] 51)).alloc (.cells #[.int .i64 k', .slice B1 ws'.length d1, .slice B2 raw'.length d2, .slice B3 it'.length d3] 51)).cell? ⟨w.heap.size + 1, 3, none⟩ = some (.slice B3 it'.length d3) := blk_cell HX1.out 3
    go_enter Try.func34, Try.ntmps34
    go_wp2_with fail
    go_ret
    exact ⟨by rw [HE.out]; rfl, HB0.out⟩
set_option maxHeartbeats 8000000 in
set_option maxRecDepth 100000 in
theorem ref_oSame_calls (k k' : Int) (ws raw it ws' raw' it' : List Int) (A1 A2 A3 B1 B2 B3 : Option Addr) (c1 c2 c3 d1 d2 d3 : Nat) (w : World) (h1 : Rd w .u64 (.slice A1 ws.length c1) ws) (h2 : Rd w .u8 (.slice A2 raw.length c2) raw) (h3 : Rd w .u64 (.slice A3 it.length c3) it)
    (h4 : Rd w .u64 (.slice B1 ws'.length d1) ws') (h5 : Rd w .u8 (.slice B2 raw'.length d2) raw') (h6 : Rd w .u64 (.slice B3 it'.length d3) it') (w2 : isB raw) (w5 : isB raw') :
    Calls Try.prog 127 #[.agg #[.int .i64 k, .slice A1 ws.length c1, .slice A2 raw.length c2, .slice A3 it.length c3], .agg #[.int .i64 k', .slice B1 ws'.length d1, .slice B2 raw'.length d2, .slice B3 it'.length d3]] w fun e w' => e = .returned (.bool (sameO k k' ws raw it ws' raw' it')) ∧ Below w.heap.size w w' := by
  have HR1 := Aside0.mk h1
  have HR2 := Aside0.mk h2
  have HR3 := Aside0.mk h3
  have HR4 := Aside0.mk h4
  have HR5 := Aside0.mk h5
  have HR6 := Aside0.mk h6
  have W2 := Aside0.mk w2
  have W5 := Aside0.mk w5
  have HX0 := Aside0.mk (blk_below (blk_new w (.cells #[.int .i64 k, .slice A1 ws.length c1, .slice A2 raw.length c2, .slice A3 it.length c3] 48)) (below_alloc (Below.refl _ _) (.cells #[.int .i64 k', .slice B1 ws'.length d1, .slice B2 raw'.length d2, .slice B3 it'.length d3] 48)))
  have HX1 := Aside0.mk (blk_new (w.alloc (.cells #[.int .i64 k, .slice A1 ws.length c1, .slice A2 raw.length c2, .slice A3 it.length c3] 48)) (.cells #[.int .i64 k', .slice B1 ws'.length d1, .slice B2 raw'.length d2, .slice B3 it'.length d3] 48))
  rw [show (w.alloc (.cells #[.int .i64 k, .slice A1 ws.length c1, .slice A2 raw.length c2, .slice A3 it.length c3] 48)).heap.size = w.heap.size + 1 from Array.size_push _] at HX1
  have HB0 := Aside0.mk (below_alloc (below_alloc (Below.refl w.heap.size w) (.cells #[.int .i64 k, .slice A1 ws.length c1, .slice A2 raw.length c2, .slice A3 it.length c3] 48)) (.cells #[.int .i64 k', .slice B1 ws'.length d1, .slice B2 raw'.length d2, .slice B3 it'.length d3] 48))
  clear h1 h2 h3 h4 h5 h6 w2 w5
  by_cases e0 : k = k'
  · subst e0
    by_cases e1 : ws = ws'
    · have D1 := Aside0.mk (decide_eq_true e1)
      by_cases e2 : raw = raw'
      · have D2 := Aside0.mk (decide_eq_true e2)
        by_cases e3 : it = it'
        · have D3 := Aside0.mk (decide_eq_true e3)
          have HE := Aside0.mk (sameO_yes k e1 e2 e3)
          have hkk : (k == k) = true := by simp
          clear e1 e2 e3
          have z0 : ((w.alloc (.cells #[.int .i64 k, .slice A1 ws.length c1, .slice A2 raw.length c2, .slice A3 it.length c3] 48)).alloc (.cells #[.int .i64 k, .slice B1 ws'.length d1, .slice B2 raw'.length d2, .slice B3 it'.length d3] 48)).cell? ⟨w.heap.size, 0, none⟩ = some (.int .i64 k) := blk_cell HX0.out 0
          have z1 : ((w.alloc (.cells #[.int .i64 k, .slice A1 ws.length c1, .slice A2 raw.length c2, .slice A3 it.length c3] 48)).alloc (.cells #[.int .i64 k, .slice B1 ws'.length d1, .slice B2 raw'.length d2, .slice B3 it'.length d3] 48)).cell? ⟨w.heap.size, 1, none⟩ = some (.slice A1 ws.length c1) := blk_cell HX0.out 1
          have z2 : ((w.alloc (.cells #[.int .i64 k, .slice A1 ws.length c1, .slice A2 raw.length c2, .slice A3 it.length c3] 48)).alloc (.cells #[.int .i64 k, .slice B1 ws'.length d1, .slice B2 raw'.length d2, .slice B3 it'.length d3] 48)).cell? ⟨w.heap.size, 2, none⟩ = some (.slice A2 raw.length c2) := blk_cell HX0.out 2
          have z3 : ((w.alloc (.cells #[.int .i64 k, .slice A1 ws.length c1, .slice A2 raw.length c2, .slice A3 it.length c3] 48)).alloc (.cells #[.int .i64 k, .slice B1 ws'.length d1, .slice B2 raw'.length d2, .slice B3 it'.length d3] 48)).cell? ⟨w.heap.size, 3, none⟩ = some (.slice A3 it.length c3) := blk_cell HX0.out 3
          have y0 : ((w.alloc (.cells #[.int .i64 k, .slice A1 ws.length c1, .slice A2 raw.length c2, .slice A3 it.length c3] 48)).alloc (.cells #[.int .i64 k, .slice B1 ws'.length d1, .slice B2 raw'.length d2, .slice B3 it'.length d3] 48)).cell? ⟨w.heap.size + 1, 0, none⟩ = some (.int .i64 k) := blk_cell HX1.out 0
          have y1 : ((w.alloc (.cells #[.int .i64 k, .slice A1 ws.length c1, .slice A2 raw.length c2, .slice A3 it.length c3] 48)).alloc (.cells #[.int .i64 k, .slice B1 ws'.length d1, .slice B2 raw'.length d2, .slice B3 it'.length d3] 48)).cell? ⟨w.heap.size + 1, 1, none⟩ = some (.slice B1 ws'.length d1) := blk_cell HX1.out 1
          have y2 : ((w.alloc (.cells #[.int .i64 k, .slice A1 ws.length c1, .slice A2 raw.length c2, .slice A3 it.length c3] 48)).alloc (.cells #[.int .i64 k, .slice B1 ws'.length d1, .slice B2 raw'.length d2, .slice B3 it'.length d3] 48)).cell? ⟨w.heap.size + 1, 2, none⟩ = some (.slice B2 raw'.length d2) := blk_cell HX1.out 2
          have y3 : ((w.alloc (.cells #[.int .i64 k, .slice A1 ws.length c1, .slice A2 raw.length c2, .slice A3 it.length c3] 48)).alloc (.cells #[.int .i64 k, .slice B1 ws'.length d1, .slice B2 raw'.length d2, .slice B3 it'.length d3] 48)).cell? ⟨w.heap.size + 1, 3, none⟩ = some (.slice B3 it'.length d3) := blk_cell HX1.out 3
          go_enter Try.func127, Try.ntmps127
          go_wp2_with fail
          refine (ref_Words_calls (.slice A1 ws.length c1) (.slice B1 ws'.length d1) ws ws' _ (HR1.out.below HB0.out) (HR4.out.below HB0.out)).mono ?_
          rintro e w1 ⟨rfl, hb⟩
          have HB1 := Aside0.mk (below_step HB0.out hb)
          have HX01 := Aside0.mk (blk_below HX0.out hb)
          have HX11 := Aside0.mk (blk_below HX1.out hb)
          clear hb z0 z1 z2 z3 y0 y1 y2 y3
          rw [D1.out]
          have z0 : (w1).cell? ⟨w.heap.size, 0, none⟩ = some (.int .i64 k) := blk_cell HX01.out 0
          have z1 : (w1).cell? ⟨w.heap.size, 1, none⟩ = some (.slice A1 ws.length c1) := blk_cell HX01.out 1
          have z2 : (w1).cell? ⟨w.heap.size, 2, none⟩ = some (.slice A2 raw.length c2) := blk_cell HX01.out 2
          have z3 : (w1).cell? ⟨w.heap.size, 3, none⟩ = some (.slice A3 it.length c3) := blk_cell HX01.out 3
          have y0 : (w1).cell? ⟨w.heap.size + 1, 0, none⟩ = some (.int .i64 k) := blk_cell HX11.out 0
          have y1 : (w1).cell? ⟨w.heap.size + 1, 1, none⟩ = some (.slice B1 ws'.length d1) := blk_cell HX11.out 1
          have y2 : (w1).cell? ⟨w.heap.size + 1, 2, none⟩ = some (.slice B2 raw'.length d2) := blk_cell HX11.out 2
          have y3 : (w1).cell? ⟨w.heap.size + 1, 3, none⟩ = some (.slice B3 it'.length d3) := blk_cell HX11.out 3
          go_wp2_with fail
          refine (Same_calls (.slice A2 raw.length c2) (.slice B2 raw'.length d2) raw raw' _ (HR2.out.below HB1.out) (HR5.out.below HB1.out) W2.out W5.out).mono ?_
          rintro e w2 ⟨rfl, hb⟩
          have HB2 := Aside0.mk (below_step HB1.out hb)
          have HX02 := Aside0.mk (blk_below HX01.out hb)
          have HX12 := Aside0.mk (blk_below HX11.out hb)
          clear hb z0 z1 z2 z3 y0 y1 y2 y3
          rw [D2.out]
          have z0 : (w2).cell? ⟨w.heap.size, 0, none⟩ = some (.int .i64 k) := blk_cell HX02.out 0
          have z1 : (w2).cell? ⟨w.heap.size, 1, none⟩ = some (.slice A1 ws.length c1) := blk_cell HX02.out 1
          have z2 : (w2).cell? ⟨w.heap.size, 2, none⟩ = some (.slice A2 raw.length c2) := blk_cell HX02.out 2
          have z3 : (w2).cell? ⟨w.heap.size, 3, none⟩ = some (.slice A3 it.length c3) := blk_cell HX02.out 3
          have y0 : (w2).cell? ⟨w.heap.size + 1, 0, none⟩ = some (.int .i64 k) := blk_cell HX12.out 0
          have y1 : (w2).cell? ⟨w.heap.size + 1, 1, none⟩ = some (.slice B1 ws'.length d1) := blk_cell HX12.out 1
          have y2 : (w2).cell? ⟨w.heap.size + 1, 2, none⟩ = some (.slice B2 raw'.length d2) := blk_cell HX12.out 2
          have y3 : (w2).cell? ⟨w.heap.size + 1, 3, none⟩ = some (.slice B3 it'.length d3) := blk_cell HX12.out 3
          go_wp2_with fail
          refine (ref_Words_calls (.slice A3 it.length c3) (.slice B3 it'.length d3) it it' _ (HR3.out.below HB2.out) (HR6.out.below HB2.out)).mono ?_
          rintro e w3 ⟨rfl, hb⟩
          have HB3 := Aside0.mk (below_step HB2.out hb)
          have HX03 := Aside0.mk (blk_below HX02.out hb)
          have HX13 := Aside0.mk (blk_below HX12.out hb)
          clear hb z0 z1 z2 z3 y0 y1 y2 y3
          rw [D3.out]
          have z0 : (w3).cell? ⟨w.heap.size, 0, none⟩ = some (.int .i64 k) := blk_cell HX03.out 0
          have z1 : (w3).cell? ⟨w.heap.size, 1, none⟩ = some (.slice A1 ws.length c1) := blk_cell HX03.out 1
          have z2 : (w3).cell? ⟨w.heap.size, 2, none⟩ = some (.slice A2 raw.length c2) := blk_cell HX03.out 2
          have z3 : (w3).cell? ⟨w.heap.size, 3, none⟩ = some (.slice A3 it.length c3) := blk_cell HX03.out 3
          have y0 : (w3).cell? ⟨w.heap.size + 1, 0, none⟩ = some (.int .i64 k) := blk_cell HX13.out 0
          have y1 : (w3).cell? ⟨w.heap.size + 1, 1, none⟩ = some (.slice B1 ws'.length d1) := blk_cell HX13.out 1
          have y2 : (w3).cell? ⟨w.heap.size + 1, 2, none⟩ = some (.slice B2 raw'.length d2) := blk_cell HX13.out 2
          have y3 : (w3).cell? ⟨w.heap.size + 1, 3, none⟩ = some (.slice B3 it'.length d3) := blk_cell HX13.out 3
          go_wp2_with fail
          go_ret
          exact ⟨by rw [HE.out]; rfl, HB3.out⟩
        · have D3 := Aside0.mk (decide_eq_false e3)
          have HE := Aside0.mk (sameO_no3 k k ws raw ws' raw' e3)
          have hkk : (k == k) = true := by simp
          clear e1 e2 e3
          have z0 : ((w.alloc (.cells #[.int .i64 k, .slice A1 ws.length c1, .slice A2 raw.length c2, .slice A3 it.length c3] 48)).alloc (.cells #[.int .i64 k, .slice B1 ws'.length d1, .slice B2 raw'.length d2, .slice B3 it'.length d3] 48)).cell? ⟨w.heap.size, 0, none⟩ = some (.int .i64 k) := blk_cell HX0.out 0
          have z1 : ((w.alloc (.cells #[.int .i64 k, .slice A1 ws.length c1, .slice A2 raw.length c2, .slice A3 it.length c3] 48)).alloc (.cells #[.int .i64 k, .slice B1 ws'.length d1, .slice B2 raw'.length d2, .slice B3 it'.length d3] 48)).cell? ⟨w.heap.size, 1, none⟩ = some (.slice A1 ws.length c1) := blk_cell HX0.out 1
          have z2 : ((w.alloc (.cells #[.int .i64 k, .slice A1 ws.length c1, .slice A2 raw.length c2, .slice A3 it.length c3] 48)).alloc (.cells #[.int .i64 k, .slice B1 ws'.length d1, .slice B2 raw'.length d2, .slice B3 it'.length d3] 48)).cell? ⟨w.heap.size, 2, none⟩ = some (.slice A2 raw.length c2) := blk_cell HX0.out 2
          have z3 : ((w.alloc (.cells #[.int .i64 k, .slice A1 ws.length c1, .slice A2 raw.length c2, .slice A3 it.length c3] 48)).alloc (.cells #[.int .i64 k, .slice B1 ws'.length d1, .slice B2 raw'.length d2, .slice B3 it'.length d3] 48)).cell? ⟨w.heap.size, 3, none⟩ = some (.slice A3 it.length c3) := blk_cell HX0.out 3
          have y0 : ((w.alloc (.cells #[.int .i64 k, .slice A1 ws.length c1, .slice A2 raw.length c2, .slice A3 it.length c3] 48)).alloc (.cells #[.int .i64 k, .slice B1 ws'.length d1, .slice B2 raw'.length d2, .slice B3 it'.length d3] 48)).cell? ⟨w.heap.size + 1, 0, none⟩ = some (.int .i64 k) := blk_cell HX1.out 0
          have y1 : ((w.alloc (.cells #[.int .i64 k, .slice A1 ws.length c1, .slice A2 raw.length c2, .slice A3 it.length c3] 48)).alloc (.cells #[.int .i64 k, .slice B1 ws'.length d1, .slice B2 raw'.length d2, .slice B3 it'.length d3] 48)).cell? ⟨w.heap.size + 1, 1, none⟩ = some (.slice B1 ws'.length d1) := blk_cell HX1.out 1
          have y2 : ((w.alloc (.cells #[.int .i64 k, .slice A1 ws.length c1, .slice A2 raw.length c2, .slice A3 it.length c3] 48)).alloc (.cells #[.int .i64 k, .slice B1 ws'.length d1, .slice B2 raw'.length d2, .slice B3 it'.length d3] 48)).cell? ⟨w.heap.size + 1, 2, none⟩ = some (.slice B2 raw'.length d2) := blk_cell HX1.out 2
          have y3 : ((w.alloc (.cells #[.int .i64 k, .slice A1 ws.length c1, .slice A2 raw.length c2, .slice A3 it.length c3] 48)).alloc (.cells #[.int .i64 k, .slice B1 ws'.length d1, .slice B2 raw'.length d2, .slice B3 it'.length d3] 48)).cell? ⟨w.heap.size + 1, 3, none⟩ = some (.slice B3 it'.length d3) := blk_cell HX1.out 3
          go_enter Try.func127, Try.ntmps127
          go_wp2_with fail
          refine (ref_Words_calls (.slice A1 ws.length c1) (.slice B1 ws'.length d1) ws ws' _ (HR1.out.below HB0.out) (HR4.out.below HB0.out)).mono ?_
          rintro e w1 ⟨rfl, hb⟩
          have HB1 := Aside0.mk (below_step HB0.out hb)
          have HX01 := Aside0.mk (blk_below HX0.out hb)
          have HX11 := Aside0.mk (blk_below HX1.out hb)
          clear hb z0 z1 z2 z3 y0 y1 y2 y3
          rw [D1.out]
          have z0 : (w1).cell? ⟨w.heap.size, 0, none⟩ = some (.int .i64 k) := blk_cell HX01.out 0
          have z1 : (w1).cell? ⟨w.heap.size, 1, none⟩ = some (.slice A1 ws.length c1) := blk_cell HX01.out 1
          have z2 : (w1).cell? ⟨w.heap.size, 2, none⟩ = some (.slice A2 raw.length c2) := blk_cell HX01.out 2
          have z3 : (w1).cell? ⟨w.heap.size, 3, none⟩ = some (.slice A3 it.length c3) := blk_cell HX01.out 3
          have y0 : (w1).cell? ⟨w.heap.size + 1, 0, none⟩ = some (.int .i64 k) := blk_cell HX11.out 0
          have y1 : (w1).cell? ⟨w.heap.size + 1, 1, none⟩ = some (.slice B1 ws'.length d1) := blk_cell HX11.out 1
          have y2 : (w1).cell? ⟨w.heap.size + 1, 2, none⟩ = some (.slice B2 raw'.length d2) := blk_cell HX11.out 2
          have y3 : (w1).cell? ⟨w.heap.size + 1, 3, none⟩ = some (.slice B3 it'.length d3) := blk_cell HX11.out 3
          go_wp2_with fail
          refine (Same_calls (.slice A2 raw.length c2) (.slice B2 raw'.length d2) raw raw' _ (HR2.out.below HB1.out) (HR5.out.below HB1.out) W2.out W5.out).mono ?_
          rintro e w2 ⟨rfl, hb⟩
          have HB2 := Aside0.mk (below_step HB1.out hb)
          have HX02 := Aside0.mk (blk_below HX01.out hb)
          have HX12 := Aside0.mk (blk_below HX11.out hb)
          clear hb z0 z1 z2 z3 y0 y1 y2 y3
          rw [D2.out]
          have z0 : (w2).cell? ⟨w.heap.size, 0, none⟩ = some (.int .i64 k) := blk_cell HX02.out 0
          have z1 : (w2).cell? ⟨w.heap.size, 1, none⟩ = some (.slice A1 ws.length c1) := blk_cell HX02.out 1
          have z2 : (w2).cell? ⟨w.heap.size, 2, none⟩ = some (.slice A2 raw.length c2) := blk_cell HX02.out 2
          have z3 : (w2).cell? ⟨w.heap.size, 3, none⟩ = some (.slice A3 it.length c3) := blk_cell HX02.out 3
          have y0 : (w2).cell? ⟨w.heap.size + 1, 0, none⟩ = some (.int .i64 k) := blk_cell HX12.out 0
          have y1 : (w2).cell? ⟨w.heap.size + 1, 1, none⟩ = some (.slice B1 ws'.length d1) := blk_cell HX12.out 1
          have y2 : (w2).cell? ⟨w.heap.size + 1, 2, none⟩ = some (.slice B2 raw'.length d2) := blk_cell HX12.out 2
          have y3 : (w2).cell? ⟨w.heap.size + 1, 3, none⟩ = some (.slice B3 it'.length d3) := blk_cell HX12.out 3
          go_wp2_with fail
          refine (ref_Words_calls (.slice A3 it.length c3) (.slice B3 it'.length d3) it it' _ (HR3.out.below HB2.out) (HR6.out.below HB2.out)).mono ?_
          rintro e w3 ⟨rfl, hb⟩
          have HB3 := Aside0.mk (below_step HB2.out hb)
          have HX03 := Aside0.mk (blk_below HX02.out hb)
          have HX13 := Aside0.mk (blk_below HX12.out hb)
          clear hb z0 z1 z2 z3 y0 y1 y2 y3
          rw [D3.out]
          have z0 : (w3).cell? ⟨w.heap.size, 0, none⟩ = some (.int .i64 k) := blk_cell HX03.out 0
          have z1 : (w3).cell? ⟨w.heap.size, 1, none⟩ = some (.slice A1 ws.length c1) := blk_cell HX03.out 1
          have z2 : (w3).cell? ⟨w.heap.size, 2, none⟩ = some (.slice A2 raw.length c2) := blk_cell HX03.out 2
          have z3 : (w3).cell? ⟨w.heap.size, 3, none⟩ = some (.slice A3 it.length c3) := blk_cell HX03.out 3
          have y0 : (w3).cell? ⟨w.heap.size + 1, 0, none⟩ = some (.int .i64 k) := blk_cell HX13.out 0
          have y1 : (w3).cell? ⟨w.heap.size + 1, 1, none⟩ = some (.slice B1 ws'.length d1) := blk_cell HX13.out 1
          have y2 : (w3).cell? ⟨w.heap.size + 1, 2, none⟩ = some (.slice B2 raw'.length d2) := blk_cell HX13.out 2
          have y3 : (w3).cell? ⟨w.heap.size + 1, 3, none⟩ = some (.slice B3 it'.length d3) := blk_cell HX13.out 3
          go_wp2_with fail
          go_ret
          exact ⟨by rw [HE.out]; rfl, HB3.out⟩
      · have D2 := Aside0.mk (decide_eq_false e2)
        have HE := Aside0.mk (sameO_no2 k k ws it ws' it' e2)
        have hkk : (k == k) = true := by simp
        clear e1 e2
        have z0 : ((w.alloc (.cells #[.int .i64 k, .slice A1 ws.length c1, .slice A2 raw.length c2, .slice A3 it.length c3] 48)).alloc (.cells #[.int .i64 k, .slice B1 ws'.length d1, .slice B2 raw'.length d2, .slice B3 it'.length d3] 48)).cell? ⟨w.heap.size, 0, none⟩ = some (.int .i64 k) := blk_cell HX0.out 0
        have z1 : ((w.alloc (.cells #[.int .i64 k, .slice A1 ws.length c1, .slice A2 raw.length c2, .slice A3 it.length c3] 48)).alloc (.cells #[.int .i64 k, .slice B1 ws'.length d1, .slice B2 raw'.length d2, .slice B3 it'.length d3] 48)).cell? ⟨w.heap.size, 1, none⟩ = some (.slice A1 ws.length c1) := blk_cell HX0.out 1
        have z2 : ((w.alloc (.cells #[.int .i64 k, .slice A1 ws.length c1, .slice A2 raw.length c2, .slice A3 it.length c3] 48)).alloc (.cells #[.int .i64 k, .slice B1 ws'.length d1, .slice B2 raw'.length d2, .slice B3 it'.length d3] 48)).cell? ⟨w.heap.size, 2, none⟩ = some (.slice A2 raw.length c2) := blk_cell HX0.out 2
        have z3 : ((w.alloc (.cells #[.int .i64 k, .slice A1 ws.length c1, .slice A2 raw.length c2, .slice A3 it.length c3] 48)).alloc (.cells #[.int .i64 k, .slice B1 ws'.length d1, .slice B2 raw'.length d2, .slice B3 it'.length d3] 48)).cell? ⟨w.heap.size, 3, none⟩ = some (.slice A3 it.length c3) := blk_cell HX0.out 3
        have y0 : ((w.alloc (.cells #[.int .i64 k, .slice A1 ws.length c1, .slice A2 raw.length c2, .slice A3 it.length c3] 48)).alloc (.cells #[.int .i64 k, .slice B1 ws'.length d1, .slice B2 raw'.length d2, .slice B3 it'.length d3] 48)).cell? ⟨w.heap.size + 1, 0, none⟩ = some (.int .i64 k) := blk_cell HX1.out 0
        have y1 : ((w.alloc (.cells #[.int .i64 k, .slice A1 ws.length c1, .slice A2 raw.length c2, .slice A3 it.length c3] 48)).alloc (.cells #[.int .i64 k, .slice B1 ws'.length d1, .slice B2 raw'.length d2, .slice B3 it'.length d3] 48)).cell? ⟨w.heap.size + 1, 1, none⟩ = some (.slice B1 ws'.length d1) := blk_cell HX1.out 1
        have y2 : ((w.alloc (.cells #[.int .i64 k, .slice A1 ws.length c1, .slice A2 raw.length c2, .slice A3 it.length c3] 48)).alloc (.cells #[.int .i64 k, .slice B1 ws'.length d1, .slice B2 raw'.length d2, .slice B3 it'.length d3] 48)).cell? ⟨w.heap.size + 1, 2, none⟩ = some (.slice B2 raw'.length d2) := blk_cell HX1.out 2
        have y3 : ((w.alloc (.cells #[.int .i64 k, .slice A1 ws.length c1, .slice A2 raw.length c2, .slice A3 it.length c3] 48)).alloc (.cells #[.int .i64 k, .slice B1 ws'.length d1, .slice B2 raw'.length d2, .slice B3 it'.length d3] 48)).cell? ⟨w.heap.size + 1, 3, none⟩ = some (.slice B3 it'.length d3) := blk_cell HX1.out 3
        go_enter Try.func127, Try.ntmps127
        go_wp2_with fail
        refine (ref_Words_calls (.slice A1 ws.length c1) (.slice B1 ws'.length d1) ws ws' _ (HR1.out.below HB0.out) (HR4.out.below HB0.out)).mono ?_
        rintro e w1 ⟨rfl, hb⟩
        have HB1 := Aside0.mk (below_step HB0.out hb)
        have HX01 := Aside0.mk (blk_below HX0.out hb)
        have HX11 := Aside0.mk (blk_below HX1.out hb)
        clear hb z0 z1 z2 z3 y0 y1 y2 y3
        rw [D1.out]
        have z0 : (w1).cell? ⟨w.heap.size, 0, none⟩ = some (.int .i64 k) := blk_cell HX01.out 0
        have z1 : (w1).cell? ⟨w.heap.size, 1, none⟩ = some (.slice A1 ws.length c1) := blk_cell HX01.out 1
        have z2 : (w1).cell? ⟨w.heap.size, 2, none⟩ = some (.slice A2 raw.length c2) := blk_cell HX01.out 2
        have z3 : (w1).cell? ⟨w.heap.size, 3, none⟩ = some (.slice A3 it.length c3) := blk_cell HX01.out 3
        have y0 : (w1).cell? ⟨w.heap.size + 1, 0, none⟩ = some (.int .i64 k) := blk_cell HX11.out 0
        have y1 : (w1).cell? ⟨w.heap.size + 1, 1, none⟩ = some (.slice B1 ws'.length d1) := blk_cell HX11.out 1
        have y2 : (w1).cell? ⟨w.heap.size + 1, 2, none⟩ = some (.slice B2 raw'.length d2) := blk_cell HX11.out 2
        have y3 : (w1).cell? ⟨w.heap.size + 1, 3, none⟩ = some (.slice B3 it'.length d3) := blk_cell HX11.out 3
        go_wp2_with fail
        refine (Same_calls (.slice A2 raw.length c2) (.slice B2 raw'.length d2) raw raw' _ (HR2.out.below HB1.out) (HR5.out.below HB1.out) W2.out W5.out).mono ?_
        rintro e w2 ⟨rfl, hb⟩
        have HB2 := Aside0.mk (below_step HB1.out hb)
        have HX02 := Aside0.mk (blk_below HX01.out hb)
        have HX12 := Aside0.mk (blk_below HX11.out hb)
        clear hb z0 z1 z2 z3 y0 y1 y2 y3
        rw [D2.out]
        have z0 : (w2).cell? ⟨w.heap.size, 0, none⟩ = some (.int .i64 k) := blk_cell HX02.out 0
        have z1 : (w2).cell? ⟨w.heap.size, 1, none⟩ = some (.slice A1 ws.length c1) := blk_cell HX02.out 1
        have z2 : (w2).cell? ⟨w.heap.size, 2, none⟩ = some (.slice A2 raw.length c2) := blk_cell HX02.out 2
        have z3 : (w2).cell? ⟨w.heap.size, 3, none⟩ = some (.slice A3 it.length c3) := blk_cell HX02.out 3
        have y0 : (w2).cell? ⟨w.heap.size + 1, 0, none⟩ = some (.int .i64 k) := blk_cell HX12.out 0
        have y1 : (w2).cell? ⟨w.heap.size + 1, 1, none⟩ = some (.slice B1 ws'.length d1) := blk_cell HX12.out 1
        have y2 : (w2).cell? ⟨w.heap.size + 1, 2, none⟩ = some (.slice B2 raw'.length d2) := blk_cell HX12.out 2
        have y3 : (w2).cell? ⟨w.heap.size + 1, 3, none⟩ = some (.slice B3 it'.length d3) := blk_cell HX12.out 3
        go_wp2_with fail
        go_ret
        exact ⟨by rw [HE.out]; rfl, HB2.out⟩
    · have D1 := Aside0.mk (decide_eq_false e1)
      have HE := Aside0.mk (sameO_no1 k k raw it raw' it' e1)
      have hkk : (k == k) = true := by simp
      clear e1
      have z0 : ((w.alloc (.cells #[.int .i64 k, .slice A1 ws.length c1, .slice A2 raw.length c2, .slice A3 it.length c3] 48)).alloc (.cells #[.int .i64 k, .slice B1 ws'.length d1, .slice B2 raw'.length d2, .slice B3 it'.length d3] 48)).cell? ⟨w.heap.size, 0, none⟩ = some (.int .i64 k) := blk_cell HX0.out 0
      have z1 : ((w.alloc (.cells #[.int .i64 k, .slice A1 ws.length c1, .slice A2 raw.length c2, .slice A3 it.length c3] 48)).alloc (.cells #[.int .i64 k, .slice B1 ws'.length d1, .slice B2 raw'.length d2, .slice B3 it'.length d3] 48)).cell? ⟨w.heap.size, 1, none⟩ = some (.slice A1 ws.length c1) := blk_cell HX0.out 1
      have z2 : ((w.alloc (.cells #[.int .i64 k, .slice A1 ws.length c1, .slice A2 raw.length c2, .slice A3 it.length c3] 48)).alloc (.cells #[.int .i64 k, .slice B1 ws'.length d1, .slice B2 raw'.length d2, .slice B3 it'.length d3] 48)).cell? ⟨w.heap.size, 2, none⟩ = some (.slice A2 raw.length c2) := blk_cell HX0.out 2
      have z3 : ((w.alloc (.cells #[.int .i64 k, .slice A1 ws.length c1, .slice A2 raw.length c2, .slice A3 it.length c3] 48)).alloc (.cells #[.int .i64 k, .slice B1 ws'.length d1, .slice B2 raw'.length d2, .slice B3 it'.length d3] 48)).cell? ⟨w.heap.size, 3, none⟩ = some (.slice A3 it.length c3) := blk_cell HX0.out 3
      have y0 : ((w.alloc (.cells #[.int .i64 k, .slice A1 ws.length c1, .slice A2 raw.length c2, .slice A3 it.length c3] 48)).alloc (.cells #[.int .i64 k, .slice B1 ws'.length d1, .slice B2 raw'.length d2, .slice B3 it'.length d3] 48)).cell? ⟨w.heap.size + 1, 0, none⟩ = some (.int .i64 k) := blk_cell HX1.out 0
      have y1 : ((w.alloc (.cells #[.int .i64 k, .slice A1 ws.length c1, .slice A2 raw.length c2, .slice A3 it.length c3] 48)).alloc (.cells #[.int .i64 k, .slice B1 ws'.length d1, .slice B2 raw'.length d2, .slice B3 it'.length d3] 48)).cell? ⟨w.heap.size + 1, 1, none⟩ = some (.slice B1 ws'.length d1) := blk_cell HX1.out 1
      have y2 : ((w.alloc (.cells #[.int .i64 k, .slice A1 ws.length c1, .slice A2 raw.length c2, .slice A3 it.length c3] 48)).alloc (.cells #[.int .i64 k, .slice B1 ws'.length d1, .slice B2 raw'.length d2, .slice B3 it'.length d3] 48)).cell? ⟨w.heap.size + 1, 2, none⟩ = some (.slice B2 raw'.length d2) := blk_cell HX1.out 2
      have y3 : ((w.alloc (.cells #[.int .i64 k, .slice A1 ws.length c1, .slice A2 raw.length c2, .slice A3 it.length c3] 48)).alloc (.cells #[.int .i64 k, .slice B1 ws'.length d1, .slice B2 raw'.length d2, .slice B3 it'.length d3] 48)).cell? ⟨w.heap.size + 1, 3, none⟩ = some (.slice B3 it'.length d3) := blk_cell HX1.out 3
      go_enter Try.func127, Try.ntmps127
      go_wp2_with fail
      refine (ref_Words_calls (.slice A1 ws.length c1) (.slice B1 ws'.length d1) ws ws' _ (HR1.out.below HB0.out) (HR4.out.below HB0.out)).mono ?_
      rintro e w1 ⟨rfl, hb⟩
      have HB1 := Aside0.mk (below_step HB0.out hb)
      have HX01 := Aside0.mk (blk_below HX0.out hb)
      have HX11 := Aside0.mk (blk_below HX1.out hb)
      clear hb z0 z1 z2 z3 y0 y1 y2 y3
      rw [D1.out]
      have z0 : (w1).cell? ⟨w.heap.size, 0, none⟩ = some (.int .i64 k) := blk_cell HX01.out 0
      have z1 : (w1).cell? ⟨w.heap.size, 1, none⟩ = some (.slice A1 ws.length c1) := blk_cell HX01.out 1
      have z2 : (w1).cell? ⟨w.heap.size, 2, none⟩ = some (.slice A2 raw.length c2) := blk_cell HX01.out 2
      have z3 : (w1).cell? ⟨w.heap.size, 3, none⟩ = some (.slice A3 it.length c3) := blk_cell HX01.out 3
      have y0 : (w1).cell? ⟨w.heap.size + 1, 0, none⟩ = some (.int .i64 k) := blk_cell HX11.out 0
      have y1 : (w1).cell? ⟨w.heap.size + 1, 1, none⟩ = some (.slice B1 ws'.length d1) := blk_cell HX11.out 1
      have y2 : (w1).cell? ⟨w.heap.size + 1, 2, none⟩ = some (.slice B2 raw'.length d2) := blk_cell HX11.out 2
      have y3 : (w1).cell? ⟨w.heap.size + 1, 3, none⟩ = some (.slice B3 it'.length d3) := blk_cell HX11.out 3
      go_wp2_with fail
      go_ret
      exact ⟨by rw [HE.out]; rfl, HB1.out⟩
  · have HE := Aside0.mk (sameO_no0 ws raw it ws' raw' it' e0)
    have hkk : (k == k') = false := by simpa using e0
    clear e0
    have z0 : ((w.alloc (.cells #[.int .i64 k, .slice A1 ws.length c1, .slice A2 raw.length c2, .slice A3 it.length c3] 48)).alloc (.cells #[.int .i64 k', .slice B1 ws'.length d1, .slice B2 raw'.length d2, .slice B3 it'.length d3] 48)).cell? ⟨w.heap.size, 0, none⟩ = some (.int .i64 k) := blk_cell HX0.out 0
    have z1 : ((w.alloc (.cells #[.int .i64 k, .slice A1 ws.length c1, .slice A2 raw.length c2, .slice A3 it.length c3] 48)).alloc (.cells #[.int .i64 k', .slice B1 ws'.length d1, .slice B2 raw'.length d2, .slice B3 it'.length d3] 48)).cell? ⟨w.heap.size, 1, none⟩ = some (.slice A1 ws.length c1) := blk_cell HX0.out 1
    have z2 : ((w.alloc (.cells #[.int .i64 k, .slice A1 ws.length c1, .slice A2 raw.length c2, .slice A3 it.length c3] 48)).alloc (.cells #[.int .i64 k', .slice B1 ws'.length d1, .slice B2 raw'.length d2, .slice B3 it'.length d3] 48)).cell? ⟨w.heap.size, 2, none⟩ = some (.slice A2 raw.length c2) := blk_cell HX0.out 2
    have z3 : ((w.alloc (.cells #[.int .i64 k, .slice A1 ws.length c1, .slice A2 raw.length c2, .slice A3 it.length c3] 48)).alloc (.cells #[.int .i64 k', .slice B1 ws'.length d1, .slice B2 raw'.length d2, .slice B3 it'.length d3] 48)).cell? ⟨w.heap.size, 3, none⟩ = some (.slice A3 it.length c3) := blk_cell HX0.out 3
    have y0 : ((w.alloc (.cells #[.int .i64 k, .slice A1 ws.length c1, .slice A2 raw.length c2, .slice A3 it.length c3] 48)).alloc (.cells #[.int .i64 k', .slice B1 ws'.length d1, .slice B2 raw'.length d2, .slice B3 it'.length d3] 48)).cell? ⟨w.heap.size + 1, 0, none⟩ = some (.int .i64 k') := blk_cell HX1.out 0
    have y1 : ((w.alloc (.cells #[.int .i64 k, .slice A1 ws.length c1, .slice A2 raw.length c2, .slice A3 it.length c3] 48)).alloc (.cells #[.int .i64 k', .slice B1 ws'.length d1, .slice B2 raw'.length d2, .slice B3 it'.length d3] 48)).cell? ⟨w.heap.size + 1, 1, none⟩ = some (.slice B1 ws'.length d1) := blk_cell HX1.out 1
    have y2 : ((w.alloc (.cells #[.int .i64 k, .slice A1 ws.length c1, .slice A2 raw.length c2, .slice A3 it.length c3] 48)).alloc (.cells #[.int .i64 k', .slice B1 ws'.length d1, .slice B2 raw'.length d2, .slice B3 it'.length d3] 48)).cell? ⟨w.heap.size + 1, 2, none⟩ = some (.slice B2 raw'.length d2) := blk_cell HX1.out 2
    have y3 : ((w.alloc (.cells #[.int .i64 k, .slice A1 ws.length c1, .slice A2 raw.length c2, .slice A3 it.length c3] 48)).alloc (.cells #[.int .i64 k', .slice B1 ws'.length d1, .slice B2 raw'.length d2, .slice B3 it'.length d3] 48)).cell? ⟨w.heap.size + 1, 3, none⟩ = some (.slice B3 it'.length d3) := blk_cell HX1.out 3
    go_enter Try.func127, Try.ntmps127
    go_wp2_with fail
    go_ret
    exact ⟨by rw [HE.out]; rfl, HB0.out⟩

end Go.Proofs.Ytigdchfjcfljjaa
