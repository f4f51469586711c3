/- Headers read: contracts of the two Decodes. -/
import Derived.Test.YtdleajnecohacaaHeadW
import Derived.Test.YtdleajnecohacaaCut
namespace Go.Proofs.Ytdleajnecohacaa
open Go.RowKit Go.Proofs.YtdleajnecohacaaW.PrintWords Go.Proofs.YtdleajnecohacaaW.PrintLast Go.Proofs.YtdleajnecohacaaW.PrintMore
attribute [local go_sem] max2_int min2_int max_two min_two max_three min_three max_four min_four   -- for this text's walks alone
set_option linter.unusedVariables false
set_option linter.unusedSimpArgs false

/-- Is there a header? -/
def hdOk (l : List Int) : Bool := decide (64 ≤ l.length) && hR (getN l 24 8) (getN l 32 8) && decide (encZ magicL [getN l 8 8, getN l 16 8, getN l 24 8, getN l 32 8, getN l 40 8] = l.take 64)
abbrev hd0 : Value := .agg #[.int .u64 0, .int .u64 0, .int .i64 0, .int .i64 0, .int .u64 0]
abbrev hdA (l : List Int) : Value := .agg #[.int .u64 (getN l 8 8), .int .u64 (getN l 16 8), .int .i64 (getN l 24 8), .int .i64 (getN l 32 8), .int .u64 (getN l 40 8)]
def hdV (l : List Int) : Value := if hdOk l = true then .tuple #[hdA l, .bool true] else .tuple #[hd0, .bool false]
theorem hdV_no {l : List Int} (h : hdOk l = false) : hdV l = .tuple #[hd0, .bool false] := by rw [hdV, h]; rfl
theorem set5 {W : World} {b T : Nat} {a0 a1 a2 a3 a4 : Value} (H : W.heap[b]? = some (.cells #[a0, a1, a2, a3, a4] T (0, 0))) (x0 x1 x2 x3 x4 : Value) :
    (((((W.setCell ⟨b, 0, none⟩ x0).setCell ⟨b, 1, none⟩ x1).setCell ⟨b, 2, none⟩ x2).setCell ⟨b, 3, none⟩ x3).setCell ⟨b, 4, none⟩ x4).heap[b]? = some (.cells #[x0, x1, x2, x3, x4] T (0, 0)) := by
  have h0 := blk_set H 0 x0
  have h1 := blk_set h0 1 x1
  have h2 := blk_set h1 2 x2
  have h3 := blk_set h2 3 x3
  have h4 := blk_set h3 4 x4
  simpa using h4
theorem below_set {w W : World} (h : Below w.heap.size w W) (p : Addr) (hg : w.heap.size ≤ p.block) (v : Value) : Below w.heap.size w (W.setCell p v) := h.setCell hg v
theorem below_set5 {w W : World} (h : Below w.heap.size w W) (b : Nat) (hg : w.heap.size ≤ b) (x0 x1 x2 x3 x4 : Value) : Below w.heap.size w (((((W.setCell ⟨b, 0, none⟩ x0).setCell ⟨b, 1, none⟩ x1).setCell ⟨b, 2, none⟩ x2).setCell ⟨b, 3, none⟩ x3).setCell ⟨b, 4, none⟩ x4) :=
  below_set (below_set (below_set (below_set (below_set h _ hg _) _ hg _) _ hg _) _ hg _) _ hg _
theorem Reader_Num_ok (w : World) (g : Nat) (v : Value) (l : List Int) (a x : Int) (h : RrV w g v a false) (hr : Rd w .u8 v l) (hb : isB l) (h0 : 0 ≤ a) (h1 : a + 8 ≤ l.length) (hx : getN l a 8 = x) :
    Calls Try.prog 76 #[.pointer (some ⟨g, 0, none⟩), .int .i64 8] w fun e w' => e = .returned (.int .u64 x) ∧ RrV w' g v (a + 8) false ∧ Kp (fun k => k = g) w w' := by
  have hok : rOk false l.length a 8 = true := by simp only [rOk, Bool.not_false, Bool.true_and]; exact fits_ok ⟨by omega, h0, by omega, by omega⟩
  refine (Reader_Num_calls 8 w g v l a false h hr hb).mono ?_
  rintro e w' ⟨rfl, hn, hk⟩
  rw [hok] at hn ⊢
  exact ⟨by rw [← hx]; rfl, hn, hk⟩

set_option maxHeartbeats 8000000 in
set_option maxRecDepth 100000 in
theorem head_Decode_calls (v : Value) (l : List Int) (w : World) (T : Nat) (hT : CrcT w T) (hr : Rd w .u8 v l) (hb : isB l) (hlen : l.length ≤ 100000) :
    Calls Try.prog 28 #[.pointer (some ⟨T, 0, none⟩), v] w fun e w' => e = .returned (hdV l) ∧ Below w.heap.size w w' := by
  have HT := Aside0.mk hT
  have HV := Aside0.mk hr
  have HIB := Aside0.mk hb
  obtain ⟨A, c, ev, hc, hm, hrd⟩ := hr.mid
  clear hr hb hrd hT
  have HZ0 := Aside0.mk (blk_new w (.cells #[.int .u64 0, .int .u64 0, .int .i64 0, .int .i64 0, .int .u64 0] 27))
  by_cases c1 : l.length < 64
  · have HNO := Aside0.mk (hdV_no (l := l) (by simp [hdOk]; omega))
    subst ev
    have H0 := HZ0.out
    have r0 := blk_cell H0 0
    have r1 := blk_cell H0 1
    have r2 := blk_cell H0 2
    have r3 := blk_cell H0 3
    have r4 := blk_cell H0 4
    have f0 := blk_frozen H0 0
    have f1 := blk_frozen H0 1
    have f2 := blk_frozen H0 2
    have f3 := blk_frozen H0 3
    have f4 := blk_frozen H0 4

    clear H0
    go_enter Try.func28, Try.ntmps28
    go_wp2_with fail
    first
    | exact bodyPost_ret (v := .tuple #[hd0, .bool false]) (by simp [results, Try.results28, go_sem]) rfl ⟨by rw [HNO.out], below_alloc (Below.refl _ _) _⟩
    | exact bodyPost_ret (v := .tuple #[hd0, .bool false]) (by simp [results, Try.results28, go_sem, r0, r1, r2, r3, r4]) rfl ⟨by rw [HNO.out], below_set5 (below_alloc (Below.refl _ _) _) _ (Nat.le_refl _) _ _ _ _ _⟩
  · have hlo : 64 ≤ l.length := by omega
    clear c1
    have HN := Aside0.mk (show hdOk l = (hR (getN l 24 8) (getN l 32 8) && decide (encZ magicL [getN l 8 8, getN l 16 8, getN l 24 8, getN l 32 8, getN l 40 8] = l.take 64)) by simp [hdOk, hlo])
    have hg0 := getN_bound l HIB.out 8 8
    obtain ⟨id, e0⟩ : ∃ x, getN l 8 8 = x := ⟨_, rfl⟩
    have hg1 := getN_bound l HIB.out 16 8
    obtain ⟨key, e1⟩ : ∃ x, getN l 16 8 = x := ⟨_, rfl⟩
    have hg2 := getN_bound l HIB.out 24 8
    obtain ⟨data, e2⟩ : ∃ x, getN l 24 8 = x := ⟨_, rfl⟩
    have hg3 := getN_bound l HIB.out 32 8
    obtain ⟨fields, e3⟩ : ∃ x, getN l 32 8 = x := ⟨_, rfl⟩
    have hg4 := getN_bound l HIB.out 40 8
    obtain ⟨made, e4⟩ : ∃ x, getN l 40 8 = x := ⟨_, rfl⟩

    have HA := Aside0.mk (show hdA l = .agg #[.int .u64 id, .int .u64 key, .int .i64 data, .int .i64 fields, .int .u64 made] by rw [hdA, e0, e1, e2, e3, e4])
    rw [e0, e1, e2, e3, e4] at HN
    rw [e0] at hg0
    obtain ⟨id0, id1⟩ := hg0
    have E0 := Aside0.mk e0
    rw [e1] at hg1
    obtain ⟨key0, key1⟩ := hg1
    have E1 := Aside0.mk e1
    rw [e2] at hg2
    obtain ⟨data0, data1⟩ := hg2
    have E2 := Aside0.mk e2
    rw [e3] at hg3
    obtain ⟨fields0, fields1⟩ := hg3
    have E3 := Aside0.mk e3
    rw [e4] at hg4
    obtain ⟨made0, made1⟩ := hg4
    have E4 := Aside0.mk e4

    clear e0 e1 e2 e3 e4
    obtain ⟨i5, hi5, hz5⟩ := infoU8'
    obtain ⟨v', hcut, hrd⟩ := Rd.takeTo 30 5 Try.underlying30 hi5 hz5 HV.out 64 (by omega) (by omega)
    have HRD := Aside0.mk hrd
    clear hrd hi5 hz5
    subst ev
    go_enter Try.func28, Try.ntmps28
    go_wp2_with fail
    with_reducible refine (le_Read_calls _ l 8 _ (HV.out.below (below_alloc (Below.refl _ _) _)) (by omega)).mono ?_
    rintro e w1 ⟨rfl, hb, hrr⟩
    rw [if_pos (by omega)] at hrr
    have HB1 := Aside0.mk (below_step (below_alloc (Below.refl _ _) (.cells #[.int .u64 0, .int .u64 0, .int .i64 0, .int .i64 0, .int .u64 0] 27)) hb)
    have HZ1 := Aside0.mk (blk_below HZ0.out hb)
    have HG1 := Aside0.mk (show RrV w1 (w.heap.size + 1) (.slice A l.length c) 8 false by simpa using hrr)
    clear hb hrr
    go_wp2_with fail
    with_reducible refine (Reader_Num_ok _ (w.heap.size + 1) (.slice A l.length c) l 8 id HG1.out (HV.out.below HB1.out) HIB.out (by omega) (by omega) E0.out).mono ?_
    rintro e w2 ⟨rfl, hg, hk⟩
    have HG2 := Aside0.mk (show RrV w2 (w.heap.size + 1) (.slice A l.length c) 16 false from hg)
    have HB2 := Aside0.mk (Kp.from HB1.out hk (fun k hk => by omega))
    have HZ2 := Aside0.mk (hk.blk HZ1.out (by omega))
    clear hg hk
    go_wp2_with fail
    with_reducible refine (Reader_Num_ok _ (w.heap.size + 1) (.slice A l.length c) l 16 key HG2.out (HV.out.below HB2.out) HIB.out (by omega) (by omega) E1.out).mono ?_
    rintro e w3 ⟨rfl, hg, hk⟩
    have HG3 := Aside0.mk (show RrV w3 (w.heap.size + 1) (.slice A l.length c) 24 false from hg)
    have HB3 := Aside0.mk (Kp.from HB2.out hk (fun k hk => by omega))
    have HZ3 := Aside0.mk (hk.blk HZ2.out (by omega))
    clear hg hk
    go_wp2_with fail
    with_reducible refine (Reader_Num_ok _ (w.heap.size + 1) (.slice A l.length c) l 24 data HG3.out (HV.out.below HB3.out) HIB.out (by omega) (by omega) E2.out).mono ?_
    rintro e w4 ⟨rfl, hg, hk⟩
    have HG4 := Aside0.mk (show RrV w4 (w.heap.size + 1) (.slice A l.length c) 32 false from hg)
    have HB4 := Aside0.mk (Kp.from HB3.out hk (fun k hk => by omega))
    have HZ4 := Aside0.mk (hk.blk HZ3.out (by omega))
    clear hg hk
    go_wp2_with fail
    with_reducible refine (Reader_Num_ok _ (w.heap.size + 1) (.slice A l.length c) l 32 fields HG4.out (HV.out.below HB4.out) HIB.out (by omega) (by omega) E3.out).mono ?_
    rintro e w5 ⟨rfl, hg, hk⟩
    have HG5 := Aside0.mk (show RrV w5 (w.heap.size + 1) (.slice A l.length c) 40 false from hg)
    have HB5 := Aside0.mk (Kp.from HB4.out hk (fun k hk => by omega))
    have HZ5 := Aside0.mk (hk.blk HZ4.out (by omega))
    clear hg hk
    go_wp2_with fail
    with_reducible refine (Reader_Num_ok _ (w.heap.size + 1) (.slice A l.length c) l 40 made HG5.out (HV.out.below HB5.out) HIB.out (by omega) (by omega) E4.out).mono ?_
    rintro e w6 ⟨rfl, hg, hk⟩
    have HG6 := Aside0.mk (show RrV w6 (w.heap.size + 1) (.slice A l.length c) 48 false from hg)
    have HB6 := Aside0.mk (Kp.from HB5.out hk (fun k hk => by omega))
    have HZ6 := Aside0.mk (hk.blk HZ5.out (by omega))
    clear hg hk

    have H0 := HZ6.out
    have r0 := blk_cell H0 0
    have r1 := blk_cell H0 1
    have r2 := blk_cell H0 2
    have r3 := blk_cell H0 3
    have r4 := blk_cell H0 4
    have f0 := blk_frozen H0 0
    have f1 := blk_frozen H0 1
    have f2 := blk_frozen H0 2
    have f3 := blk_frozen H0 3
    have f4 := blk_frozen H0 4

    clear H0
    by_cases c2 : 256 < data
    · have HNO := Aside0.mk (hdV_no (l := l) (by rw [HN.out]; simp [hR]; omega))
      go_wp2_with fail
      refine bodyPost_ret (v := .tuple #[hd0, .bool false]) (by simp [results, Try.results28, go_sem, r0, r1, r2, r3, r4]) rfl ⟨by rw [HNO.out], ?_⟩
      exact below_set5 HB6.out _ (Nat.le_refl _) _ _ _ _ _

    · by_cases c3 : 256 < fields
      · have HNO := Aside0.mk (hdV_no (l := l) (by rw [HN.out]; simp [hR]; omega))
        go_wp2_with fail
        refine bodyPost_ret (v := .tuple #[hd0, .bool false]) (by simp [results, Try.results28, go_sem, r0, r1, r2, r3, r4]) rfl ⟨by rw [HNO.out], ?_⟩
        exact below_set5 HB6.out _ (Nat.le_refl _) _ _ _ _ _

      · have d1 : data ≤ 256 := by omega
        have f1' : fields ≤ 256 := by omega
        clear c2 c3
        cases hh : hR data fields with
        | false =>
          have HNO := Aside0.mk (hdV_no (l := l) (by rw [HN.out, hh]; rfl))
          have HH := Aside0.mk hh
          clear hh
          go_wp2_with fail
          with_reducible refine (head_Encode_no id key data fields made _ _ HH.out).mono ?_
          rintro e w7 ⟨rfl, hb⟩
          have HB7 := Aside0.mk (below_step (below_alloc HB6.out (.cells #[.int .u64 id, .int .u64 key, .int .i64 data, .int .i64 fields, .int .u64 made] 27)) hb)
          have H0 := blk_below (blk_alloc HZ6.out (.cells #[.int .u64 id, .int .u64 key, .int .i64 data, .int .i64 fields, .int .u64 made] 27)) hb
          clear hb r0 r1 r2 r3 r4 f0 f1 f2 f3 f4
          have r0 := blk_cell H0 0
          have r1 := blk_cell H0 1
          have r2 := blk_cell H0 2
          have r3 := blk_cell H0 3
          have r4 := blk_cell H0 4
          have f0 := blk_frozen H0 0
          have f1 := blk_frozen H0 1
          have f2 := blk_frozen H0 2
          have f3 := blk_frozen H0 3
          have f4 := blk_frozen H0 4

          clear H0
          go_wp2_with fail
          go_quiet (fail)
          go_wp2_with fail
          refine bodyPost_ret (v := .tuple #[hd0, .bool false]) (by simp [results, Try.results28, go_sem, r0, r1, r2, r3, r4]) rfl ⟨by rw [HNO.out], ?_⟩
          exact below_set5 (pw_below_drewN HB7.out _) _ (Nat.le_refl _) _ _ _ _ _
        | true =>
          have HH := Aside0.mk hh
          rw [hh, Bool.true_and] at HN
          clear hh
          have HA6 := Aside0.mk (blk_new w6 (.cells #[.int .u64 id, .int .u64 key, .int .i64 data, .int .i64 fields, .int .u64 made] 27))
          go_wp2_with fail
          with_reducible refine (head_Encode_yes id key data fields made _ T (HT.out.below (below_alloc HB6.out (.cells #[.int .u64 id, .int .u64 key, .int .i64 data, .int .i64 fields, .int .u64 made] 27))) HH.out id0 id1 key0 key1 data0 d1 fields0 f1' made0 made1).mono ?_
          rintro e w7 ⟨v7, rfl, ho, hb⟩
          have HB7 := Aside0.mk (below_step (below_alloc HB6.out (.cells #[.int .u64 id, .int .u64 key, .int .i64 data, .int .i64 fields, .int .u64 made] 27)) hb)
          have H0 := blk_below (blk_alloc HZ6.out (.cells #[.int .u64 id, .int .u64 key, .int .i64 data, .int .i64 fields, .int .u64 made] 27)) hb
          have H2 := blk_below HA6.out hb
          clear r0 r1 r2 r3 r4 f0 f1 f2 f3 f4
          have r0 := blk_cell H0 0
          have r1 := blk_cell H0 1
          have r2 := blk_cell H0 2
          have r3 := blk_cell H0 3
          have r4 := blk_cell H0 4
          have f0 := blk_frozen H0 0
          have f1 := blk_frozen H0 1
          have f2 := blk_frozen H0 2
          have f3 := blk_frozen H0 3
          have f4 := blk_frozen H0 4

          have q0 := blk_cell H2 0
          have q1 := blk_cell H2 1
          have q2 := blk_cell H2 2
          have q3 := blk_cell H2 3
          have q4 := blk_cell H2 4

          obtain ⟨A7, c7, e7⟩ := own_slice ho
          rw [show (encZ magicL [id, key, data, fields, made]).length = 64 by simp [encZ, encC_len, magicL]] at e7
          obtain ⟨A8, c8, e8, _, _, hr8⟩ := (Own.rd ho).mid
          obtain ⟨A9, c9, e9, _, _, hr9⟩ := (HRD.out _ (HV.out.below HB7.out)).mid
          have hc7 : ∀ n, (convert 30 9 v7).run Try.prog (w7.drewN n) = .ok (.string (strOfNums (encZ magicL [id, key, data, fields, made]))) (w7.drewN n) := fun n => by rw [e8]; exact string_of_reads (w := w7.drewN n) Try.underlying30 Try.underlying5 Try.underlying9 (hr8.below (pw_below_drewN (Below.refl _ _) n))
          have hc9 : ∀ n, (convert 30 9 v').run Try.prog (w7.drewN n) = .ok (.string (strOfNums (l.take 64))) (w7.drewN n) := fun n => by rw [e9]; exact string_of_reads (w := w7.drewN n) Try.underlying30 Try.underlying5 Try.underlying9 (hr9.below (pw_below_drewN (Below.refl _ _) n))
          have hs := same_iff (encZ_isB magic_isB [id, key, data, fields, made]) (HIB.out.take 64)
          clear ho hb H0 H2 hr8 hr9 e8 e9
          obtain ⟨s1, hs1⟩ : ∃ s, strOfNums (encZ magicL [id, key, data, fields, made]) = s := ⟨_, rfl⟩
          obtain ⟨s2, hs2⟩ : ∃ s, strOfNums (l.take 64) = s := ⟨_, rfl⟩
          rw [hs1] at hc7 hs
          rw [hs2] at hc9 hs
          clear hs1 hs2
          subst e7
          cases hq : decide (encZ magicL [id, key, data, fields, made] = l.take 64) with
          | false =>
            rw [hq] at hs HN
            have HNO := Aside0.mk (hdV_no HN.out)
            clear hq
            go_wp2_with fail
            go_quiet (fail)
            go_wp2_with fail
            refine bodyPost_ret (v := .tuple #[hd0, .bool false]) (by simp [results, Try.results28, go_sem, r0, r1, r2, r3, r4]) rfl ⟨by rw [HNO.out], ?_⟩
            exact below_set5 (pw_below_drewN HB7.out _) _ (Nat.le_refl _) _ _ _ _ _
          | true =>
            rw [hq] at hs HN
            have HYES := Aside0.mk (show hdV l = .tuple #[.agg #[.int .u64 id, .int .u64 key, .int .i64 data, .int .i64 fields, .int .u64 made], .bool true] by rw [hdV, HN.out, HA.out]; rfl)
            clear hq
            go_wp2_with fail
            go_quiet (fail)
            go_wp2_with fail
            refine bodyPost_ret (v := .tuple #[.agg #[.int .u64 id, .int .u64 key, .int .i64 data, .int .i64 fields, .int .u64 made], .bool true]) (by simp [results, Try.results28, go_sem, r0, r1, r2, r3, r4]) rfl ⟨by rw [HYES.out], ?_⟩
            exact below_set5 (pw_below_drewN HB7.out _) _ (Nat.le_refl _) _ _ _ _ _

theorem fill5 (g : Nat → Int) : fillL g 5 5 = [g 0, g 1, g 2, g 3, g 4] := by simp [fillL, List.range_succ]
set_option maxHeartbeats 8000000 in
set_option maxRecDepth 100000 in
theorem ref_hDecode_calls (v : Value) (l : List Int) (w : World) (hr : Rd w .u8 v l) (hb : isB l) (hlen : l.length ≤ 100000) :
    Calls Try.prog 29 #[v] w fun e w' => e = .returned (hdV l) ∧ Below w.heap.size w w' := by
  have HV := Aside0.mk hr
  have HIB := Aside0.mk hb
  obtain ⟨A, c, ev, hc, hm, hrd⟩ := hr.mid
  clear hr hb hrd
  have HB0 := Aside0.mk (show Below w.heap.size w (((w.alloc (.cells #[.int .u64 0, .int .u64 0, .int .i64 0, .int .i64 0, .int .u64 0] 24)).alloc (.cells #[.int .u64 0, .int .u64 0, .int .i64 0, .int .i64 0, .int .u64 0] 24)).alloc (.cells #[.int .u64 0, .int .u64 0, .int .u64 0, .int .u64 0, .int .u64 0] 105)) from below_alloc (below_alloc (below_alloc (Below.refl _ _) _) _) _)
  have HZ0 := Aside0.mk (show (((w.alloc (.cells #[.int .u64 0, .int .u64 0, .int .i64 0, .int .i64 0, .int .u64 0] 24)).alloc (.cells #[.int .u64 0, .int .u64 0, .int .i64 0, .int .i64 0, .int .u64 0] 24)).alloc (.cells #[.int .u64 0, .int .u64 0, .int .u64 0, .int .u64 0, .int .u64 0] 105)).heap[w.heap.size]? = some (.cells #[.int .u64 0, .int .u64 0, .int .i64 0, .int .i64 0, .int .u64 0] 24 (0, 0)) from blk_alloc (blk_alloc (blk_new _ _) _) _)
  have HY0 := Aside0.mk (show (((w.alloc (.cells #[.int .u64 0, .int .u64 0, .int .i64 0, .int .i64 0, .int .u64 0] 24)).alloc (.cells #[.int .u64 0, .int .u64 0, .int .i64 0, .int .i64 0, .int .u64 0] 24)).alloc (.cells #[.int .u64 0, .int .u64 0, .int .u64 0, .int .u64 0, .int .u64 0] 105)).heap[w.heap.size + 1]? = some (.cells #[.int .u64 0, .int .u64 0, .int .i64 0, .int .i64 0, .int .u64 0] 24 (0, 0)) by have := blk_alloc (blk_new (w.alloc (.cells #[.int .u64 0, .int .u64 0, .int .i64 0, .int .i64 0, .int .u64 0] 24)) (.cells #[.int .u64 0, .int .u64 0, .int .i64 0, .int .i64 0, .int .u64 0] 24)) (.cells #[.int .u64 0, .int .u64 0, .int .u64 0, .int .u64 0, .int .u64 0] 105); simpa using this)
  have HR0 := Aside0.mk (show (((w.alloc (.cells #[.int .u64 0, .int .u64 0, .int .i64 0, .int .i64 0, .int .u64 0] 24)).alloc (.cells #[.int .u64 0, .int .u64 0, .int .i64 0, .int .i64 0, .int .u64 0] 24)).alloc (.cells #[.int .u64 0, .int .u64 0, .int .u64 0, .int .u64 0, .int .u64 0] 105)).heap[w.heap.size + 2]? = some (.cells (nums .u64 (fillL (fun i => getN l (8 + 8 * i) 8) 5 0)).toArray 105 (0, 0)) by have := blk_new ((w.alloc (.cells #[.int .u64 0, .int .u64 0, .int .i64 0, .int .i64 0, .int .u64 0] 24)).alloc (.cells #[.int .u64 0, .int .u64 0, .int .i64 0, .int .i64 0, .int .u64 0] 24)) (.cells #[.int .u64 0, .int .u64 0, .int .u64 0, .int .u64 0, .int .u64 0] 105); simpa [fillL, nums, List.replicate] using this)
  subst ev
  go_enter Try.func29, Try.ntmps29
  go_wp2_with fail
  go_loopw [6, 7, 8] (fun v6 v7 v8 w' => ∃ k : Nat, k ≤ 5 ∧ v6 = .int .i64 k ∧ Aside0 (0 < k → 8 + 8 * k ≤ l.length) ∧ Aside0 (Below w.heap.size w w') ∧ Aside0 (w'.heap[w.heap.size]? = some (.cells #[.int .u64 0, .int .u64 0, .int .i64 0, .int .i64 0, .int .u64 0] 24 (0, 0))) ∧ Aside0 (w'.heap[w.heap.size + 1]? = some (.cells #[.int .u64 0, .int .u64 0, .int .i64 0, .int .i64 0, .int .u64 0] 24 (0, 0))) ∧ Aside0 (w'.heap[w.heap.size + 2]? = some (.cells (nums .u64 (fillL (fun i => getN l (8 + 8 * i) 8) 5 k)).toArray 105 (0, 0)))) (fun v6 _ _ _ => 5 - (intOf v6).toNat)
  case atStart => exact ⟨0, by omega, rfl, ⟨fun h => by omega⟩, HB0, HZ0, HY0, HR0⟩
  case round =>
    obtain ⟨k, hk, rfl, HK, HB, HZ, HY, HR⟩ := hrel
    by_cases c1 : k < 5
    · have hnb := getN_bound l HIB.out (8 + 8 * (k : Int)) 8
      obtain ⟨x, hx⟩ : ∃ x, getN l (8 + 8 * (k : Int)) 8 = x := ⟨_, rfl⟩
      rw [hx] at hnb
      obtain ⟨x0, x1⟩ := hnb
      have HX := Aside0.mk hx
      clear hx
      go_wp2_with fail
      with_reducible refine (ref_Get_calls _ l (8 + 8 * (k : Int)) 8 _ (HV.out.below HB.out) HIB.out).mono ?_
      rintro e w1 ⟨rfl, hb1⟩
      have HB1 := Aside0.mk (below_step HB.out hb1)
      have HZ1 := Aside0.mk (blk_below HZ.out hb1)
      have HY1 := Aside0.mk (blk_below HY.out hb1)
      have HR1 := Aside0.mk (blk_below HR.out hb1)
      clear hb1
      rw [HX.out]
      by_cases c2 : 16 + 8 * k ≤ l.length
      · have hf : fitsB l.length (8 + 8 * (k : Int)) 8 = true := fits_ok ⟨by omega, by omega, by omega, by omega⟩
        rw [hf]
        have hfr := blk_frozen HR1.out k
        have hce := nums_cell HR1.out k (by rw [fillL_len _ 5 k hk]; omega)
        have HS := Aside0.mk (show (w1.setCell ⟨w.heap.size + 2, k, none⟩ (.int .u64 x)).heap[w.heap.size + 2]? = some (.cells (nums .u64 (fillL (fun i => getN l (8 + 8 * i) 8) 5 (k + 1))).toArray 105 (0, 0)) by
          rw [blk_set HR1.out k, nums_set, fillL_set _ 5 k c1 HX.out])
        clear hf
        go_wp2_with fail
        go_roundw
        case rel => exact ⟨k + 1, by omega, by go_num, ⟨fun _ => by omega⟩, ⟨below_set HB1.out _ (by show w.heap.size ≤ w.heap.size + 2; omega) _⟩, ⟨blk_far HZ1.out (by show w.heap.size ≠ w.heap.size + 2; omega) _⟩, ⟨blk_far HY1.out (by show w.heap.size + 1 ≠ w.heap.size + 2; omega) _⟩, HS⟩
        case measure => simp [intOf]; omega
      · have hf : fitsB l.length (8 + 8 * (k : Int)) 8 = false := fits_no (fun h => by omega)
        have HNO := Aside0.mk (hdV_no (l := l) (by simp [hdOk]; omega))
        rw [hf]
        have H0 := HZ1.out
        have r0 := blk_cell H0 0
        have r1 := blk_cell H0 1
        have r2 := blk_cell H0 2
        have r3 := blk_cell H0 3
        have r4 := blk_cell H0 4
        have f0 := blk_frozen H0 0
        have f1 := blk_frozen H0 1
        have f2 := blk_frozen H0 2
        have f3 := blk_frozen H0 3
        have f4 := blk_frozen H0 4

        clear H0 hf
        go_wp2_with fail
        refine bodyPost_ret (v := .tuple #[hd0, .bool false]) (by simp [results, Try.results29, go_sem, r0, r1, r2, r3, r4]) rfl ⟨by rw [HNO.out], ?_⟩
        exact below_set5 HB1.out _ (Nat.le_refl _) _ _ _ _ _

    · obtain rfl : k = 5 := by omega
      have hl48 : 48 ≤ l.length := by have := HK.out (by omega); omega
      have hg0 := getN_bound l HIB.out 8 8
      obtain ⟨id, e0⟩ : ∃ x, getN l 8 8 = x := ⟨_, rfl⟩
      have hg1 := getN_bound l HIB.out 16 8
      obtain ⟨key, e1⟩ : ∃ x, getN l 16 8 = x := ⟨_, rfl⟩
      have hg2 := getN_bound l HIB.out 24 8
      obtain ⟨data, e2⟩ : ∃ x, getN l 24 8 = x := ⟨_, rfl⟩
      have hg3 := getN_bound l HIB.out 32 8
      obtain ⟨fields, e3⟩ : ∃ x, getN l 32 8 = x := ⟨_, rfl⟩
      have hg4 := getN_bound l HIB.out 40 8
      obtain ⟨made, e4⟩ : ∃ x, getN l 40 8 = x := ⟨_, rfl⟩

      have HA := Aside0.mk (show hdA l = .agg #[.int .u64 id, .int .u64 key, .int .i64 data, .int .i64 fields, .int .u64 made] by rw [hdA, e0, e1, e2, e3, e4])
      have HN := Aside0.mk (show 64 ≤ l.length → hdOk l = (hR data fields && decide (encZ magicL [id, key, data, fields, made] = l.take 64)) by intro h; rw [← e0, ← e1, ← e2, ← e3, ← e4]; simp [hdOk, h])
      have hN2 : hR data fields = false → hdOk l = false := by intro h; rw [← e2, ← e3] at h; simp [hdOk, h]
      have HR5 := HR.out
      rw [fill5] at HR5
      simp only [nums, List.map_cons, List.map_nil] at HR5
      have HR6 : wr.heap[w.heap.size + 2]? = some (.cells #[.int .u64 id, .int .u64 key, .int .u64 data, .int .u64 fields, .int .u64 made] 105 (0, 0)) := by
        rw [← e0, ← e1, ← e2, ← e3, ← e4]; simpa using HR5
      have p0 := blk_cell HR6 0
      have p1 := blk_cell HR6 1
      have p2 := blk_cell HR6 2
      have p3 := blk_cell HR6 3
      have p4 := blk_cell HR6 4

      rw [e0] at hg0
      obtain ⟨id0, id1⟩ := hg0
      rw [e1] at hg1
      obtain ⟨key0, key1⟩ := hg1
      rw [e2] at hg2
      obtain ⟨data0, data1⟩ := hg2
      rw [e3] at hg3
      obtain ⟨fields0, fields1⟩ := hg3
      rw [e4] at hg4
      obtain ⟨made0, made1⟩ := hg4

      have H0 := HZ.out
      have r0 := blk_cell H0 0
      have r1 := blk_cell H0 1
      have r2 := blk_cell H0 2
      have r3 := blk_cell H0 3
      have r4 := blk_cell H0 4
      have f0 := blk_frozen H0 0
      have f1 := blk_frozen H0 1
      have f2 := blk_frozen H0 2
      have f3 := blk_frozen H0 3
      have f4 := blk_frozen H0 4

      clear H0 HR5 HR6 e0 e1 e2 e3 e4 c1
      by_cases c2 : 256 < data
      · have HNO := Aside0.mk (hdV_no (l := l) (hN2 (by simp [hR]; omega)))
        clear hN2
        go_wp2_with fail
        refine bodyPost_ret (v := .tuple #[hd0, .bool false]) (by simp [results, Try.results29, go_sem, r0, r1, r2, r3, r4]) rfl ⟨by rw [HNO.out], ?_⟩
        exact below_set5 HB.out _ (Nat.le_refl _) _ _ _ _ _

      by_cases c3 : 256 < fields
      · have HNO := Aside0.mk (hdV_no (l := l) (hN2 (by simp [hR]; omega)))
        clear hN2
        go_wp2_with fail
        refine bodyPost_ret (v := .tuple #[hd0, .bool false]) (by simp [results, Try.results29, go_sem, r0, r1, r2, r3, r4]) rfl ⟨by rw [HNO.out], ?_⟩
        exact below_set5 HB.out _ (Nat.le_refl _) _ _ _ _ _

      by_cases c4 : l.length < 64
      · have HNO := Aside0.mk (hdV_no (l := l) (by simp [hdOk]; omega))
        clear hN2
        go_wp2_with fail
        refine bodyPost_ret (v := .tuple #[hd0, .bool false]) (by simp [results, Try.results29, go_sem, r0, r1, r2, r3, r4]) rfl ⟨by rw [HNO.out], ?_⟩
        exact below_set5 HB.out _ (Nat.le_refl _) _ _ _ _ _

      have d1 : data ≤ 256 := by omega
      have f1' : fields ≤ 256 := by omega
      have hlo : 64 ≤ l.length := by omega
      have HN1 := Aside0.mk (HN.out hlo)
      clear c2 c3 c4 HN
      obtain ⟨i5, hi5, hz5⟩ := infoU8'
      obtain ⟨v', hcut, hrd⟩ := Rd.takeTo 30 5 Try.underlying30 hi5 hz5 HV.out 64 (by omega) (by omega)
      have HRD := Aside0.mk (show ∀ w1 : World, Rd w1 .u8 (.slice A l.length c) l → Rd w1 .u8 v' (l.take 64) from hrd)
      clear hrd hi5 hz5
      have HY1 := HY.out
      have y0 := blk_cell HY1 0
      have y1 := blk_cell HY1 1
      have y2 := blk_cell HY1 2
      have y3 := blk_cell HY1 3
      have y4 := blk_cell HY1 4
      have z0 := blk_frozen HY1 0
      have z1 := blk_frozen HY1 1
      have z2 := blk_frozen HY1 2
      have z3 := blk_frozen HY1 3
      have z4 := blk_frozen HY1 4

      have HB5 := Aside0.mk (show Below w.heap.size w (((((wr.setCell ⟨w.heap.size + 1, 0, none⟩ (.int .u64 id)).setCell ⟨w.heap.size + 1, 1, none⟩ (.int .u64 key)).setCell ⟨w.heap.size + 1, 2, none⟩ (.int .i64 data)).setCell ⟨w.heap.size + 1, 3, none⟩ (.int .i64 fields)).setCell ⟨w.heap.size + 1, 4, none⟩ (.int .u64 made)) from below_set5 HB.out _ (Nat.le_succ _) _ _ _ _ _)
      have HY5 := Aside0.mk (show (((((wr.setCell ⟨w.heap.size + 1, 0, none⟩ (.int .u64 id)).setCell ⟨w.heap.size + 1, 1, none⟩ (.int .u64 key)).setCell ⟨w.heap.size + 1, 2, none⟩ (.int .i64 data)).setCell ⟨w.heap.size + 1, 3, none⟩ (.int .i64 fields)).setCell ⟨w.heap.size + 1, 4, none⟩ (.int .u64 made)).heap[w.heap.size + 1]? = some (.cells #[.int .u64 id, .int .u64 key, .int .i64 data, .int .i64 fields, .int .u64 made] 24 (0, 0)) from set5 HY1 _ _ _ _ _)
      have HZ5 := Aside0.mk (show (((((wr.setCell ⟨w.heap.size + 1, 0, none⟩ (.int .u64 id)).setCell ⟨w.heap.size + 1, 1, none⟩ (.int .u64 key)).setCell ⟨w.heap.size + 1, 2, none⟩ (.int .i64 data)).setCell ⟨w.heap.size + 1, 3, none⟩ (.int .i64 fields)).setCell ⟨w.heap.size + 1, 4, none⟩ (.int .u64 made)).heap[w.heap.size]? = some (.cells #[.int .u64 0, .int .u64 0, .int .i64 0, .int .i64 0, .int .u64 0] 24 (0, 0)) from blk_far (blk_far (blk_far (blk_far (blk_far HZ.out (by simp) _) (by simp) _) (by simp) _) (by simp) _) (by simp) _)
      clear HY1
      clear r0 r1 r2 r3 r4 f0 f1 f2 f3 f4
      cases hh : hR data fields with
      | false =>
        have HNO := Aside0.mk (hdV_no (l := l) (hN2 hh))
        have HH := Aside0.mk hh
        clear hh hN2
        go_wp2_with fail
        clear y0 y1 y2 y3 y4 z0 z1 z2 z3 z4 p0 p1 p2 p3 p4
        obtain ⟨wx, hwx⟩ : ∃ wx : World, ((((wr.setCell ⟨w.heap.size + 1, 0, none⟩ (.int .u64 id)).setCell ⟨w.heap.size + 1, 1, none⟩ (.int .u64 key)).setCell ⟨w.heap.size + 1, 2, none⟩ (.int .i64 data)).setCell ⟨w.heap.size + 1, 3, none⟩ (.int .i64 fields)).setCell ⟨w.heap.size + 1, 4, none⟩ (.int .u64 made) = wx := ⟨_, rfl⟩
        rw [hwx] at HB5 HY5 HZ5 ⊢
        clear hwx
        have c0 : (wx).cell? ⟨w.heap.size + 1, 0, none⟩ = some (.int .u64 id) := blk_cell HY5.out 0
        have c1 : (wx).cell? ⟨w.heap.size + 1, 1, none⟩ = some (.int .u64 key) := blk_cell HY5.out 1
        have c2 : (wx).cell? ⟨w.heap.size + 1, 2, none⟩ = some (.int .i64 data) := blk_cell HY5.out 2
        have c3 : (wx).cell? ⟨w.heap.size + 1, 3, none⟩ = some (.int .i64 fields) := blk_cell HY5.out 3
        have c4 : (wx).cell? ⟨w.heap.size + 1, 4, none⟩ = some (.int .u64 made) := blk_cell HY5.out 4
        refine start_ (n := 11) (S := fun w' => w'.cell? ⟨w.heap.size + 1, 0, none⟩ = some (.int .u64 id) ∧ w'.cell? ⟨w.heap.size + 1, 1, none⟩ = some (.int .u64 key) ∧ w'.cell? ⟨w.heap.size + 1, 2, none⟩ = some (.int .i64 data) ∧ w'.cell? ⟨w.heap.size + 1, 3, none⟩ = some (.int .i64 fields) ∧ w'.cell? ⟨w.heap.size + 1, 4, none⟩ = some (.int .u64 made)) (ds := []) #[false, false, false, false, false, false, false, false, false, false, false] (by kernel_rfl) rfl rfl ⟨c0, c1, c2, c3, c4⟩ (fun hHeld => ?_)
        refine take_ (i := 0) (N := some 54) (v := ?_) (a' := ?_) #[true, false, false, false, false, false, false, false, false, false, false] rfl rfl (by kernel_rfl) (fun _ _ _ h => h) (Or.inl ⟨by rfl, ?_⟩) hHeld ?_ ?_
        rotate_left
        · rintro w' ⟨s0, s1, s2, s3, s4⟩
          go_simp
          with_reducible rfl
        rotate_left
        · simp only [Act.put, List.setIfInBounds_toArray, List.set_cons_zero, List.set_cons_succ, i64_w, i32_w]
          rfl
        refine one_ (i := 1) (N := some 55) #[true, true, false, false, false, false, false, false, false, false, false] rfl rfl (by kernel_rfl) (by decide) (fun K hK => ?_)
        refine goes_ Try.func21 (by kernel_rfl) rfl #[.agg #[.int .u64 id, .int .u64 key, .int .i64 data, .int .i64 fields, .int .u64 made]] (by rfl) rfl rfl (by (try simp only [List.map_toArray, List.map_cons, List.map_nil]); first | done | rfl) ?_
        with_reducible refine (ref_hRight_calls id key data fields made _).mono ?_
        rintro e w2 ⟨rfl, hb2⟩
        refine ⟨_, rfl, ?_⟩
        rw [HH.out]
        refine hK.out _ _ ⟨(pw_cell_below hb2 hHeld.1), (pw_cell_below hb2 hHeld.2.1), (pw_cell_below hb2 hHeld.2.2.1), (pw_cell_below hb2 hHeld.2.2.2.1), (pw_cell_below hb2 hHeld.2.2.2.2)⟩ (fun hHeld => ?_)
        clear hK K
        refine norm_ (a' := ?_) ?_ ?_
        rotate_left
        · show Act.put _ (some 55) _ = _
          simp only [Act.put, List.setIfInBounds_toArray, List.set_cons_zero, List.set_cons_succ, i64_w, i32_w]
          rfl
        refine pure_ (i := 2) (N := some 56) (v := ?_) (a' := ?_) #[true, true, true, false, false, false, false, false, false, false, false] rfl rfl (by kernel_rfl) (fun _ _ _ h => h) (Or.inl ⟨by rfl, ?_⟩) ?_ ?_
        rotate_left
        · intro w'
          go_simp
          with_reducible rfl
        rotate_left
        · simp only [Act.put, List.setIfInBounds_toArray, List.set_cons_zero, List.set_cons_succ, i64_w, i32_w]
          rfl
        refine pure_ (i := 3) (N := some 57) (v := ?_) (a' := ?_) #[true, true, true, true, false, false, false, false, false, false, false] rfl rfl (by kernel_rfl) (fun _ _ _ h => h) (Or.inl ⟨by rfl, ?_⟩) ?_ ?_
        rotate_left
        · intro w'
          go_simp
          with_reducible rfl
        rotate_left
        · simp only [Act.put, List.setIfInBounds_toArray, List.set_cons_zero, List.set_cons_succ, i64_w, i32_w]
          rfl
        refine pure_ (i := 4) (N := some 58) (v := undef) (a' := ?_) #[true, true, true, true, true, false, false, false, false, false, false] rfl rfl (by kernel_rfl) (fun _ _ _ h => h) (Or.inr ⟨by rfl, rfl⟩) ?_ ?_
        rotate_left
        · simp only [Act.put, List.setIfInBounds_toArray, List.set_cons_zero, List.set_cons_succ, i64_w, i32_w]
          rfl
        refine pure_ (i := 5) (N := some 59) (v := undef) (a' := ?_) #[true, true, true, true, true, true, false, false, false, false, false] rfl rfl (by kernel_rfl) (fun _ _ _ h => h) (Or.inr ⟨by rfl, rfl⟩) ?_ ?_
        rotate_left
        · simp only [Act.put, List.setIfInBounds_toArray, List.set_cons_zero, List.set_cons_succ, i64_w, i32_w]
          rfl
        refine pure_ (i := 6) (N := some 60) (v := undef) (a' := ?_) #[true, true, true, true, true, true, true, false, false, false, false] rfl rfl (by kernel_rfl) (fun _ _ _ h => h) (Or.inr ⟨by rfl, rfl⟩) ?_ ?_
        rotate_left
        · simp only [Act.put, List.setIfInBounds_toArray, List.set_cons_zero, List.set_cons_succ, i64_w, i32_w]
          rfl
        refine pure_ (i := 7) (N := some 61) (v := undef) (a' := ?_) #[true, true, true, true, true, true, true, true, false, false, false] rfl rfl (by kernel_rfl) (fun _ _ _ h => h) (Or.inr ⟨by rfl, rfl⟩) ?_ ?_
        rotate_left
        · simp only [Act.put, List.setIfInBounds_toArray, List.set_cons_zero, List.set_cons_succ, i64_w, i32_w]
          rfl
        refine pure_ (i := 8) (N := some 62) (v := undef) (a' := ?_) #[true, true, true, true, true, true, true, true, true, false, false] rfl rfl (by kernel_rfl) (fun _ _ _ h => h) (Or.inr ⟨by rfl, rfl⟩) ?_ ?_
        rotate_left
        · simp only [Act.put, List.setIfInBounds_toArray, List.set_cons_zero, List.set_cons_succ, i64_w, i32_w]
          rfl
        refine pure_ (i := 9) (N := some 63) (v := undef) (a' := ?_) #[true, true, true, true, true, true, true, true, true, true, false] rfl rfl (by kernel_rfl) (fun _ _ _ h => h) (Or.inr ⟨by rfl, rfl⟩) ?_ ?_
        rotate_left
        · simp only [Act.put, List.setIfInBounds_toArray, List.set_cons_zero, List.set_cons_succ, i64_w, i32_w]
          rfl
        refine pure_ (i := 10) (N := some 64) (v := ?_) (a' := ?_) #[true, true, true, true, true, true, true, true, true, true, true] rfl rfl (by kernel_rfl) (fun _ _ _ h => h) (Or.inl ⟨by rfl, ?_⟩) ?_ ?_
        rotate_left
        · intro w'
          go_simp
          with_reducible rfl
        rotate_left
        · simp only [Act.put, List.setIfInBounds_toArray, List.set_cons_zero, List.set_cons_succ, i64_w, i32_w]
          rfl
        refine done_ (by kernel_rfl) ?_
        have HB6 := Aside0.mk (below_step (below_drew HB5.out) hb2)
        have H0 := blk_below (blk_drew HZ5.out) hb2
        clear hb2 c0 c1 c2 c3 c4
        have r0 := blk_cell H0 0
        have r1 := blk_cell H0 1
        have r2 := blk_cell H0 2
        have r3 := blk_cell H0 3
        have r4 := blk_cell H0 4
        have f0 := blk_frozen H0 0
        have f1 := blk_frozen H0 1
        have f2 := blk_frozen H0 2
        have f3 := blk_frozen H0 3
        have f4 := blk_frozen H0 4

        clear H0
        go_wp2_with fail
        refine bodyPost_ret (v := .tuple #[hd0, .bool false]) (by simp [results, Try.results29, go_sem, r0, r1, r2, r3, r4]) rfl ⟨by rw [HNO.out], ?_⟩
        exact below_set5 HB6.out _ (Nat.le_refl _) _ _ _ _ _

      | true =>
        have HH := Aside0.mk hh
        have HN2 := Aside0.mk (show hdOk l = decide (encZ magicL [id, key, data, fields, made] = l.take 64) by rw [HN1.out, hh, Bool.true_and])
        clear hh hN2
        obtain ⟨b, hbq⟩ : ∃ b, decide (encZ magicL [id, key, data, fields, made] = l.take 64) = b := ⟨_, rfl⟩
        rw [hbq] at HN2
        have HBQ := Aside0.mk hbq
        clear hbq
        go_wp2_with fail
        clear y0 y1 y2 y3 y4 z0 z1 z2 z3 z4 p0 p1 p2 p3 p4
        obtain ⟨wx, hwx⟩ : ∃ wx : World, ((((wr.setCell ⟨w.heap.size + 1, 0, none⟩ (.int .u64 id)).setCell ⟨w.heap.size + 1, 1, none⟩ (.int .u64 key)).setCell ⟨w.heap.size + 1, 2, none⟩ (.int .i64 data)).setCell ⟨w.heap.size + 1, 3, none⟩ (.int .i64 fields)).setCell ⟨w.heap.size + 1, 4, none⟩ (.int .u64 made) = wx := ⟨_, rfl⟩
        rw [hwx] at HB5 HY5 HZ5 ⊢
        clear hwx
        have c0 : (wx).cell? ⟨w.heap.size + 1, 0, none⟩ = some (.int .u64 id) := blk_cell HY5.out 0
        have c1 : (wx).cell? ⟨w.heap.size + 1, 1, none⟩ = some (.int .u64 key) := blk_cell HY5.out 1
        have c2 : (wx).cell? ⟨w.heap.size + 1, 2, none⟩ = some (.int .i64 data) := blk_cell HY5.out 2
        have c3 : (wx).cell? ⟨w.heap.size + 1, 3, none⟩ = some (.int .i64 fields) := blk_cell HY5.out 3
        have c4 : (wx).cell? ⟨w.heap.size + 1, 4, none⟩ = some (.int .u64 made) := blk_cell HY5.out 4
        refine start_ (n := 11) (S := fun w' => w'.cell? ⟨w.heap.size + 1, 0, none⟩ = some (.int .u64 id) ∧ w'.cell? ⟨w.heap.size + 1, 1, none⟩ = some (.int .u64 key) ∧ w'.cell? ⟨w.heap.size + 1, 2, none⟩ = some (.int .i64 data) ∧ w'.cell? ⟨w.heap.size + 1, 3, none⟩ = some (.int .i64 fields) ∧ w'.cell? ⟨w.heap.size + 1, 4, none⟩ = some (.int .u64 made)) (ds := []) #[false, false, false, false, false, false, false, false, false, false, false] (by kernel_rfl) rfl rfl ⟨c0, c1, c2, c3, c4⟩ (fun hHeld => ?_)
        refine take_ (i := 0) (N := some 54) (v := ?_) (a' := ?_) #[true, false, false, false, false, false, false, false, false, false, false] rfl rfl (by kernel_rfl) (fun _ _ _ h => h) (Or.inl ⟨by rfl, ?_⟩) hHeld ?_ ?_
        rotate_left
        · rintro w' ⟨s0, s1, s2, s3, s4⟩
          go_simp
          with_reducible rfl
        rotate_left
        · simp only [Act.put, List.setIfInBounds_toArray, List.set_cons_zero, List.set_cons_succ, i64_w, i32_w]
          rfl
        refine one_ (i := 1) (N := some 55) #[true, true, false, false, false, false, false, false, false, false, false] rfl rfl (by kernel_rfl) (by decide) (fun K hK => ?_)
        refine goes_ Try.func21 (by kernel_rfl) rfl #[.agg #[.int .u64 id, .int .u64 key, .int .i64 data, .int .i64 fields, .int .u64 made]] (by rfl) rfl rfl (by (try simp only [List.map_toArray, List.map_cons, List.map_nil]); first | done | rfl) ?_
        with_reducible refine (ref_hRight_calls id key data fields made _).mono ?_
        rintro e w2 ⟨rfl, hb2⟩
        refine ⟨_, rfl, ?_⟩
        rw [HH.out]
        refine hK.out _ _ ⟨(pw_cell_below hb2 hHeld.1), (pw_cell_below hb2 hHeld.2.1), (pw_cell_below hb2 hHeld.2.2.1), (pw_cell_below hb2 hHeld.2.2.2.1), (pw_cell_below hb2 hHeld.2.2.2.2)⟩ (fun hHeld => ?_)
        clear hK K
        refine norm_ (a' := ?_) ?_ ?_
        rotate_left
        · show Act.put _ (some 55) _ = _
          simp only [Act.put, List.setIfInBounds_toArray, List.set_cons_zero, List.set_cons_succ, i64_w, i32_w]
          rfl
        refine pure_ (i := 2) (N := some 56) (v := ?_) (a' := ?_) #[true, true, true, false, false, false, false, false, false, false, false] rfl rfl (by kernel_rfl) (fun _ _ _ h => h) (Or.inl ⟨by rfl, ?_⟩) ?_ ?_
        rotate_left
        · intro w'
          go_simp
          with_reducible rfl
        rotate_left
        · simp only [Act.put, List.setIfInBounds_toArray, List.set_cons_zero, List.set_cons_succ, i64_w, i32_w]
          rfl
        refine pure_ (i := 3) (N := some 57) (v := ?_) (a' := ?_) #[true, true, true, true, false, false, false, false, false, false, false] rfl rfl (by kernel_rfl) (fun _ _ _ h => h) (Or.inl ⟨by rfl, ?_⟩) ?_ ?_
        rotate_left
        · intro w'
          go_simp
          with_reducible rfl
        rotate_left
        · simp only [Act.put, List.setIfInBounds_toArray, List.set_cons_zero, List.set_cons_succ, i64_w, i32_w]
          rfl
        refine pure_ (i := 6) (N := some 60) (v := ?_) (a' := ?_) #[true, true, true, true, false, false, true, false, false, false, false] rfl rfl (by kernel_rfl) (fun _ _ _ h => h) (Or.inl ⟨by rfl, ?_⟩) ?_ ?_
        rotate_left
        · intro w'
          go_simp
          with_reducible rfl
        rotate_left
        · simp only [Act.put, List.setIfInBounds_toArray, List.set_cons_zero, List.set_cons_succ, i64_w, i32_w]
          rfl
        refine pure_ (i := 7) (N := some 61) (v := ?_) (a' := ?_) #[true, true, true, true, false, false, true, true, false, false, false] rfl rfl (by kernel_rfl) (fun _ _ _ h => h) (Or.inl ⟨by rfl, ?_⟩) ?_ ?_
        rotate_left
        · intro w'
          go_simp
          with_reducible rfl
        rotate_left
        · simp only [Act.put, List.setIfInBounds_toArray, List.set_cons_zero, List.set_cons_succ, i64_w, i32_w]
          rfl
        refine take_ (i := 4) (N := some 58) (v := ?_) (a' := ?_) #[true, true, true, true, true, false, true, true, false, false, false] rfl rfl (by kernel_rfl) (fun _ _ _ h => h) (Or.inl ⟨by rfl, ?_⟩) hHeld ?_ ?_
        rotate_left
        · rintro w' ⟨s0, s1, s2, s3, s4⟩
          go_simp
          with_reducible rfl
        rotate_left
        · simp only [Act.put, List.setIfInBounds_toArray, List.set_cons_zero, List.set_cons_succ, i64_w, i32_w]
          rfl
        refine one_ (i := 5) (N := some 59) #[true, true, true, true, true, true, true, true, false, false, false] rfl rfl (by kernel_rfl) (by decide) (fun K hK => ?_)
        refine goes_ Try.func19 (by kernel_rfl) rfl #[.agg #[.int .u64 id, .int .u64 key, .int .i64 data, .int .i64 fields, .int .u64 made]] (by rfl) rfl rfl (by (try simp only [List.map_toArray, List.map_cons, List.map_nil]); first | done | rfl) ?_
        with_reducible refine (ref_hEncode_yes id key data fields made _ HH.out id0 id1 key0 key1 data0 d1 fields0 f1' made0 made1).mono ?_
        rintro e w3 ⟨v3, rfl, ho3, hb3⟩
        refine ⟨_, rfl, ?_⟩
        refine hK.out _ _ ⟨(pw_cell_below hb3 hHeld.1), (pw_cell_below hb3 hHeld.2.1), (pw_cell_below hb3 hHeld.2.2.1), (pw_cell_below hb3 hHeld.2.2.2.1), (pw_cell_below hb3 hHeld.2.2.2.2)⟩ (fun hHeld => ?_)
        clear hK K
        refine norm_ (a' := ?_) ?_ ?_
        rotate_left
        · show Act.put _ (some 59) _ = _
          simp only [Act.put, List.setIfInBounds_toArray, List.set_cons_zero, List.set_cons_succ, i64_w, i32_w]
          rfl
        refine one_ (i := 8) (N := some 62) #[true, true, true, true, true, true, true, true, true, false, false] rfl rfl (by kernel_rfl) (by decide) (fun K hK => ?_)
        refine goes_ Try.func17 (by kernel_rfl) rfl #[v3, v'] (by rfl) rfl rfl (by (try simp only [List.map_toArray, List.map_cons, List.map_nil]); first | done | rfl) ?_
        with_reducible refine (Same_calls v3 v' (encZ magicL [id, key, data, fields, made]) (l.take 64) _ (Own.rd ho3) (HRD.out _ (HV.out.below (below_step (below_step (below_drew HB5.out) hb2) hb3))) (encZ_isB magic_isB _) (HIB.out.take 64)).mono ?_
        rintro e w4 ⟨rfl, hb4⟩
        refine ⟨_, rfl, ?_⟩
        rw [HBQ.out]
        refine hK.out _ _ ⟨(pw_cell_below hb4 hHeld.1), (pw_cell_below hb4 hHeld.2.1), (pw_cell_below hb4 hHeld.2.2.1), (pw_cell_below hb4 hHeld.2.2.2.1), (pw_cell_below hb4 hHeld.2.2.2.2)⟩ (fun hHeld => ?_)
        clear hK K
        refine norm_ (a' := ?_) ?_ ?_
        rotate_left
        · show Act.put _ (some 62) _ = _
          simp only [Act.put, List.setIfInBounds_toArray, List.set_cons_zero, List.set_cons_succ, i64_w, i32_w]
          rfl
        refine pure_ (i := 9) (N := some 63) (v := ?_) (a' := ?_) #[true, true, true, true, true, true, true, true, true, true, false] rfl rfl (by kernel_rfl) (fun _ _ _ h => h) (Or.inl ⟨by rfl, ?_⟩) ?_ ?_
        rotate_left
        · intro w'
          go_simp
          with_reducible rfl
        rotate_left
        · simp only [Act.put, List.setIfInBounds_toArray, List.set_cons_zero, List.set_cons_succ, i64_w, i32_w]
          rfl
        refine pure_ (i := 10) (N := some 64) (v := ?_) (a' := ?_) #[true, true, true, true, true, true, true, true, true, true, true] rfl rfl (by kernel_rfl) (fun _ _ _ h => h) (Or.inl ⟨by rfl, ?_⟩) ?_ ?_
        rotate_left
        · intro w'
          go_simp
          with_reducible rfl
        rotate_left
        · simp only [Act.put, List.setIfInBounds_toArray, List.set_cons_zero, List.set_cons_succ, i64_w, i32_w]
          rfl
        refine done_ (by kernel_rfl) ?_
        have hbb := below_step (below_step (below_step (below_drew (Below.refl _ wx)) hb2) hb3) hb4
        have HB6 := Aside0.mk (below_step HB5.out hbb)
        have H0 := blk_below HZ5.out hbb
        have H1 := blk_below HY5.out hbb
        clear hbb hb2 hb3 hb4 ho3 c0 c1 c2 c3 c4
        have r0 := blk_cell H0 0
        have r1 := blk_cell H0 1
        have r2 := blk_cell H0 2
        have r3 := blk_cell H0 3
        have r4 := blk_cell H0 4
        have f0 := blk_frozen H0 0
        have f1 := blk_frozen H0 1
        have f2 := blk_frozen H0 2
        have f3 := blk_frozen H0 3
        have f4 := blk_frozen H0 4

        have q0 := blk_cell H1 0
        have q1 := blk_cell H1 1
        have q2 := blk_cell H1 2
        have q3 := blk_cell H1 3
        have q4 := blk_cell H1 4

        clear H0 H1
        cases b with
        | false =>
          have HNO := Aside0.mk (hdV_no HN2.out)
          go_wp2_with fail
          refine bodyPost_ret (v := .tuple #[hd0, .bool false]) (by simp [results, Try.results29, go_sem, r0, r1, r2, r3, r4]) rfl ⟨by rw [HNO.out], ?_⟩
          exact below_set5 HB6.out _ (Nat.le_refl _) _ _ _ _ _

        | true =>
          have HYES := Aside0.mk (show hdV l = .tuple #[.agg #[.int .u64 id, .int .u64 key, .int .i64 data, .int .i64 fields, .int .u64 made], .bool true] by rw [hdV, HN2.out, HA.out]; rfl)
          go_wp2_with fail
          refine bodyPost_ret (v := .tuple #[.agg #[.int .u64 id, .int .u64 key, .int .i64 data, .int .i64 fields, .int .u64 made], .bool true]) (by simp [results, Try.results29, go_sem, r0, r1, r2, r3, r4]) rfl ⟨by rw [HYES.out], ?_⟩
          exact below_set5 HB6.out _ (Nat.le_refl _) _ _ _ _ _

end Go.Proofs.Ytdleajnecohacaa
