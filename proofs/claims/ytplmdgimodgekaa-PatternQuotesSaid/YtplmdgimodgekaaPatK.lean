/- Patterns: Quote, the law PatternQuotes. -/
import Derived.Test.YtplmdgimodgekaaPatI
import Derived.Test.YtplmdgimodgekaaBldB
namespace Go.Proofs.Ytplmdgimodgekaa
open Go.RowKit Go.Proofs.YtplmdgimodgekaaW.PrintWords Go.Proofs.YtplmdgimodgekaaW.PrintLast Go.Proofs.YtplmdgimodgekaaW.PrintMore
attribute [local go_sem] max2_int min2_int max_two min_two max_three min_three max_four min_four   -- for this text's walks alone
set_option linter.unusedVariables false
set_option linter.unusedSimpArgs false

theorem freeze_size (w : World) (a : Addr) (n : Nat) : (w.freeze a n).heap.size = w.heap.size := by
  unfold World.freeze
  split
  · rfl
  · exact Array.size_modify
theorem conv_bytes0 (l : List Int) (hl : isB l) (hm : l.length ≤ 9223372036854775807) (W : World) : ∃ c wb, (convert 9 37 (.string (strOfNums l))).run Try.prog W = .ok (.slice (some ⟨W.heap.size, 0, none⟩) l.length c) wb ∧
    l.length ≤ c ∧ (∀ i, i < l.length → wb.cell? ⟨W.heap.size, i, none⟩ = some (.int .u8 (l.getD i 0))) ∧ Below W.heap.size W wb ∧ W.heap.size < wb.heap.size := by
  have hs : (strOfNums l).size = l.length := by simp [strOfNums, ByteArray.size]
  have hr := bytes_reads W 5 (strOfNums l) (by rw [hs]; exact hm)
  rw [hs, bytesOf_strOf hl] at hr
  refine ⟨grownCap W l.length 0 5, Lib.bytesWorld W 5 (strOfNums l), ?_, grownCap_ge _ _ _ _, fun i hi => ?_, bytes_below (Below.refl _ _) (Nat.le_refl _) _ _, ?_⟩
  · rw [← hs]
    exact Lib.run_convert_string_bytes W 9 37 5 (strOfNums l) Try.underlying9 Try.underlying37 Try.underlying5
  · obtain ⟨ad, e, hc⟩ := rd_at hr i hi
    injection e with e
    subst e
    rw [Addr.add_lit, Nat.zero_add] at hc
    exact hc
  · unfold Lib.bytesWorld
    rw [freeze_size]
    show W.heap.size < (W.heap.push _).size
    rw [Array.size_push]
    omega
def spcL : List Int := [42, 63, 91, 93, 124, 92, 33, 45]
theorem spcL_isB : isB spcL := fun x hx => by simp [spcL] at hx; omega
theorem spc_idx (c : Int) : decide (0 ≤ idxI spcL c) = spcB c := by
  have h : spcB c = true ↔ c ∈ spcL := by
    unfold spcB spcL
    simp only [Bool.or_eq_true, beq_iff_eq, List.mem_cons, List.not_mem_nil, or_false]
    omega
  have hg := idxI_ge spcL c
  rw [Bool.eq_iff_iff, decide_eq_true_iff, h]
  constructor
  · intro h0
    by_cases e : c ∈ spcL
    · exact e
    · have := idxI_none spcL c e
      omega
  · intro e
    have := idxI_mem e
    omega
theorem quoP_len (l : List Int) : (quoP l).length ≤ 2 * l.length := by
  induction l with
  | nil => simp [quoP]
  | cons x l ih =>
    rw [quoP, List.flatMap_cons, List.length_append, ← quoP, List.length_cons]
    split
    · simp; omega
    · simp; omega
theorem quoP_isB {L : List Int} (h : isB L) : isB (quoP L) := fun x hx => by
  obtain ⟨y, hy, hx⟩ := List.mem_flatMap.1 hx
  have := h y hy
  split at hx
  · simp at hx; omega
  · simp at hx; omega
set_option maxHeartbeats 8000000 in
set_option maxRecDepth 100000 in
theorem pQuote_calls (w : World) (L : List Int) (hib : isB L) (hL : L.length ≤ 10000) :
    Calls Try.prog 20 #[.string (strOfNums L)] w fun e w' => e = .returned (.string (strOfNums (quoP L))) ∧ Below w.heap.size w w' := by
  obtain ⟨N, hN⟩ : ∃ N, L.length = N := ⟨_, rfl⟩
  have HIB := Aside0.mk hib
  have HN := Aside0.mk hN
  have HB0 := Aside0.mk (below_alloc (Below.refl w.heap.size w) (.cells #[.pointer none, .slice none 0 0] 117))
  have HF0 := Aside0.mk (fun R => BRow.fresh w R)
  rw [hN] at hL
  clear hib
  go_enter Try.func20, Try.ntmps20
  go_upto_region 2 with fail
  obtain ⟨b, hb⟩ : ∃ b, w.heap.size = b := ⟨_, rfl⟩
  have HBW := Aside0.mk hb
  rw [hb] at HF0 ⊢
  obtain ⟨wx, hwx⟩ : ∃ wx, w.alloc (.cells #[.pointer none, .slice none 0 0] 117) = wx := ⟨_, rfl⟩
  have HSX := Aside0.mk (show wx.heap.size = b + 1 by rw [← hwx, ← hb]; exact Array.size_push _)
  rw [hwx] at HF0 HB0 ⊢
  obtain ⟨c0, wb, hcv, hc0, hcell, hbb, hsz⟩ := conv_bytes0 L HIB.out (by omega) wx
  rw [hN, HSX.out] at hcv
  rw [hN] at hc0
  rw [HSX.out] at hcell hsz
  have HCV := Aside0.mk hcv
  obtain ⟨R, hR⟩ : ∃ R, wb.heap.size = R := ⟨_, rfl⟩
  have HRB := Aside0.mk hR
  have HF1 := Aside0.mk ((HF0.out R).below hbb)
  have HBB := Aside0.mk (below_step HB0.out hbb)
  have HCE := Aside0.mk hcell
  rw [hR] at hsz
  clear hb hwx hcell hbb hR hN
  go_upto_block 0 with (fail)
  clear hcv
  go_cut [] (fun wx => ∃ p v, Aside0 (BRow wx b R p v (quoP L)) ∧ Aside0 (Kp (fun k => k = b ∨ R ≤ k) wb wx))
  case first =>
    go_wp2_with fail
    go_loopg [9] (N + 1) (fun kq v9 w' => ∃ (i : Nat) (p v : Value), v9 = .int .i64 (i : Int) ∧ i ≤ N ∧ N + 1 ≤ i + kq ∧ Aside0 (BRow w' b R p v (quoP (L.take i))) ∧ Aside0 (Kp (fun k => k = b ∨ R ≤ k) wb w'))
    case atStart => exact ⟨0, _, _, rfl, Nat.zero_le _, by omega, HF1, Aside0.mk (Kp.refl _ _)⟩
    case round =>
      obtain ⟨i, p, v, rfl, hi, hik, HR, HK⟩ := hrel
      by_cases c1 : i < N
      · have g1 : decide ((i : Int) < (N : Int)) = true := decide_eq_true (by omega)
        have g1' : decide (i < N) = true := decide_eq_true c1
        have hil : i < L.length := by rw [HN.out]; exact c1
        have hce := HCE.out i hil
        have y0 : wr.cell? ⟨b + 1, i, none⟩ = some (.int .u8 (L.getD i 0)) := by
          simp only [World.cell?] at hce ⊢
          rw [HK.out.block (b + 1) (by rw [HRB.out]; exact hsz) (fun h => by rcases h with h | h <;> omega)]
          exact hce
        obtain ⟨c, hc⟩ : ∃ c, L.getD i 0 = c := ⟨_, rfl⟩
        have HCB := Aside0.mk (show 0 ≤ c ∧ c ≤ 255 by rw [← hc]; exact HIB.out.getD _)
        rw [hc] at y0
        have HQ := Aside0.mk (show quoP (L.take (i + 1)) = quoP (L.take i) ++ (if spcB c = true then [92, c] else [c]) by
          rw [List.take_add_one, List.getElem?_eq_getElem hil, show L[i] = c by rw [← hc, List.getD_eq_getElem?_getD, List.getElem?_eq_getElem hil]; rfl]
          exact quoP_snoc _ _)
        have HQL := Aside0.mk (show (quoP (L.take i)).length ≤ 20000 by
          have h2 := quoP_len (L.take i)
          rw [List.length_take] at h2
          omega)
        obtain ⟨bs, hbs⟩ : ∃ b, spcB c = b := ⟨_, rfl⟩
        have HIX := Aside0.mk (show decide (0 ≤ idxI spcL c) = bs by rw [spc_idx, hbs])
        have HLI := Aside0.mk (idxI_u8 spcL c spcL_isB HCB.out)
        rw [hbs] at HQ
        obtain ⟨ix, hix⟩ : ∃ x, idxI spcL c = x := ⟨_, rfl⟩
        rw [hix] at HIX HLI
        have hlo : b ≤ R := by omega
        have HRW := Aside0.mk (show R ≤ wr.heap.size by rw [← HRB.out]; exact HK.out.size)
        clear hc hce hbs hix hil
        go_wp2_with fail
        refine (Try.strings_IndexByte _ c _).mono ?_
        rintro e w1 ⟨rfl, rfl⟩
        rw [show Lib.indexByte (⟨#[42, 63, 91, 93, 124, 92, 33, 45]⟩ : ByteArray).data.toList c.toNat.toUInt8 = ix from HLI.out]
        have gx := HIX.out
        cases bs with
        | true =>
          have gx' : 0 ≤ ix := by simpa using gx
          rw [if_pos rfl] at HQ
          go_wp2_with fail
          with_reducible refine (WriteByte_calls _ b R p v _ 92 HR.out hlo HRW.out (by have := HQL.out; omega)).mono ?_
          rintro e w2 ⟨rfl, v2, hr2, hk2⟩
          have HR2 := Aside0.mk hr2
          have HK2 := Aside0.mk (HK.out.trans hk2 (fun k hk => .inl (hk.elim .inl (fun h => .inr (HR.out.own.ge h)))))
          clear hr2 hk2 gx gx'
          go_wp2_with fail
          with_reducible refine (WriteByte_calls _ b R _ v2 _ c HR2.out hlo (by rw [← HRB.out]; exact HK2.out.size) (by have := HQL.out; rw [List.length_append]; simp; omega)).mono ?_
          rintro e w3 ⟨rfl, v3, hr3, hk3⟩
          have HR3 := Aside0.mk (show BRow w3 b R (.pointer (some ⟨b, 0, none⟩)) v3 (quoP (L.take (i + 1))) by rw [HQ.out]; have := hr3; rw [List.append_assoc] at this; exact this)
          have HK3 := Aside0.mk (HK2.out.trans hk3 (fun k hk => .inl (hk.elim .inl (fun h => .inr (HR2.out.own.ge h)))))
          clear hr3 hk3
          have wi : IntKind.i64.wrap ((i : Int) + 1) = (i : Int) + 1 := by rw [IntKind.wrap_i64]; omega
          go_wp2_with fail
          go_roundg (gk - 1)
          case measure => omega
          case rel => exact ⟨i + 1, _, v3, by go_num, c1, by omega, HR3, HK3⟩
        | false =>
          have gx' : ¬ 0 ≤ ix := by simpa using gx
          rw [if_neg (by decide)] at HQ
          go_wp2_with fail
          with_reducible refine (WriteByte_calls _ b R p v _ c HR.out hlo HRW.out (by have := HQL.out; omega)).mono ?_
          rintro e w3 ⟨rfl, v3, hr3, hk3⟩
          have HR3 := Aside0.mk (show BRow w3 b R (.pointer (some ⟨b, 0, none⟩)) v3 (quoP (L.take (i + 1))) by rw [HQ.out]; exact hr3)
          have HK3 := Aside0.mk (HK.out.trans hk3 (fun k hk => .inl (hk.elim .inl (fun h => .inr (HR.out.own.ge h)))))
          clear hr3 hk3 gx gx'
          have wi : IntKind.i64.wrap ((i : Int) + 1) = (i : Int) + 1 := by rw [IntKind.wrap_i64]; omega
          go_wp2_with fail
          go_roundg (gk - 1)
          case measure => omega
          case rel => exact ⟨i + 1, _, v3, by go_num, c1, by omega, HR3, HK3⟩
      · have g1 : decide ((i : Int) < (N : Int)) = false := decide_eq_false (by omega)
        have g1' : decide (i < N) = false := decide_eq_false c1
        rw [show L.take i = L from List.take_of_length_le (by rw [HN.out]; omega)] at HR
        go_wp2_with fail
        go_meet
        exact ⟨p, v, HR, HK⟩
  case rest =>
  obtain ⟨p, v, HR, HK⟩ := hcut
  have HQB := Aside0.mk (show isB (quoP L) from fun x hx => by
    obtain ⟨y, hy, hx⟩ := List.mem_flatMap.1 hx
    have := HIB.out y hy
    split at hx
    · simp at hx; omega
    · simp at hx; omega)
  go_wp2_with fail
  with_reducible refine (HR.out.string (by omega) HQB.out (by have := blk_lt HR.out.blk; omega)).mono ?_
  rintro e w9 ⟨rfl, hb⟩
  have HB9 := Aside0.mk (Kp.from (Kp.from HBB.out HK.out (fun k hk => by have := HBW.out; rcases hk with h | h <;> omega)) (Kp.of_belowN hb) (fun k hk => by have := HBW.out; omega))
  clear hb
  go_wp2_with fail
  go_ret
  exact ⟨rfl, HB9.out⟩
set_option maxHeartbeats 8000000 in
set_option maxRecDepth 100000 in
theorem rQuote_calls (w : World) (L : List Int) (hib : isB L) (hL : L.length ≤ 10000) :
    Calls Try.prog 21 #[.string (strOfNums L)] w fun e w' => e = .returned (.string (strOfNums (quoP L))) ∧ Below w.heap.size w w' := by
  obtain ⟨N, hN⟩ : ∃ N, L.length = N := ⟨_, rfl⟩
  have HIB := Aside0.mk hib
  have HN := Aside0.mk hN
  have hsz : (strOfNums L).size = N := by rw [strOf_size]; exact hN
  rw [hN] at hL
  clear hib hN
  go_enter Try.func21, Try.ntmps21
  go_upto_block 0 with (fail)
  go_cut [3] (fun v3 wx => v3 = .string (strOfNums (quoP L)) ∧ w = wx)
  case first =>
    go_wp2_with fail
    go_loopg [3, 4] (N + 1) (fun kq v3 v4 w' => ∃ (i : Nat), v4 = .int .i64 (i : Int) ∧ v3 = .string (strOfNums (quoP (L.take i))) ∧ i ≤ N ∧ N + 1 ≤ i + kq ∧ w = w')
    case atStart => exact ⟨0, rfl, rfl, Nat.zero_le _, by omega, rfl⟩
    case round =>
      obtain ⟨i, rfl, rfl, hi, hik, rfl⟩ := hrel
      by_cases c1 : i < N
      · have g1 : decide ((i : Int) < (N : Int)) = true := decide_eq_true (by omega)
        have g1' : decide (i < N) = true := decide_eq_true c1
        have hil : i < L.length := by rw [HN.out]; exact c1
        have hix := fun (W : World) => str_at L HIB.out i (i : Int) rfl hil W
        obtain ⟨c, hc⟩ : ∃ c, L.getD i 0 = c := ⟨_, rfl⟩
        rw [hc] at hix
        have hLi : L[i] = c := by rw [← hc, List.getD_eq_getElem?_getD, List.getElem?_eq_getElem hil]; rfl
        have HQ := Aside0.mk (show quoP (L.take (i + 1)) = quoP (L.take i) ++ (if spcB c = true then [92, c] else [c]) by
          rw [List.take_add_one, List.getElem?_eq_getElem hil, hLi]
          exact quoP_snoc _ _)
        have hsl : ∀ W : World, (Instr.slice 9 (.string (strOfNums L)) (some (.int .i64 (i : Int))) (some (.int .i64 ((i : Int) + 1))) none).run Try.prog W = .ok (.string (strOfNums [c])) W := fun W => by
          rw [run_slice_string W 9 (strOfNums L) .i64 .i64 (i : Int) ((i : Int) + 1) Try.underlying9 (by omega) (by omega) (by rw [hsz]; omega), strOf_extract, show ((i : Int) + 1).toNat = i + 1 by omega, Int.toNat_natCast, List.take_add_one, List.getElem?_eq_getElem hil, hLi, List.drop_left' (by rw [List.length_take]; omega)]
          rfl
        have hql : (strOfNums (quoP (L.take i))).size ≤ 20000 := by
          rw [strOf_size]
          have := quoP_len (L.take i)
          rw [List.length_take] at this
          omega
        obtain ⟨Q, hQ⟩ : ∃ Q, strOfNums (quoP (L.take i)) = Q := ⟨_, rfl⟩
        have HQQ := Aside0.mk hQ
        rw [hQ] at hql ⊢
        obtain ⟨X, hX⟩ : ∃ X, strOfNums [c] = X := ⟨_, rfl⟩
        have HXX := Aside0.mk hX
        have hxl : X.size = 1 := by rw [← hX, strOf_size]; rfl
        rw [hX] at hsl
        obtain ⟨bs, hbs⟩ : ∃ b, spcB c = b := ⟨_, rfl⟩
        have HBS := Aside0.mk hbs
        rw [hbs] at HQ
        have wi : IntKind.i64.wrap ((i : Int) + 1) = (i : Int) + 1 := by rw [IntKind.wrap_i64]; omega
        have k1 : (9223372036854775807 < Q.size + 1) = False := by simp; omega
        have k2 : (9223372036854775807 < Q.size + 1 + X.size) = False := by simp; omega
        have k3 : (9223372036854775807 < Q.size + X.size) = False := by simp; omega
        clear hc hQ hX hbs hLi hil
        go_upto_region 6 with fail
        go_cut [5, 44] (fun v5 v44 wx => v5 = .int .u8 c ∧ v44 = .bool bs ∧ w = wx)
        case first =>
          by_cases d0 : c = 42
          · have g0 : (c == 42) = true := by simpa using d0
            have G0 := Aside0.mk g0
            clear d0
            go_wp2_with fail
            go_meet
            exact ⟨rfl, by rw [← HBS.out, spcB]; simp [G0.out], rfl⟩
          · have g0 : (c == 42) = false := by simpa using d0
            have G0 := Aside0.mk g0
            clear d0
            by_cases d1 : c = 63
            · have g1 : (c == 63) = true := by simpa using d1
              have G1 := Aside0.mk g1
              clear d1
              go_wp2_with fail
              go_meet
              exact ⟨rfl, by rw [← HBS.out, spcB]; simp [G0.out, G1.out], rfl⟩
            · have g1 : (c == 63) = false := by simpa using d1
              have G1 := Aside0.mk g1
              clear d1
              by_cases d2 : c = 91
              · have g2 : (c == 91) = true := by simpa using d2
                have G2 := Aside0.mk g2
                clear d2
                go_wp2_with fail
                go_meet
                exact ⟨rfl, by rw [← HBS.out, spcB]; simp [G0.out, G1.out, G2.out], rfl⟩
              · have g2 : (c == 91) = false := by simpa using d2
                have G2 := Aside0.mk g2
                clear d2
                by_cases d3 : c = 93
                · have g3 : (c == 93) = true := by simpa using d3
                  have G3 := Aside0.mk g3
                  clear d3
                  go_wp2_with fail
                  go_meet
                  exact ⟨rfl, by rw [← HBS.out, spcB]; simp [G0.out, G1.out, G2.out, G3.out], rfl⟩
                · have g3 : (c == 93) = false := by simpa using d3
                  have G3 := Aside0.mk g3
                  clear d3
                  by_cases d4 : c = 124
                  · have g4 : (c == 124) = true := by simpa using d4
                    have G4 := Aside0.mk g4
                    clear d4
                    go_wp2_with fail
                    go_meet
                    exact ⟨rfl, by rw [← HBS.out, spcB]; simp [G0.out, G1.out, G2.out, G3.out, G4.out], rfl⟩
                  · have g4 : (c == 124) = false := by simpa using d4
                    have G4 := Aside0.mk g4
                    clear d4
                    by_cases d5 : c = 33
                    · have g5 : (c == 33) = true := by simpa using d5
                      have G5 := Aside0.mk g5
                      clear d5
                      go_wp2_with fail
                      go_meet
                      exact ⟨rfl, by rw [← HBS.out, spcB]; simp [G0.out, G1.out, G2.out, G3.out, G4.out, G5.out], rfl⟩
                    · have g5 : (c == 33) = false := by simpa using d5
                      have G5 := Aside0.mk g5
                      clear d5
                      by_cases d6 : c = 45
                      · have g6 : (c == 45) = true := by simpa using d6
                        have G6 := Aside0.mk g6
                        clear d6
                        go_wp2_with fail
                        go_meet
                        exact ⟨rfl, by rw [← HBS.out, spcB]; simp [G0.out, G1.out, G2.out, G3.out, G4.out, G5.out, G6.out], rfl⟩
                      · have g6 : (c == 45) = false := by simpa using d6
                        have G6 := Aside0.mk g6
                        clear d6
                        by_cases d7 : c = 92
                        · have g7 : (c == 92) = true := by simpa using d7
                          have G7 := Aside0.mk g7
                          clear d7
                          go_wp2_with fail
                          go_meet
                          exact ⟨rfl, by rw [← HBS.out, spcB]; simp [G0.out, G1.out, G2.out, G3.out, G4.out, G5.out, G6.out, G7.out], rfl⟩
                        · have g7 : (c == 92) = false := by simpa using d7
                          have G7 := Aside0.mk g7
                          clear d7
                          go_wp2_with fail
                          go_meet
                          exact ⟨rfl, by rw [← HBS.out, spcB]; simp [G0.out, G1.out, G2.out, G3.out, G4.out, G5.out, G6.out, G7.out], rfl⟩
        case rest =>
        obtain ⟨rfl, rfl, rfl⟩ := hcut
        cases bs with
        | true =>
          rw [if_pos rfl] at HQ
          go_wp2_with fail
          go_roundg (gk - 1)
          case measure => omega
          case rel => exact ⟨i + 1, by go_num, by rw [HQ.out, ← HQQ.out, ← HXX.out, show (⟨#[92]⟩ : ByteArray) = strOfNums [92] from rfl, strOf_append, strOf_append, List.append_assoc]; rfl, c1, by omega, rfl⟩
        | false =>
          rw [if_neg (by decide)] at HQ
          go_wp2_with fail
          go_roundg (gk - 1)
          case measure => omega
          case rel => exact ⟨i + 1, by go_num, by rw [HQ.out, ← HQQ.out, ← HXX.out, strOf_append], c1, by omega, rfl⟩
      · have g1 : decide ((i : Int) < (N : Int)) = false := decide_eq_false (by omega)
        have g1' : decide (i < N) = false := decide_eq_false c1
        have HT := Aside0.mk (show L.take i = L from List.take_of_length_le (by rw [HN.out]; omega))
        go_wp2_with fail
        go_meet
        exact ⟨by rw [HT.out], rfl⟩
  case rest =>
  obtain ⟨rfl, rfl⟩ := hcut
  go_wp2_with fail
  go_ret
  exact ⟨rfl, Below.refl _ _⟩
end Go.Proofs.Ytplmdgimodgekaa
