/- LePuts: what is put down stands one behind the other, as the reference has it. -/
import Derived.Test.YtmcgpaikmmecoaaWriter
namespace Go.Proofs.Ytmcgpaikmmecoaa
open Go.RowKit Go.Proofs.YtmcgpaikmmecoaaW.PrintWords Go.Proofs.YtmcgpaikmmecoaaW.PrintLast Go.Proofs.YtmcgpaikmmecoaaW.PrintMore
attribute [local go_sem] max2_int min2_int max_two min_two max_three min_three max_four min_four   -- for this text's walks alone
set_option linter.unusedVariables false
set_option linter.unusedSimpArgs false

/-- An act, as it reads. -/
structure ActR where
  kind : Int
  n : Int
  width : Int
  l : List Int
  b : List Int
/-- Element i of a row of acts, at the address ad. -/
structure ActAt (w : World) (ad : Addr) (i : Nat) (x : ActR) (vL vB : Value) : Prop where
  c0 : w.cell? (ad.add (i * 5)) = some (.int .i64 x.kind)
  c1 : w.cell? ⟨(ad.add (i * 5)).block, (ad.add (i * 5)).off + 1, none⟩ = some (.int .u64 x.n)
  c2 : w.cell? ⟨(ad.add (i * 5)).block, (ad.add (i * 5)).off + 2, none⟩ = some (.int .i64 x.width)
  c3 : w.cell? ⟨(ad.add (i * 5)).block, (ad.add (i * 5)).off + 3, none⟩ = some vL
  c4 : w.cell? ⟨(ad.add (i * 5)).block, (ad.add (i * 5)).off + 4, none⟩ = some vB
  rl : Rd w .u64 vL x.l
  rb : Rd w .u8 vB x.b
  kb : -9223372036854775808 ≤ x.kind ∧ x.kind ≤ 9223372036854775807
  nb : 0 ≤ x.n ∧ x.n ≤ 18446744073709551615
  wb : -9223372036854775808 ≤ x.width ∧ x.width ≤ 9223372036854775807
  lw : isW x.l
  bb : isB x.b
/-- The writer at g holds l; u is the reference's row m. -/
structure St (w W : World) (g : Nat) (v u : Value) (l m : List Int) : Prop where
  wr : WrV W g w.heap.size v l
  own : Own (Value.int .u8) W w.heap.size 5 u m
  ne : ∀ k, u.ownBlock = some k → v.ownBlock ≠ some k
  below : Below w.heap.size w W
  ge : w.heap.size ≤ g
/-- Blocks of other types stay. -/
def Fx (W W1 : World) (g : Nat) : Prop := ∀ b t cs, W.heap[b]? = some (.cells cs t (0, 0)) → t ≠ 5 → b ≠ g → W1.heap[b]? = some (.cells cs t (0, 0))
section
variable {w W W1 : World} {g : Nat} {v u : Value} {l m l' : List Int}
theorem St.fresh (h : St w W g v u l m) (hb : Below W.heap.size W W1) : St w W1 g v u l m := ⟨h.wr.below hb, h.own.below hb, h.ne, below_step h.below hb, h.ge⟩
theorem Fx.fresh (hb : Below W.heap.size W W1) : Fx W W1 g := fun b t cs h _ _ => blk_below h hb
theorem own_not {base b t : Nat} {v : Value} {l : List Int} {cs : Array Value} (h : Own (Value.int .u8) W base 5 v l) (hb : W.heap[b]? = some (.cells cs t (0, 0))) (ht : t ≠ 5) : v.ownBlock ≠ some b := h.ne hb (Ne.symm ht)
theorem St.put (h : St w W g v u l m) (hs : WrS W W1 g w.heap.size v l') : ∃ v', St w W1 g v' u l' m ∧ Fx W W1 g := by
  obtain ⟨v', hv, hk, ha⟩ := hs
  refine ⟨v', ⟨hv, hk.own h.own (fun k hk2 hh => ?_), fun k hk2 => ?_, Kp.from h.below hk (fun k hh => ?_), h.ge⟩, fun b t cs hb ht hg => hk.blk hb (fun hh => ?_)⟩
  · rcases hh with rfl | hh
    · exact h.own.ne h.wr.1 (by decide) hk2
    · exact h.ne k hk2 hh
  · rcases ha with ha | ⟨b, ha, hle⟩
    · rw [ha]; exact h.ne k hk2
    · rw [ha]; intro e; injection e with e; have := h.own.lt hk2; omega
  · rcases hh with rfl | hh
    · exact h.ge
    · exact h.wr.2.ge hh
  · rcases hh with rfl | hh
    · exact hg rfl
    · exact own_not h.wr.2 hb ht hh
theorem St.want {u1 : Value} {m' : List Int} (h : St w W g v u l m) (hO : Own (Value.int .u8) W1 w.heap.size 5 u1 m') (hg : W.grownBy W1 u.ownBlock) (ha : u1.ownBlock = u.ownBlock ∨ ∃ b, u1.ownBlock = some b ∧ W.heap.size ≤ b) : St w W1 g v u1 l m' ∧ Fx W W1 g := by
  have hk := Kp.of_grown hg
  refine ⟨⟨h.wr.kp hk (fun e => h.own.ne h.wr.1 (by decide) e) (fun k h1 h2 => h.ne k h2 h1), hO, fun k hk2 => ?_, Kp.from h.below hk (fun k hh => h.own.ge hh), h.ge⟩, fun b t cs hb ht hg2 => hk.blk hb (fun hh => own_not h.own hb ht hh)⟩
  rcases ha with ha | ⟨b, ha, hle⟩
  · exact h.ne k (by rw [← ha]; exact hk2)
  · rw [ha] at hk2; injection hk2 with hk2; subst hk2
    intro e; have := h.wr.2.lt e; omega
end
theorem words8_isB : ∀ l, isB (words8 l)
  | [] => fun x hx => by simp [words8] at hx
  | n :: r => (leB_isB n 8).app (words8_isB r)
theorem Rd.reads {w w1 : World} {k : IntKind} {A : Option Addr} {c : Nat} {xs : List Int} (h : Rd w k (.slice A xs.length c) xs) (hb : Below w.heap.size w w1) : ReadsInt w1 k A xs.length xs := by
  obtain ⟨A2, c2, e, _, hr⟩ := h
  simp only [Value.slice.injEq] at e
  obtain ⟨rfl, _, _⟩ := e
  exact hr.below hb
theorem rd_old {w : World} {k : IntKind} {u : Value} {xs : List Int} (h : Rd w k u xs) {A : Addr} {n c : Nat} (e : u = .slice (some A) n c) (hpos : 0 < xs.length) : A.block < w.heap.size := by
  obtain ⟨A2, c2, e2, _, hr⟩ := h
  rw [e] at e2
  simp only [Value.slice.injEq] at e2
  obtain ⟨rfl, _, _⟩ := e2
  obtain ⟨ad, e3, hc⟩ := hr.2.2 hpos
  simp only [Option.some.injEq] at e3
  subst e3
  have := World.block_lt_of_cell? w _ (hc 0 hpos)
  rwa [add_block] at this
set_option maxHeartbeats 40000000 in
set_option maxRecDepth 100000 in
theorem LePuts_calls (A : Option Addr) (n c : Nat) (acts : List ActR) (w : World) (hn : acts.length = n) (hm : n ≤ 9223372036854775807) (hnc : n ≤ c)
    (hA : 0 < n → ∃ ad, A = some ad ∧ ∀ i x, acts[i]? = some x → ∃ vL vB, ActAt w ad i x vL vB) :
    Calls Try.prog 7 #[.slice A n c] w fun e w' => e = .returned (.bool true) ∧ Below w.heap.size w w' := by
  have HN := Aside0.mk hn
  have HA := Aside0.mk hA
  clear hA hn
  go_enter Try.func7, Try.ntmps7
  go_wp2
  go_loopw [4, 5, 6, 7] (fun v4 v5 v6 v7 w' => ∃ (i : Nat) (v : Value) (l : List Int), i ≤ n ∧ i ≤ 40 ∧ v5 = .int .i64 i ∧ Aside0 (St w w' w.heap.size v v4 l l) ∧ Aside0 (l.length ≤ 4500 * i) ∧ Aside0 (isB l)) (fun _ v5 _ _ _ => n - (intOf v5).toNat)
  case atStart => exact ⟨0, .slice none 0 0, [], by omega, by omega, rfl, ⟨⟨⟨blk_new _ _, Own.nil _ _ _ _⟩, Own.nil _ _ _ _, fun k hk => by simp [Value.ownBlock] at hk, below_alloc (Below.refl _ _) _, Nat.le_refl _⟩⟩, ⟨by simp⟩, ⟨fun x hx => by simp at hx⟩⟩
  case round =>
    obtain ⟨i, v, l, hin, hi40, rfl, HS, HL, HIB⟩ := hrel
    by_cases c1 : i < n
    · by_cases c2 : i < 40
      · obtain ⟨ad, e, hacts⟩ := HA.out (by omega)
        cases e
        obtain ⟨x, hx⟩ : ∃ x, acts[i]? = some x := ⟨_, List.getElem?_eq_getElem (by rw [HN.out]; exact c1)⟩
        obtain ⟨vL, vB, hact⟩ := hacts i x hx
        have HACT := Aside0.mk hact
        obtain ⟨k0, n0, d0, l0, b0⟩ := x
        have hb := HS.out.below
        have q0 := pw_cell_below hb hact.c0
        have q1 := pw_cell_below hb hact.c1
        have q2 := pw_cell_below hb hact.c2
        have q3 := pw_cell_below hb hact.c3
        have q4 := pw_cell_below hb hact.c4
        simp only at q0 q1 q2
        have HRL := Aside0.mk hact.rl
        have HRB := Aside0.mk hact.rb
        obtain ⟨AL, cL, rfl, _, _⟩ := hact.rl
        obtain ⟨AB, cB, rfl, _, _⟩ := hact.rb
        simp only at q3 q4 HRL HRB
        have HACTN := Aside0.mk (show (0 ≤ n0 ∧ n0 ≤ 18446744073709551615) ∧ isW l0 ∧ isB b0 from ⟨hact.nb, hact.lw, hact.bb⟩)
        clear hx hacts hact hb
        have hu42 := Try.underlying42
        by_cases e1 : 50 < l0.length
        · go_wp2_with fail
          refine (le_awake_calls _).mono ?_
          rintro e w1 ⟨rfl, hb⟩
          have HB1 := Aside0.mk (below_step (below_alloc HS.out.below _) hb)
          clear hb
          go_wp2_with fail
          go_ret
          exact ⟨rfl, HB1.out⟩
        by_cases e2 : 300 < b0.length
        · go_wp2_with fail
          refine (le_awake_calls _).mono ?_
          rintro e w1 ⟨rfl, hb⟩
          have HB1 := Aside0.mk (below_step (below_alloc HS.out.below _) hb)
          clear hb
          go_wp2_with fail
          go_ret
          exact ⟨rfl, HB1.out⟩
        by_cases e3 : 4096 < d0
        · go_wp2_with fail
          refine (le_awake_calls _).mono ?_
          rintro e w1 ⟨rfl, hb⟩
          have HB1 := Aside0.mk (below_step (below_alloc HS.out.below _) hb)
          clear hb
          go_wp2_with fail
          go_ret
          exact ⟨rfl, HB1.out⟩
        by_cases k0e : k0 = 0
        · subst k0e
          have HS0 := Aside0.mk (HS.out.fresh (below_alloc (Below.refl _ _) (.cells #[.int .i64 0, .int .u64 n0, .int .i64 d0, .slice AL l0.length cL, .slice AB b0.length cB] 42)))
          have HA0 := Aside0.mk (show (wr.alloc (.cells #[.int .i64 0, .int .u64 n0, .int .i64 d0, .slice AL l0.length cL, .slice AB b0.length cB] 42)).heap[wr.heap.size]? = _ from blk_new _ _)
          have HGA := Aside0.mk (show wr.heap.size ≠ w.heap.size from fun e => by have := blk_lt HS.out.wr.1; omega)
          have HL1 := Aside0.mk (show l.length ≤ 180000 by have := HL.out; omega)
          
          go_wp2_with fail
          refine (Writer_Num_calls n0 d0 _ w.heap.size w.heap.size v l HS0.out.wr (by have := HS0.out.below.size; exact this) (by have := HL1.out; omega) HACTN.out.1.1 HACTN.out.1.2).mono ?_
          rintro e w2 ⟨rfl, hs⟩
          obtain ⟨v2, hs2, hf2⟩ := HS0.out.put hs
          have HS2 := Aside0.mk hs2
          have HA2 := Aside0.mk (hf2 _ _ _ HA0.out (by decide) HGA.out)
          clear hs hs2 hf2
          have r0_w2 : w2.cell? ⟨wr.heap.size, 0, none⟩ = some (.int .i64 0) := blk_cell HA2.out 0
          have r1_w2 : w2.cell? ⟨wr.heap.size, 1, none⟩ = some (.int .u64 n0) := blk_cell HA2.out 1
          have r2_w2 : w2.cell? ⟨wr.heap.size, 2, none⟩ = some (.int .i64 d0) := blk_cell HA2.out 2
          have r3_w2 : w2.cell? ⟨wr.heap.size, 3, none⟩ = some (.slice AL l0.length cL) := blk_cell HA2.out 3
          have r4_w2 : w2.cell? ⟨wr.heap.size, 4, none⟩ = some (.slice AB b0.length cB) := blk_cell HA2.out 4
          
          go_wp2_with fail
          refine (ref_Bytes_calls n0 d0 _ HACTN.out.1.1 HACTN.out.1.2).mono ?_
          rintro e w3 ⟨v3, rfl, hR3, hb3⟩
          have HS3 := Aside0.mk (HS2.out.fresh hb3)
          obtain ⟨A4, c4, w4, hrun4, hO4, hg4, hat4⟩ := app8 HS3.out.own (Rd.of_R hR3) HS3.out.below.size (by have := HL1.out; rw [leB_len]; unfold leW; omega)
          have HS4 := Aside0.mk (HS3.out.want hO4 hg4 hat4).1
          have HR4 := Aside0.mk hrun4
          clear hR3 hb3 hrun4 hO4 hg4 hat4
          obtain ⟨l2, hl2⟩ : ∃ l2, l ++ leB n0 (leW d0) = l2 := ⟨_, rfl⟩
          have HIB9 := Aside0.mk (show isB l2 by rw [← hl2]; exact HIB.out.app (leB_isB _ _))
          have HL2 := Aside0.mk (show l2.length ≤ l.length + 8 by rw [← hl2, List.length_append, leB_len]; unfold leW; omega)
          rw [hl2] at HS4 HR4
          clear hl2
          go_wp2_with (first | ((with_reducible refine gate_builtin (b := .append) (xs := #[.tmp 64, .tmp 69]) rfl ?_); at_builtin; refine app_list rfl (.tmp 64) (.tmp 69) rfl rfl rfl HR4.out ?_))
          
          go_wp2_with fail
          refine (Writer_Len_calls _ _ _ v2 (l2) HS4.out.wr).mono ?_
          rintro e w9 ⟨rfl, hb⟩
          have HS9 := Aside0.mk (HS4.out.fresh hb)
          clear hb
          have HLL9 := Aside0.mk (show (l2).length ≤ 4500 * (i + 1) by have := HL.out; have := HL2.out; omega)
          go_wp2_with fail
          first | exact ⟨⟨i + 1, v2, l2, by omega, by omega, by go_num, HS9, HLL9, HIB9⟩, by simp [intOf]; omega⟩ | (go_roundw; (case rel => exact ⟨i + 1, v2, l2, by omega, by omega, by go_num, HS9, HLL9, HIB9⟩); (case measure => simp [intOf]; omega))
        by_cases k1e : k0 = 1
        · subst k1e
          obtain ⟨wo, rfl⟩ : ∃ wo : World, wo = wr := ⟨_, rfl⟩

          have HS0 := Aside0.mk (HS.out.fresh (below_alloc (Below.refl _ _) (.cells #[.int .i64 1, .int .u64 n0, .int .i64 d0, .slice AL l0.length cL, .slice AB b0.length cB] 42)))
          have HA0 := Aside0.mk (show (wo.alloc (.cells #[.int .i64 1, .int .u64 n0, .int .i64 d0, .slice AL l0.length cL, .slice AB b0.length cB] 42)).heap[wo.heap.size]? = _ from blk_new _ _)
          have HGA := Aside0.mk (show wo.heap.size ≠ w.heap.size from fun e => by have := blk_lt HS.out.wr.1; omega)
          have HL1 := Aside0.mk (show l.length ≤ 180000 by have := HL.out; omega)

          go_wp2_with fail
          refine (Writer_Words_calls _ l0 HACTN.out.2.1 _ w.heap.size w.heap.size v l HS0.out.wr (HRL.out.below (below_step HS.out.below (below_alloc (Below.refl _ _) _))) (fun A2 n2 c2 e2 hpos => ⟨fun e => by have := rd_old HRL.out e2 hpos; omega, fun e => by have := rd_old HRL.out e2 hpos; have := HS0.out.wr.2.ge e; omega⟩) HS0.out.below.size (by have := HL1.out; omega)).mono ?_
          rintro e w2 ⟨rfl, hs⟩
          obtain ⟨v2, hs2, hf2⟩ := HS0.out.put hs
          have HS2 := Aside0.mk hs2
          have HA2 := Aside0.mk (hf2 _ _ _ HA0.out (by decide) HGA.out)
          clear hs hs2 hf2
          have r0_w2 : w2.cell? ⟨wo.heap.size, 0, none⟩ = some (.int .i64 1) := blk_cell HA2.out 0
          have r1_w2 : w2.cell? ⟨wo.heap.size, 1, none⟩ = some (.int .u64 n0) := blk_cell HA2.out 1
          have r2_w2 : w2.cell? ⟨wo.heap.size, 2, none⟩ = some (.int .i64 d0) := blk_cell HA2.out 2
          have r3_w2 : w2.cell? ⟨wo.heap.size, 3, none⟩ = some (.slice AL l0.length cL) := blk_cell HA2.out 3
          have r4_w2 : w2.cell? ⟨wo.heap.size, 4, none⟩ = some (.slice AB b0.length cB) := blk_cell HA2.out 4

          go_wp2
          go_loopw [4, 7] (fun v4 v7 w' => ∃ j : Nat, j ≤ l0.length ∧ v7 = .int .i64 j ∧ Aside0 (St w w' w.heap.size v2 v4 (l ++ words8 l0) (l ++ words8 (l0.take j))) ∧ Aside0 (w'.heap[wo.heap.size]? = some (.cells #[.int .i64 1, .int .u64 n0, .int .i64 d0, .slice AL l0.length cL, .slice AB b0.length cB] 42 (0, 0)))) (fun _ v7 _ => l0.length - (intOf v7).toNat)
          case atStart => exact ⟨0, by omega, rfl, ⟨by simpa [words8] using HS2.out⟩, HA2⟩
          case round =>
            clear r0_w2 r1_w2 r2_w2 r3_w2 r4_w2
            obtain ⟨j, hj, rfl, HSj, HAj⟩ := hrel
            have z0 : wr.cell? ⟨wo.heap.size, 0, none⟩ = some (.int .i64 1) := blk_cell HAj.out 0
            have z1 : wr.cell? ⟨wo.heap.size, 1, none⟩ = some (.int .u64 n0) := blk_cell HAj.out 1
            have z2 : wr.cell? ⟨wo.heap.size, 2, none⟩ = some (.int .i64 d0) := blk_cell HAj.out 2
            have z3 : wr.cell? ⟨wo.heap.size, 3, none⟩ = some (.slice AL l0.length cL) := blk_cell HAj.out 3
            have z4 : wr.cell? ⟨wo.heap.size, 4, none⟩ = some (.slice AB b0.length cB) := blk_cell HAj.out 4
            by_cases cj : j < l0.length
            · obtain ⟨adl, e, hcell⟩ := rd_at (HRL.out.reads HSj.out.below) j cj
              cases e
              obtain ⟨x, hx⟩ : ∃ x, l0.getD j 0 = x := ⟨_, rfl⟩
              rw [hx] at hcell
              have hx0 := HACTN.out.2.1.getD j
              rw [hx] at hx0
              have HN := Aside0.mk (show l ++ words8 (l0.take (j + 1)) = l ++ words8 (l0.take j) ++ leB x 8 by rw [take_snoc cj, hx, words8_snoc, List.append_assoc])
              have HLJ := Aside0.mk (show (l ++ words8 (l0.take j)).length ≤ 200000 by have := HL1.out; rw [List.length_append, words8_len, List.length_take]; omega)
              clear hx
              go_wp2_with fail
              refine (ref_Bytes_calls x 8 _ hx0.1 hx0.2).mono ?_
              rintro e w3 ⟨v3, rfl, hR3, hb3⟩
              have HS3 := Aside0.mk (HSj.out.fresh hb3)
              have HA3 := Aside0.mk (blk_below HAj.out hb3)
              obtain ⟨A4, c4, w4, hrun4, hO4, hg4, hat4⟩ := app8 HS3.out.own (Rd.of_R hR3) HS3.out.below.size (by have := HLJ.out; rw [leB_len]; unfold leW; omega)
              obtain ⟨hs4, hf4⟩ := HS3.out.want hO4 hg4 hat4
              have HS4 := Aside0.mk hs4
              have HA4 := Aside0.mk (hf4 _ _ _ HA3.out (by decide) (fun e => by have := HGA.out; omega))
              have HR4 := Aside0.mk hrun4
              have h8 : leW 8 = 8 := by decide
              rw [h8] at HS4 HR4
              rw [← HN.out] at HS4 HR4
              clear hR3 hb3 hrun4 hO4 hg4 hat4 hs4 hf4 h8 z0 z1 z2 z3 z4
              obtain ⟨n4, hn4⟩ : ∃ n4, (l ++ words8 (l0.take (j + 1))).length = n4 := ⟨_, rfl⟩
              rw [hn4] at HS4 HR4
              clear hn4
              go_wp2_with (first | ((with_reducible refine gate_builtin (b := .append) (xs := #[.tmp 83, .tmp 89]) rfl ?_); at_builtin; refine app_list rfl (.tmp 83) (.tmp 89) rfl rfl rfl HR4.out ?_))
              go_roundw
              case rel => exact ⟨j + 1, by omega, by go_num, HS4, HA4⟩
              case measure => simp [intOf]; omega
            · have HJ := Aside0.mk (show l0.take j = l0 from List.take_of_length_le (by omega))
              have HS5 := HSj
              rw [HJ.out] at HS5
              obtain ⟨A5, c5, e5⟩ := own_slice HS5.out.own
              subst e5
              obtain ⟨l2, hl2⟩ : ∃ l2, l ++ words8 l0 = l2 := ⟨_, rfl⟩
              have HIB9 := Aside0.mk (show isB l2 by rw [← hl2]; exact HIB.out.app (words8_isB _))
              have HL2 := Aside0.mk (show l2.length ≤ l.length + 400 by rw [← hl2, List.length_append, words8_len]; omega)
              rw [hl2] at HS5
              rw [hl2]
              clear HSj hl2
              go_wp2_with fail
              refine (Writer_Len_calls _ _ _ v2 (l2) HS5.out.wr).mono ?_
              rintro e w9 ⟨rfl, hb⟩
              have HS9 := Aside0.mk (HS5.out.fresh hb)
              clear hb
              have HLL9 := Aside0.mk (show (l2).length ≤ 4500 * (i + 1) by have := HL.out; have := HL2.out; omega)
              go_wp2_with fail
              first | exact ⟨⟨i + 1, v2, l2, by omega, by omega, by go_num, HS9, HLL9, HIB9⟩, by simp [intOf]; omega⟩ | (go_roundw; (case rel => exact ⟨i + 1, v2, l2, by omega, by omega, by go_num, HS9, HLL9, HIB9⟩); (case measure => simp [intOf]; omega))
        by_cases k2e : k0 = 2
        · subst k2e
          have HS0 := Aside0.mk (HS.out.fresh (below_alloc (Below.refl _ _) (.cells #[.int .i64 2, .int .u64 n0, .int .i64 d0, .slice AL l0.length cL, .slice AB b0.length cB] 42)))
          have HA0 := Aside0.mk (show (wr.alloc (.cells #[.int .i64 2, .int .u64 n0, .int .i64 d0, .slice AL l0.length cL, .slice AB b0.length cB] 42)).heap[wr.heap.size]? = _ from blk_new _ _)
          have HGA := Aside0.mk (show wr.heap.size ≠ w.heap.size from fun e => by have := blk_lt HS.out.wr.1; omega)
          have HL1 := Aside0.mk (show l.length ≤ 180000 by have := HL.out; omega)
          
          go_wp2_with fail
          refine (Writer_Raw_calls _ b0 _ w.heap.size w.heap.size v l HS0.out.wr (HRB.out.below (below_alloc HS.out.below _)) (by have := HS0.out.below.size; exact this) (by have := HL1.out; omega)).mono ?_
          rintro e w2 ⟨rfl, hs⟩
          obtain ⟨v2, hs2, hf2⟩ := HS0.out.put hs
          have HS2 := Aside0.mk hs2
          have HA2 := Aside0.mk (hf2 _ _ _ HA0.out (by decide) HGA.out)
          clear hs hs2 hf2
          have r0_w2 : w2.cell? ⟨wr.heap.size, 0, none⟩ = some (.int .i64 2) := blk_cell HA2.out 0
          have r1_w2 : w2.cell? ⟨wr.heap.size, 1, none⟩ = some (.int .u64 n0) := blk_cell HA2.out 1
          have r2_w2 : w2.cell? ⟨wr.heap.size, 2, none⟩ = some (.int .i64 d0) := blk_cell HA2.out 2
          have r3_w2 : w2.cell? ⟨wr.heap.size, 3, none⟩ = some (.slice AL l0.length cL) := blk_cell HA2.out 3
          have r4_w2 : w2.cell? ⟨wr.heap.size, 4, none⟩ = some (.slice AB b0.length cB) := blk_cell HA2.out 4
          
          have HS3 := HS2
          obtain ⟨A4, c4, w4, hrun4, hO4, hg4, hat4⟩ := app8 HS3.out.own (HRB.out.below HS3.out.below) HS3.out.below.size (by have := HL1.out; omega)
          have HS4 := Aside0.mk (HS3.out.want hO4 hg4 hat4).1
          have HR4 := Aside0.mk hrun4
          clear hrun4 hO4 hg4 hat4
          obtain ⟨l2, hl2⟩ : ∃ l2, l ++ b0 = l2 := ⟨_, rfl⟩
          have HIB9 := Aside0.mk (show isB l2 by rw [← hl2]; exact HIB.out.app HACTN.out.2.2)
          have HL2 := Aside0.mk (show l2.length ≤ l.length + 300 by rw [← hl2, List.length_append]; omega)
          rw [hl2] at HS4 HR4
          clear hl2
          go_wp2_with (first | ((with_reducible refine gate_builtin (b := .append) (xs := #[.tmp 96, .tmp 98]) rfl ?_); at_builtin; refine app_list rfl (.tmp 96) (.tmp 98) rfl rfl rfl HR4.out ?_))
          
          go_wp2_with fail
          refine (Writer_Len_calls _ _ _ v2 (l2) HS4.out.wr).mono ?_
          rintro e w9 ⟨rfl, hb⟩
          have HS9 := Aside0.mk (HS4.out.fresh hb)
          clear hb
          have HLL9 := Aside0.mk (show (l2).length ≤ 4500 * (i + 1) by have := HL.out; have := HL2.out; omega)
          go_wp2_with fail
          first | exact ⟨⟨i + 1, v2, l2, by omega, by omega, by go_num, HS9, HLL9, HIB9⟩, by simp [intOf]; omega⟩ | (go_roundw; (case rel => exact ⟨i + 1, v2, l2, by omega, by omega, by go_num, HS9, HLL9, HIB9⟩); (case measure => simp [intOf]; omega))
        have k0b : (k0 == 0) = false := by simpa using k0e
        have k1b : (k0 == 1) = false := by simpa using k1e
        have k2b : (k0 == 2) = false := by simpa using k2e
        clear k0e k1e k2e
        obtain ⟨wo, rfl⟩ : ∃ wo : World, wo = wr := ⟨_, rfl⟩

        have HS0 := Aside0.mk (HS.out.fresh (below_alloc (Below.refl _ _) (.cells #[.int .i64 k0, .int .u64 n0, .int .i64 d0, .slice AL l0.length cL, .slice AB b0.length cB] 42)))
        have HA0 := Aside0.mk (show (wo.alloc (.cells #[.int .i64 k0, .int .u64 n0, .int .i64 d0, .slice AL l0.length cL, .slice AB b0.length cB] 42)).heap[wo.heap.size]? = _ from blk_new _ _)
        have HGA := Aside0.mk (show wo.heap.size ≠ w.heap.size from fun e => by have := blk_lt HS.out.wr.1; omega)
        have HL1 := Aside0.mk (show l.length ≤ 180000 by have := HL.out; omega)

        go_wp2_with fail
        refine (Writer_Pad_calls d0 _ w.heap.size w.heap.size v l HS0.out.wr HS0.out.below.size (by have := HL1.out; have := padN_le l.length d0; omega)).mono ?_
        rintro e w2 ⟨rfl, hs⟩
        obtain ⟨v2, hs2, hf2⟩ := HS0.out.put hs
        have HS2 := Aside0.mk hs2
        have HA2 := Aside0.mk (hf2 _ _ _ HA0.out (by decide) HGA.out)
        clear hs hs2 hf2
        have r0_w2 : w2.cell? ⟨wo.heap.size, 0, none⟩ = some (.int .i64 k0) := blk_cell HA2.out 0
        have r1_w2 : w2.cell? ⟨wo.heap.size, 1, none⟩ = some (.int .u64 n0) := blk_cell HA2.out 1
        have r2_w2 : w2.cell? ⟨wo.heap.size, 2, none⟩ = some (.int .i64 d0) := blk_cell HA2.out 2
        have r3_w2 : w2.cell? ⟨wo.heap.size, 3, none⟩ = some (.slice AL l0.length cL) := blk_cell HA2.out 3
        have r4_w2 : w2.cell? ⟨wo.heap.size, 4, none⟩ = some (.slice AB b0.length cB) := blk_cell HA2.out 4

        obtain ⟨p, hp⟩ : ∃ p, padN l.length d0 = p := ⟨_, rfl⟩
        have HP := Aside0.mk hp
        have HPL := Aside0.mk (show p ≤ 4096 by have := padN_le l.length d0; omega)
        rw [hp] at HS2
        clear hp
        go_wp2
        go_loopg [4] p (fun kq v4 w' => ∃ k : Nat, k + kq = p ∧ Aside0 (St w w' w.heap.size v2 v4 (l ++ List.replicate p 0) (l ++ List.replicate k 0)) ∧ Aside0 (w'.heap[wo.heap.size]? = some (.cells #[.int .i64 k0, .int .u64 n0, .int .i64 d0, .slice AL l0.length cL, .slice AB b0.length cB] 42 (0, 0))))
        case atStart => exact ⟨0, by omega, ⟨by simpa using HS2.out⟩, HA2⟩
        case round =>
          clear r0_w2 r1_w2 r2_w2 r3_w2 r4_w2
          obtain ⟨k, hk, HSj, HAj⟩ := hrel
          obtain ⟨A5, c5, e5⟩ := own_slice HSj.out.own
          subst e5
          obtain ⟨nn, hnn⟩ : ∃ nn, (l ++ List.replicate k (0 : Int)).length = nn := ⟨_, rfl⟩
          have HNN := Aside0.mk (show nn = l.length + k by rw [← hnn]; simp)
          rw [hnn] at HSj
          rw [hnn]
          clear hnn
          have z0 : wr.cell? ⟨wo.heap.size, 0, none⟩ = some (.int .i64 k0) := blk_cell HAj.out 0
          have z1 : wr.cell? ⟨wo.heap.size, 1, none⟩ = some (.int .u64 n0) := blk_cell HAj.out 1
          have z2 : wr.cell? ⟨wo.heap.size, 2, none⟩ = some (.int .i64 d0) := blk_cell HAj.out 2
          have z3 : wr.cell? ⟨wo.heap.size, 3, none⟩ = some (.slice AL l0.length cL) := blk_cell HAj.out 3
          have z4 : wr.cell? ⟨wo.heap.size, 4, none⟩ = some (.slice AB b0.length cB) := blk_cell HAj.out 4
          have HKP := Aside0.mk (show k ≤ p by omega)
          have HKK := Aside0.mk hk
          have HLJ := Aside0.mk (show (l ++ List.replicate k (0 : Int)).length ≤ 200000 by have := HL1.out; have := HPL.out; rw [List.length_append, List.length_replicate]; omega)
          clear hk
          by_cases hq : 0 < d0
          · have HT := Aside0.mk (padN_test l.length d0 (by omega) hq k (by rw [HP.out]; exact HKP.out))
            rw [HP.out] at HT
            have hne : ¬ d0 = 0 := by omega
            by_cases ck : k = p
            · have ht : ((nn : Int) % d0 != 0) = false := by rw [bne_eq_false_iff_eq, HNN.out, Int.natCast_add]; exact HT.out.2 ck
              have HS5 := Aside0.mk (show St w wr w.heap.size v2 (.slice A5 (l ++ List.replicate p (0 : Int)).length c5) (l ++ List.replicate p 0) (l ++ List.replicate p 0) by have := HSj.out; rw [HNN.out, ck] at this; simpa using this)
              have HCK := Aside0.mk (show nn = (l ++ List.replicate p (0 : Int)).length by rw [HNN.out, ck]; simp)
              obtain ⟨l2, hl2⟩ : ∃ l2, l ++ List.replicate p (0 : Int) = l2 := ⟨_, rfl⟩
              have HIB9 := Aside0.mk (show isB l2 by rw [← hl2]; exact HIB.out.app (fun x hx => by have := List.eq_of_mem_replicate hx; omega))
              have HL2 := Aside0.mk (show l2.length ≤ l.length + 4096 by have := HPL.out; rw [← hl2, List.length_append, List.length_replicate]; omega)
              rw [hl2] at HS5 HCK
              rw [HCK.out]
              have ht2 : ((l2.length : Int) % d0 != 0) = false := by rw [← HCK.out]; exact ht
              clear HSj hl2 ck ht
              go_wp2_with fail
              refine (Writer_Len_calls _ _ _ v2 (l2) HS5.out.wr).mono ?_
              rintro e w9 ⟨rfl, hb⟩
              have HS9 := Aside0.mk (HS5.out.fresh hb)
              clear hb
              have HLL9 := Aside0.mk (show (l2).length ≤ 4500 * (i + 1) by have := HL.out; have := HL2.out; omega)
              go_wp2_with fail
              first | exact ⟨⟨i + 1, v2, l2, by omega, by omega, by go_num, HS9, HLL9, HIB9⟩, by simp [intOf]; omega⟩ | (go_roundw; (case rel => exact ⟨i + 1, v2, l2, by omega, by omega, by go_num, HS9, HLL9, HIB9⟩); (case measure => simp [intOf]; omega))
            · have ht : ((nn : Int) % d0 != 0) = true := by rw [bne_iff_ne, HNN.out, Int.natCast_add]; exact fun e => ck (HT.out.1 e)
              have HS3 := Aside0.mk (HSj.out.fresh (below_alloc (Below.refl _ _) (.cells #[.int .u8 0] 5)))
              have HA3 := Aside0.mk (blk_alloc HAj.out (.cells #[.int .u8 0] 5))
              obtain ⟨A4, c4, w4, hrun4, hO4, hg4, hat4⟩ := app8 HS3.out.own (Rd.lit wr .u8 5 [0] (by simp)) HS3.out.below.size (by have := HLJ.out; simp; simp at this; omega)
              obtain ⟨hs4, hf4⟩ := HS3.out.want hO4 hg4 hat4
              have HREP := Aside0.mk (show l ++ List.replicate k (0 : Int) ++ [0] = l ++ List.replicate (k + 1) 0 by rw [List.replicate_succ', List.append_assoc])
              rw [HREP.out] at hs4 hrun4
              have HS4 := Aside0.mk hs4
              have HA4 := Aside0.mk (hf4 _ _ _ HA3.out (by decide) (fun e => by have := HGA.out; omega))
              have HR4 := Aside0.mk hrun4
              have HCK := Aside0.mk (show k + 1 ≤ p by have := HKP.out; omega)
              clear hrun4 hO4 hg4 hat4 hs4 hf4 ck
              obtain ⟨n4, hn4⟩ : ∃ n4, (l ++ List.replicate (k + 1) (0 : Int)).length = n4 := ⟨_, rfl⟩
              rw [hn4] at HS4 HR4
              clear hn4
              go_wp2_with (first | ((with_reducible refine gate_builtin (b := .append) (xs := #[.tmp 54, .tmp 55]) rfl ?_); at_builtin; refine app_list rfl (.tmp 54) (.tmp 55) rfl rfl rfl HR4.out ?_))
              go_roundg (p - (k + 1))
              case measure => have := HCK.out; have := HKK.out; omega
              case rel => exact ⟨k + 1, by have := HCK.out; omega, HS4, HA4⟩
          · have hp0 : p = 0 := by rw [← HP.out, padN, if_neg hq]
            have HS5 := Aside0.mk (show St w wr w.heap.size v2 (.slice A5 l.length c5) l l by have := HSj.out; rw [HNN.out, hp0, show k = 0 by have := HKP.out; omega] at this; simpa using this)
            have HCK := Aside0.mk (show nn = l.length by have := HKP.out; rw [HNN.out]; omega)
            have HIB9 := HIB
            rw [HCK.out]
            clear HSj hp0
            go_wp2_with fail
            refine (Writer_Len_calls _ _ _ v2 (l) HS5.out.wr).mono ?_
            rintro e w9 ⟨rfl, hb⟩
            have HS9 := Aside0.mk (HS5.out.fresh hb)
            clear hb
            have HLL9 := Aside0.mk (show (l).length ≤ 4500 * (i + 1) by have := HL.out; omega)
            go_wp2_with fail
            first | exact ⟨⟨i + 1, v2, l, by omega, by omega, by go_num, HS9, HLL9, HIB9⟩, by simp [intOf]; omega⟩ | (go_roundw; (case rel => exact ⟨i + 1, v2, l, by omega, by omega, by go_num, HS9, HLL9, HIB9⟩); (case measure => simp [intOf]; omega))
      · obtain ⟨A5, c5, e5⟩ := own_slice HS.out.own
        have HLL := Aside0.mk (show l.length ≤ 180000 by have := HL.out; omega)
        have HISB := HIB
        subst e5
        go_wp2_with fail
        refine (Writer_Done_calls _ w.heap.size w.heap.size v l HS.out.wr (by have := HLL.out; omega)).mono ?_
        rintro e w1 ⟨v1, rfl, hO, hb⟩
        have HO := Aside0.mk hO
        have HS1 := Aside0.mk (HS.out.fresh hb)
        clear hO hb
        go_wp2_with fail
        refine (Same_calls v1 _ l l _ (Own.rd HO.out) (Own.rd HS1.out.own) HISB.out HISB.out).mono ?_
        rintro e w2 ⟨rfl, hb⟩
        have HB2 := Aside0.mk (below_step HS1.out.below hb)
        clear hb
        rw [show decide (l = l) = true from by simp]
        go_wp2_with fail
        refine (le_awake_calls _).mono ?_
        rintro e w3 ⟨rfl, hb⟩
        have HB3 := Aside0.mk (below_step HB2.out hb)
        clear hb
        go_wp2_with fail
        go_ret
        exact ⟨rfl, HB3.out⟩
    · obtain ⟨A5, c5, e5⟩ := own_slice HS.out.own
      have HLL := Aside0.mk (show l.length ≤ 180000 by have := HL.out; omega)
      have HISB := HIB
      subst e5
      go_wp2_with fail
      refine (Writer_Done_calls _ w.heap.size w.heap.size v l HS.out.wr (by have := HLL.out; omega)).mono ?_
      rintro e w1 ⟨v1, rfl, hO, hb⟩
      have HO := Aside0.mk hO
      have HS1 := Aside0.mk (HS.out.fresh hb)
      clear hO hb
      go_wp2_with fail
      refine (Same_calls v1 _ l l _ (Own.rd HO.out) (Own.rd HS1.out.own) HISB.out HISB.out).mono ?_
      rintro e w2 ⟨rfl, hb⟩
      have HB2 := Aside0.mk (below_step HS1.out.below hb)
      clear hb
      rw [show decide (l = l) = true from by simp]
      go_wp2_with fail
      refine (le_awake_calls _).mono ?_
      rintro e w3 ⟨rfl, hb⟩
      have HB3 := Aside0.mk (below_step HB2.out hb)
      clear hb
      go_wp2_with fail
      go_ret
      exact ⟨rfl, HB3.out⟩
end Go.Proofs.Ytmcgpaikmmecoaa
