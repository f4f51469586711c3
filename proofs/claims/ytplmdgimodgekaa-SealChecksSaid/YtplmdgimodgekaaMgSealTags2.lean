import Derived.Test.YtplmdgimodgekaaMgSealTags1
import Derived.Stop.BytesEq
import Derived.Test.YtplmdgimodgekaaOpen
set_option linter.unusedVariables false
set_option linter.unusedSimpArgs false
section
/- Seals: the law's way through its steps. -/
namespace Go.Proofs.Ytplmdgimodgekaa
open Go.RowKit Go.Proofs.YtplmdgimodgekaaW.PrintWords Go.Proofs.YtplmdgimodgekaaW.PrintLast Go.Proofs.YtplmdgimodgekaaW.PrintMore
attribute [local go_sem] max2_int min2_int max_two min_two max_three min_three max_four min_four
structure St where
  ep : Int
  m : List Int
  A : Option Addr
  c : Nat
structure StAt (w : World) (ad : Addr) (i : Nat) (x : St) : Prop where
  c0 : w.cell? (ad.add (i * 2)) = some (.int .u8 x.ep)
  c1 : w.cell? ⟨(ad.add (i * 2)).block, (ad.add (i * 2)).off + 1, none⟩ = some (.slice x.A x.m.length x.c)
  r : Rd w .u8 (.slice x.A x.m.length x.c) x.m
  eb : 0 ≤ x.ep ∧ x.ep ≤ 255
  ib : isB x.m
theorem StAt.below {w w1 : World} {ad : Addr} {i : Nat} {x : St} (h : StAt w ad i x) (hb : Below w.heap.size w w1) : StAt w1 ad i x := ⟨pw_cell_below hb h.c0, pw_cell_below hb h.c1, h.r.below hb, h.eb, h.ib⟩
def StRow (w : World) (A : Option Addr) (n c : Nat) (xs : List St) : Prop :=
  xs.length = n ∧ n ≤ 9223372036854775807 ∧ n ≤ c ∧ (0 < n → ∃ ad, A = some ad ∧ ∀ i x, xs[i]? = some x → StAt w ad i x)
def epN (l : List St) : Nat := (l.map fun x => (x.ep % 20).toNat).sum
def allN (l : List St) : List Int := l.flatMap (·.m)
theorem epN_snoc (l : List St) (i : Nat) (x : St) (h : l[i]? = some x) : epN (l.take (i + 1)) = epN (l.take i) + (x.ep % 20).toNat := by
  rw [List.take_add_one, h, epN, List.map_append, List.sum_append, ← epN]
  simp
theorem allN_snoc (l : List St) (i : Nat) (x : St) (h : l[i]? = some x) : allN (l.take (i + 1)) = allN (l.take i) ++ x.m := by
  rw [List.take_add_one, h, allN, List.flatMap_append, ← allN]
  simp
theorem allN_take (l : List St) (i : Nat) : (allN (l.take i)).length ≤ (allN l).length := by
  have : allN l = allN (l.take i) ++ allN (l.drop i) := by rw [allN, allN, allN, ← List.flatMap_append, List.take_append_drop]
  rw [this, List.length_append]; omega
theorem epN_le : ∀ l : List St, epN l ≤ 20 * l.length
  | [] => Nat.le_refl _
  | x :: l => by
    have := epN_le l
    rw [epN, List.map_cons, List.sum_cons, ← epN, List.length_cons]
    omega
/-- The tags of the first steps. -/
def tgsN (s : List Int) (l : List St) : Nat → List Tg
  | 0 => []
  | i + 1 => match l[i]? with
    | none => tgsN s l i
    | some x => if x.m = [] then tgsN s l i else tgsN s l i ++ [⟨(epN (l.take (i + 1)) : Nat), ((allN (l.take i)).length : Nat), ((allN (l.take (i + 1))).length : Nat), suP (keyE s (epN (l.take (i + 1)))) (epN (l.take (i + 1)) : Nat) (allN (l.take i)).length (allN (l.take (i + 1))).length (allN (l.take (i + 1)))⟩]
theorem tgsN_none {s : List Int} {l : List St} {i : Nat} {x : St} (h : l[i]? = some x) (h0 : x.m = []) : tgsN s l (i + 1) = tgsN s l i := by
  rw [tgsN, h]
  simp [h0]
theorem tgsN_some {s : List Int} {l : List St} {i : Nat} {x : St} (h : l[i]? = some x) (h0 : x.m ≠ []) : tgsN s l (i + 1) = tgsN s l i ++ [⟨(epN (l.take (i + 1)) : Nat), ((allN (l.take i)).length : Nat), ((allN (l.take (i + 1))).length : Nat), suP (keyE s (epN (l.take (i + 1)))) (epN (l.take (i + 1)) : Nat) (allN (l.take i)).length (allN (l.take (i + 1))).length (allN (l.take (i + 1)))⟩] := by
  rw [tgsN, h]
  simp [h0]
theorem tag_ok (s : List Int) (e a b : Nat) (L : List Int) (he : e ≤ 1000000) (ha : a ≤ 1000000) (hb : b ≤ 1000000) : (Tg.mk (e : Int) (a : Int) (b : Int) (suP (keyE s e) (e : Int) a b L)).ok :=
  ⟨fun x hx => by simp only [List.mem_cons, List.not_mem_nil, or_false] at hx; rcases hx with rfl | rfl | rfl <;> omega, suP_len _ _ _ _ _, suP_isB _ _ _ _ _⟩
theorem tgsN_ok (s : List Int) (l : List St) (hl : l.length ≤ 1000) (ht : (allN l).length ≤ 1000000) : ∀ i, ∀ x ∈ tgsN s l i, x.ok
  | 0, x, hx => by simp [tgsN] at hx
  | i + 1, x, hx => by
    cases h : l[i]? with
    | none =>
      rw [tgsN, h] at hx
      exact tgsN_ok s l hl ht i x hx
    | some y =>
      by_cases h0 : y.m = []
      · rw [tgsN_none h h0] at hx
        exact tgsN_ok s l hl ht i x hx
      · rw [tgsN_some h h0, List.mem_append] at hx
        rcases hx with hx | hx
        · exact tgsN_ok s l hl ht i x hx
        · rw [List.mem_singleton] at hx
          subst hx
          have h1 := epN_le (l.take (i + 1))
          have h2 := allN_take l i
          have h3 := allN_take l (i + 1)
          rw [List.length_take] at h1
          exact tag_ok s _ _ _ _ (by omega) (by omega) (by omega)
theorem tgsN_len (s : List Int) (l : List St) : ∀ i, (tgsN s l i).length ≤ i
  | 0 => Nat.le_refl _
  | i + 1 => by
    have := tgsN_len s l i
    cases h : l[i]? with
    | none => rw [tgsN, h]; exact Nat.le_succ_of_le this
    | some y =>
      by_cases h0 : y.m = []
      · rw [tgsN_none h h0]; omega
      · rw [tgsN_some h h0, List.length_append]; simp; omega
/-- Two rows of unlike types lie apart. -/
theorem OwnO.apart2 {α β : Type} {e1 : α → Value} {e2 : β → Value} {W : World} {b1 b2 t1 t2 : Nat} {v1 v2 : Value} {xs : List α} {ys : List β} (h1 : OwnO e1 W b1 t1 v1 xs) (h2 : OwnO e2 W b2 t2 v2 ys) (hne : t1 ≠ t2) (k : Nat) (hk : v1.ownBlock = some k) : v2.ownBlock ≠ some k := by
  rcases h1 with ⟨rfl, _⟩ | ⟨g, o, cap, cur, rfl, _, hg, _⟩
  · cases hk
  · injection hk with hk
    subst hk
    exact h2.ne hg (Ne.symm hne)
theorem TRow.apart {α : Type} {e1 : α → Value} {W : World} {b1 b2 t1 : Nat} {v1 v2 : Value} {xs : List Tg} {ys : List α} (h1 : TRow W b1 v1 xs) (h2 : OwnO e1 W b2 t1 v2 ys) (hne : 74 ≠ t1) (k : Nat) (hk : v1.ownBlock = some k) : v2.ownBlock ≠ some k := by
  rcases h1.2 with ⟨rfl, _⟩ | ⟨g, cap, cur, rfl, _, hg, _⟩
  · cases hk
  · injection hk with hk
    subst hk
    exact h2.ne hg (Ne.symm hne)
/-- What the way through the steps keeps. -/
structure Sd (w0 W : World) (g g8 : Nat) (s : List Int) (ep tw : Nat) (v9 v10 : Value) (Aa Ak : Option Addr) (ca ck : Nat) (all : List Int) (ts : List Tg) : Prop where
  sl : SlV W g (ep : Int) (tw : Int) (keyE s ep)
  wd : W.heap[g8]? = some (.cells #[.slice Aa h0L.length ca, .slice Ak kT.length ck] 78 (0, 0))
  oa : OwnO (Value.int .u32) W w0.heap.size 196 (.slice Aa h0L.length ca) h0L
  ok : OwnO (Value.int .u32) W w0.heap.size 196 (.slice Ak kT.length ck) kT
  ov : OwnO (Value.int .u8) W w0.heap.size 5 v9 all
  ot : TRow W w0.heap.size v10 ts
  bel : Below w0.heap.size w0 W
  gg : w0.heap.size ≤ g
variable {w0 W W' : World} {g g8 : Nat} {s : List Int} {ep tw : Nat} {v9 v10 : Value} {Aa Ak : Option Addr} {ca ck : Nat} {all : List Int} {ts : List Tg}
theorem Sd.below (h : Sd w0 W g g8 s ep tw v9 v10 Aa Ak ca ck all ts) (hb : Below W.heap.size W W') : Sd w0 W' g g8 s ep tw v9 v10 Aa Ak ca ck all ts :=
  ⟨h.sl.below hb, blk_below h.wd hb, h.oa.below hb, h.ok.below hb, h.ov.below hb, h.ot.below hb, below_step h.bel hb, h.gg⟩
theorem Sd.turn (h : Sd w0 W g g8 s ep tw v9 v10 Aa Ak ca ck all ts) (hk : Kp (fun b => b = g) W W') {ep' tw' : Nat} (hs : SlV W' g (ep' : Int) (tw' : Int) (keyE s ep')) : Sd w0 W' g g8 s ep' tw' v9 v10 Aa Ak ca ck all ts :=
  ⟨hs, hk.blk h.wd (fun e => by
      have h1 := h.wd
      rw [show g8 = g from e, h.sl] at h1
      injection h1 with h1
      injection h1 with _ h1
      exact absurd h1 (by decide)),
    h.oa.kp hk (fun k hk' e => h.oa.ne h.sl (by decide) (by rw [hk', show k = g from e])), h.ok.kp hk (fun k hk' e => h.ok.ne h.sl (by decide) (by rw [hk', show k = g from e])),
    h.ov.kp hk (fun k hk' e => h.ov.ne h.sl (by decide) (by rw [hk', show k = g from e])), h.ot.kp hk (fun k hk' e => h.ot.ne h.sl (by decide) (by rw [hk', show k = g from e])),
    Kp.from h.bel hk (fun k e => by rw [show k = g from e]; exact h.gg), h.gg⟩
theorem Sd.app (h : Sd w0 W g g8 s ep tw v9 v10 Aa Ak ca ck all ts) (hk : Kp (fun b => v9.ownBlock = some b) W W') {v9' : Value} {all' : List Int} (ho : OwnO (Value.int .u8) W' w0.heap.size 5 v9' all') : Sd w0 W' g g8 s ep tw v9' v10 Aa Ak ca ck all' ts :=
  ⟨hk.blk h.sl (h.ov.ne h.sl (by decide)), hk.blk h.wd (h.ov.ne h.wd (by decide)), h.oa.kp hk (fun k hk' e => h.oa.apart2 h.ov (by decide) k hk' e), h.ok.kp hk (fun k hk' e => h.ok.apart2 h.ov (by decide) k hk' e),
    ho, h.ot.kp hk (fun k hk' e => h.ot.apart h.ov (by decide) k hk' e), Kp.from h.bel hk (fun k e => h.ov.ge e), h.gg⟩
theorem Sd.tag (h : Sd w0 W g g8 s ep tw v9 v10 Aa Ak ca ck all ts) (hk : Kp (fun b => v10.ownBlock = some b) W W') {v10' : Value} {ts' : List Tg} (ho : TRow W' w0.heap.size v10' ts') : Sd w0 W' g g8 s ep tw v9 v10' Aa Ak ca ck all ts' :=
  ⟨hk.blk h.sl (h.ot.ne h.sl (by decide)), hk.blk h.wd (h.ot.ne h.wd (by decide)), h.oa.kp hk (fun k hk' e => h.ot.apart h.oa (by decide) k e hk'), h.ok.kp hk (fun k hk' e => h.ot.apart h.ok (by decide) k e hk'),
    h.ov.kp hk (fun k hk' e => h.ot.apart h.ov (by decide) k e hk'), ho, Kp.from h.bel hk (fun k e => (h.ot.lt e).1), h.gg⟩
end Go.Proofs.Ytplmdgimodgekaa
end
section
/- Seals: the law's way through its steps, walked. -/
namespace Go.Proofs.Ytplmdgimodgekaa
open Go.RowKit Go.Proofs.YtplmdgimodgekaaW.PrintWords Go.Proofs.YtplmdgimodgekaaW.PrintLast Go.Proofs.YtplmdgimodgekaaW.PrintMore
attribute [local go_sem] max2_int min2_int max_two min_two max_three min_three max_four min_four
theorem allN_isB (l : List St) (h : ∀ (j : Nat) (y : St), l[j]? = some y → isB y.m) (i : Nat) : isB (allN (l.take i)) := fun x hx => by
  simp only [allN, List.mem_flatMap] at hx
  obtain ⟨y, hy, hxy⟩ := hx
  obtain ⟨j, hj⟩ := List.mem_iff_getElem?.1 (List.mem_of_mem_take hy)
  exact h j y hj x hxy
theorem sz35 (e f t : Int) {s : List Int} (h : s.length = 32) : 35 = (tgC e f t s).toArray.size := by rw [List.size_toArray, tgC_len h]
set_option maxHeartbeats 8000000 in
set_option maxRecDepth 100000 in
theorem sealed_calls (u : Value) (s : List Int) (A : Option Addr) (n c : Nat) (l : List St) (w : World) (hr : Rd w .u8 u s) (hib : isB s) (hL : s.length ≤ 80000) (hrow : StRow w A n c l) (hn : n ≤ 8) (htot : (allN l).length ≤ 70000) :
    Calls Try.prog 24 #[u, .slice A n c] w fun e w' => ∃ v t, e = .returned (.tuple #[v, t, .bool true]) ∧ OwnO (Value.int .u8) w' w.heap.size 5 v (allN l) ∧ TRow w' w.heap.size t (tgsN s l n) ∧ Below w.heap.size w w' := by
  have HR := Aside0.mk hr
  have HIB := Aside0.mk hib
  have HRW := Aside0.mk hrow
  have HLN := Aside0.mk hrow.1
  have hc0 : n ≤ c := hrow.2.2.1
  have HOK := Aside0.mk (fun i => tgsN_ok s l (by rw [hrow.1]; omega) (by omega) i)
  have HTOT := Aside0.mk htot
  have HEP := Aside0.mk (fun i => (by have := epN_le (l.take i); rw [List.length_take, hrow.1] at this; omega : epN (l.take i) ≤ 160))
  clear hr hib hrow htot
  go_enter Try.func24, Try.ntmps24
  go_wp2_with fail
  with_reducible refine (sealNew_calls u s _ HR.out HIB.out (by omega)).mono ?_
  rintro e w1 ⟨g, rfl, hsl, hg, hb⟩
  have HSL := Aside0.mk hsl
  have HB := Aside0.mk hb
  have HGG := Aside0.mk hg
  clear hsl hb hg
  go_wp2_with fail
  with_reducible refine (Words45_calls _).mono ?_
  rintro e w2 ⟨va, vk, rfl, ha, hk, hb⟩
  obtain ⟨Aa, ca, rfl⟩ := ha.slice
  obtain ⟨Ak, ck, rfl⟩ := hk.slice
  have HA := Aside0.mk (ha.weaken HB.out.size)
  have HK := Aside0.mk (hk.weaken HB.out.size)
  have HS2 := Aside0.mk (HSL.out.below hb)
  have HB2 := Aside0.mk (below_step HB.out hb)
  have HW := Aside0.mk (blk_new w2 (.cells #[.slice Aa h0L.length ca, .slice Ak kT.length ck] 78))
  have HBA := Aside0.mk (below_alloc (Below.refl w2.heap.size w2) (.cells #[.slice Aa h0L.length ca, .slice Ak kT.length ck] 78))
  clear hb ha hk
  go_upto_block 0 with (fail)
  obtain ⟨g8, hg8⟩ : ∃ g, w2.heap.size = g := ⟨_, rfl⟩
  rw [hg8] at HW ⊢
  obtain ⟨w3, hw3⟩ : ∃ wx, w2.alloc (.cells #[.slice Aa h0L.length ca, .slice Ak kT.length ck] 78) = wx := ⟨_, rfl⟩
  rw [hw3] at HW HBA ⊢
  have HSD := Aside0.mk (show Sd w w3 g g8 s (epN (l.take 0)) ((allN (l.take 0)).length) (.slice none 0 0) (.slice none 0 0) Aa Ak ca ck (allN (l.take 0)) (tgsN s l 0) from
    ⟨HS2.out.below HBA.out, HW.out, HA.out.below HBA.out, HK.out.below HBA.out, OwnO.nil _ _ _ _, TRow.nil _ _, below_step HB2.out HBA.out, HGG.out⟩)
  clear hg8 hw3 HW HBA HA HK HS2 HB2 HSL HB HGG
  go_cut [9, 10] (fun v9 v10 wx => OwnO (Value.int .u8) wx w.heap.size 5 v9 (allN l) ∧ TRow wx w.heap.size v10 (tgsN s l n) ∧ Aside0 (Below w.heap.size w wx))
  case first => as_aux_lemma =>
    go_wp2_with fail
    go_loopw [9, 10, 11, 12] (fun v9 v10 v11 v12 w' => ∃ (i : Nat), i ≤ n ∧ v12 = .int .i64 (i : Int) ∧ v11 = .int .u64 (epN (l.take i) : Int) ∧ Aside0 (Sd w w' g g8 s (epN (l.take i)) ((allN (l.take i)).length) v9 v10 Aa Ak ca ck (allN (l.take i)) (tgsN s l i))) (fun _ _ _ v12 _ => n - (intOf v12).toNat)
    case atStart => exact ⟨0, by omega, rfl, rfl, HSD⟩
    case round =>
      clear HSD
      obtain ⟨i, hi, rfl, rfl, HS⟩ := hrel
      by_cases c2 : i < n
      · obtain ⟨x, hx⟩ : ∃ x, l[i]? = some x := ⟨_, List.getElem?_eq_getElem (show i < l.length by rw [HLN.out]; exact c2)⟩
        obtain ⟨ad, eA, hat⟩ := HRW.out.2.2.2 (by omega)
        have HX := Aside0.mk (hat i x hx)
        have HES := Aside0.mk (epN_snoc l i x hx)
        have HAS := Aside0.mk (allN_snoc l i x hx)
        have HTN := Aside0.mk (fun h0 => tgsN_none (s := s) hx h0)
        have HTS := Aside0.mk (fun h0 => tgsN_some (s := s) hx h0)
        have HE1 := HEP.out (i + 1)
        have HT1 := Aside0.mk (Nat.le_trans (allN_take l (i + 1)) HTOT.out)
        cases eA
        obtain ⟨E0, hE0⟩ : ∃ k, epN (l.take i) = k := ⟨_, rfl⟩
        obtain ⟨E1, hE1⟩ : ∃ k, epN (l.take (i + 1)) = k := ⟨_, rfl⟩
        obtain ⟨a, ha⟩ : ∃ k, (allN (l.take i)).length = k := ⟨_, rfl⟩
        obtain ⟨L0, hL0⟩ : ∃ k, allN (l.take i) = k := ⟨_, rfl⟩
        obtain ⟨L1, hL1⟩ : ∃ k, allN (l.take (i + 1)) = k := ⟨_, rfl⟩
        rw [hE0, hE1] at HES
        rw [hL0] at ha
        rw [hL0, hL1] at HAS
        rw [hL1] at HT1
        rw [hE1] at HE1
        rw [hE1, hL0, hL1, ha] at HTS
        rw [hE0, hL0, ha] at HS
        have HE0 := HEP.out i
        rw [hE0] at HE0 ⊢
        obtain ⟨A9, c9, ev9⟩ := HS.out.ov.slice
        rw [ha] at ev9
        subst ev9
        obtain ⟨k10, hk10⟩ : ∃ k, (tgsN s l i).length = k := ⟨_, rfl⟩
        have HK10 := Aside0.mk hk10
        obtain ⟨A10, c10, ev10⟩ := HS.out.ot.slice hk10
        subst ev10
        have hk11 : k10 ≤ i := by rw [← hk10]; exact tgsN_len s l i
        obtain ⟨q, hq⟩ : ∃ q : Nat, (x.ep % 20).toNat = q := ⟨_, rfl⟩
        rw [hq] at HES
        have heb := HX.out.eb
        have hq2 : x.ep % 20 = (q : Int) := by omega
        have hq3 : x.ep.tmod 20 = (q : Int) := by rw [Int.tmod_eq_emod_of_nonneg heb.1]; exact hq2
        have hq4 : IntKind.i64.wrap (q : Int) = (q : Int) := by rw [IntKind.wrap_i64]; omega
        have HQ := Aside0.mk (And.intro hq2 (And.intro hq3 hq4))
        have hq5 : q ≤ 19 := by omega
        have HX0 := Aside0.mk (fun (W : World) (hb : Below w.heap.size w W) => pw_cell_below hb HX.out.c0)
        have HX1 := Aside0.mk (fun (W : World) (hb : Below w.heap.size w W) => pw_cell_below hb HX.out.c1)
        have HLA := Aside0.mk ha
        have HEE := Aside0.mk hE1
        have HIA := Aside0.mk (show isB L0 by rw [← hL0]; exact allN_isB l (fun j y hy => (hat j y hy).ib) i)
        have HFI := Aside0.mk (fun (W : World) (v9 v10 : Value) (ts : List Tg) (b : Nat) (hts : ts = tgsN s l (i + 1)) (hb : L1.length = b) (h : Sd w W g g8 s (E1) (b) v9 v10 Aa Ak ca ck (L1) (ts)) => (Aside0.mk (by subst hts; rw [hE1, hL1, hb]; exact h) : Aside0 (Sd w W g g8 s (epN (l.take (i + 1))) ((allN (l.take (i + 1))).length) v9 v10 Aa Ak ca ck (allN (l.take (i + 1))) (tgsN s l (i + 1)))))
        clear hE0 hE1 ha hL0 hL1 hq hq2 hq3 hq4 heb hat hk10
        go_upto_block 2 with (fail)
        go_cut [11] (fun v wx => v = .int .u64 (E1 : Int) ∧ Aside0 (Sd w wx g g8 s (E1) (a) (.slice A9 a c9) (.slice A10 k10 c10) Aa Ak ca ck (L0) (tgsN s l i)))
        case first =>
          go_wp2_with fail
          go_loopw [11, 13] (fun v11 v13 w' => ∃ (k : Nat), k ≤ q ∧ v13 = .int .i64 (k : Int) ∧ v11 = .int .u64 ((E0 + k : Nat) : Int) ∧ Aside0 (Sd w w' g g8 s (E0 + k) (a) (.slice A9 a c9) (.slice A10 k10 c10) Aa Ak ca ck (L0) (tgsN s l i))) (fun _ v13 _ => q - (intOf v13).toNat)
          case atStart => exact ⟨0, by omega, rfl, rfl, HS⟩
          case round =>
            clear HS
            obtain ⟨k, hk, rfl, rfl, HS⟩ := hrel
            have x0 := HX0.out wr HS.out.bel
            obtain ⟨hq2, hq3, hq4⟩ := HQ.out
            by_cases c4 : k < q
            · have hw1 : IntKind.u64.wrap ((E0 : Int) + (k : Int) + 1) = ((E0 + (k + 1) : Nat) : Int) := by rw [IntKind.wrap_u64]; omega
              have HW1 := Aside0.mk hw1
              clear hw1
              have HKL := Aside0.mk (keyE_len s (E0 + k))
              have HKB := Aside0.mk (keyE_isB s (E0 + k))
              go_wp2_with fail
              with_reducible refine (sealNext_calls wr g ((E0 + k : Nat) : Int) (a : Int) (keyE s (E0 + k)) HS.out.sl HKL.out HKB.out (by omega) (by omega)).mono ?_
              rintro v w4 ⟨rfl, hs, hkp⟩
              have HS4 := Aside0.mk (HS.out.turn hkp (ep' := E0 + (k + 1)) (tw' := a) (by rw [show ((E0 + (k + 1) : Nat) : Int) = ((E0 + k : Nat) : Int) + 1 by omega]; exact hs))
              have hw1 := HW1.out
              clear hs hkp x0 hq2 hq3 hq4
              go_wp2_with fail
              go_roundw
              case rel => exact ⟨k + 1, by omega, by go_num, by simp only [Value.int.injEq, true_and]; omega, HS4⟩
              case measure => simp [intOf] <;> omega
            · obtain rfl : k = q := by omega
              go_wp2_with fail
              go_meet
              rw [HES.out]
              exact ⟨rfl, HS⟩
        case rest =>
        clear HS HQ
        obtain ⟨rfl, HS⟩ := hcut
        obtain ⟨mm, hmm⟩ : ∃ k, x.m.length = k := ⟨_, rfl⟩
        have HMM := Aside0.mk hmm
        obtain ⟨b, hb⟩ : ∃ k, a + mm = k := ⟨_, rfl⟩
        have hb1 : b ≤ a + mm := by omega
        have hb2 : a + mm ≤ b := by omega
        have HLB := Aside0.mk (show L1.length = b by rw [HAS.out, List.length_append, HLA.out, hmm, hb])
        have hb70 : b ≤ 70000 := by rw [← HLB.out]; exact HT1.out
        have HFIN := Aside0.mk (fun (W : World) (v9 v10 : Value) (ts : List Tg) (hts : ts = tgsN s l (i + 1)) (h : Sd w W g g8 s (E1) (b) v9 v10 Aa Ak ca ck (L1) (ts)) => (HFI.out W v9 v10 ts b hts HLB.out h))
        obtain ⟨A5, c5, w5, hq5, ho5, hg5⟩ := app8N HS.out.ov (HX.out.r.below HS.out.bel) HS.out.bel.size b (by rw [List.length_append, HLA.out, hmm, hb]) (by omega)
        have HQ5 := Aside0.mk hq5
        have HS5 := Aside0.mk (HS.out.app (Kp.of_grown hg5) (show OwnO (Value.int .u8) w5 w.heap.size 5 (.slice A5 b c5) L1 by rw [HAS.out]; exact ho5))
        have x1 := HX1.out _ HS.out.bel
        rw [hmm] at x1 HQ5
        have hwa : IntKind.u64.wrap (a : Int) = (a : Int) := by rw [IntKind.wrap_u64]; omega
        clear hb hmm hq5 ho5 hg5
        go_upto_region 17 with (first | ((with_reducible refine gate_builtin (b := .append) (xs := #[.tmp 45, .tmp 50]) rfl ?_); at_builtin; refine app_list rfl (.tmp 45) (.tmp 50) rfl rfl rfl HQ5.out ?_))
        clear x1 hwa HQ5
        have x1 := HX1.out _ HS5.out.bel
        rw [HMM.out] at x1
        have HKL := Aside0.mk (keyE_len s E1)
        have HKB := Aside0.mk (keyE_isB s E1)
        have HI1 := Aside0.mk (show isB L1 by rw [HAS.out]; exact (HIA.out).app HX.out.ib)
        by_cases hm0 : mm = 0
        · obtain rfl : b = a := by omega
          subst hm0
          have hts := HTN.out (List.eq_nil_of_length_eq_zero HMM.out)
          have HTSE := Aside0.mk hts.symm
          clear hts
          go_wp2_with fail
          with_reducible refine (sealTag_none w5 g (E1 : Int) (b : Int) (keyE s E1) (.slice A5 b c5) L1 HS5.out.sl HS5.out.ov.rd (by rw [HLB.out]; omega) (by rw [HLB.out]; omega)).mono ?_
          rintro v w6 ⟨rfl, hb6⟩
          have HS6 := Aside0.mk (HS5.out.below hb6)
          have x6 := pw_cell_below hb6 x1
          obtain ⟨Z, hZ⟩ : ∃ Z, tgC 0 0 0 (List.replicate 32 0) = Z := ⟨_, rfl⟩
          have HZI := Aside0.mk (show (Try.prog.info? 74).map (·.size) = some Z.toArray.size by rw [← hZ]; exact info35S List.length_replicate)
          have HZS := Aside0.mk (show 35 = Z.toArray.size by rw [← hZ]; exact sz35 _ _ _ List.length_replicate)
          have HZO := Aside0.mk (show Z.toArray.all (·.oneCell') = true by rw [← hZ]; exact ones_tag _ _ _ _)
          have HBT := Aside0.mk (below_alloc (Below.refl w6.heap.size w6) (.cells Z.toArray 74))
          rw [hZ]
          clear hb6 x1 hZ
          go_upto_region 18 with (first | (refine wpList_store_fresh rfl 74 (.tmp 15) (.tmp 56) rfl _ Z.toArray rfl rfl HZI.out HZS.out HZO.out ?_) | fail)
          obtain ⟨w7, hw7⟩ : ∃ wx, w6.alloc (.cells Z.toArray 74) = wx := ⟨_, rfl⟩
          have x7 := pw_cell_below HBT.out x6
          have HS7 := Aside0.mk (HS6.out.below HBT.out)
          rw [hw7] at x7 HS7 ⊢
          clear hw7 x6 HBT
          go_wp2_with fail
          go_roundw
          case rel => exact ⟨i + 1, by omega, by go_num, by rw [HEE.out], HFIN.out _ _ _ _ HTSE.out HS7.out⟩
          case measure => simp [intOf] <;> omega
        · have hm1 : a < b := by omega
          have HTSE := Aside0.mk (HTS.out (fun h0 => hm0 (by rw [← HMM.out, h0]; rfl))).symm
          rw [HLB.out] at HTSE
          have HSP := Aside0.mk (suP_len (keyE s E1) (E1 : Int) a b L1)
          obtain ⟨S, hS⟩ : ∃ S, suP (keyE s E1) (E1 : Int) a b L1 = S := ⟨_, rfl⟩
          have HSU := Aside0.mk hS
          obtain ⟨X, hX⟩ : ∃ X, Tg.mk (E1 : Int) (a : Int) (b : Int) S = X := ⟨_, rfl⟩
          have HXE := Aside0.mk hX
          have HXO := Aside0.mk (show X.ok by rw [← hX, ← hS]; exact tag_ok s E1 a b L1 (by omega) (by omega) (by omega))
          have CT := Aside0.mk (sealTag_calls w5 g (E1 : Int) a (keyE s E1) (.slice A5 b c5) L1 HS5.out.sl HKL.out HKB.out HS5.out.ov.rd HI1.out (by rw [HLB.out]; omega) (by rw [HLB.out]; exact hm1) (by omega) (by omega))
          rw [HLB.out, hS, show tgC (E1 : Int) (a : Int) (b : Int) S = X.cells by rw [← hX]; rfl] at CT
          rw [hS, hX] at HTSE
          clear hS hX
          go_wp2_with fail
          with_reducible refine (CT.out).mono ?_
          rintro v w6 ⟨rfl, hs6, hk6⟩
          have HS6 := Aside0.mk (HS5.out.turn hk6 (ep' := E1) (tw' := b) hs6)
          have HX6 := Aside0.mk (HX1.out w6 HS6.out.bel)
          have HBT := Aside0.mk (below_alloc (Below.refl w6.heap.size w6) (.cells X.cells.toArray 74))
          have HTB := Aside0.mk (blk_new w6 (.cells X.cells.toArray 74))
          clear x1 hs6 hk6 CT
          go_upto_region 18 with (first | (refine wpList_store_fresh rfl 74 (.tmp 15) (.tmp 56) rfl _ X.cells.toArray rfl rfl (Tg.infoS HXO.out) (Tg.sz HXO.out) (Tg.ones X) ?_) | fail)
          obtain ⟨gt, hgt⟩ : ∃ g, w6.heap.size = g := ⟨_, rfl⟩
          obtain ⟨w7, hw7⟩ : ∃ wx, w6.alloc (.cells X.cells.toArray 74) = wx := ⟨_, rfl⟩
          have x7 := pw_cell_below HBT.out HX6.out
          rw [HMM.out] at x7
          have HS7 := Aside0.mk (HS6.out.below HBT.out)
          rw [hgt] at HTB ⊢
          rw [hw7] at x7 HS7 HTB ⊢
          clear hw7 hgt HBT HX6
          go_upto_region 21 with fail
          clear x7
          have HTC := Aside0.mk (show w7.heap[gt]? = some (.cells (tgC (E1 : Int) (a : Int) (b : Int) S).toArray 74 (0, 0)) by have := HTB.out; rw [← HXE.out] at this; exact this)
          obtain ⟨y0, y1, y2⟩ := tgC_c HTC.out
          have z0 := blk_cell HS7.out.wd 0
          have z1 := blk_cell HS7.out.wd 1
          have q1 : ((E1 : Int) != (E1 : Int)) = false := by simp
          have q2 : ((a : Int) != (a : Int)) = false := by simp
          have q3 : ((b : Int) != (b : Int)) = false := by simp
          have hwb : IntKind.u64.wrap (b : Int) = (b : Int) := by rw [IntKind.wrap_u64]; omega
          have HSD := Aside0.mk (show SlV w7.drew g (E1 : Int) (b : Int) (keyE s E1) from HS7.out.sl)
          have CO := Aside0.mk (fun (W : World) => (show Calls Try.prog 47 #[.agg X.cells.toArray] W fun v w' => v = .returned (.agg #[.int .u64 (E1 : Int), .int .u64 (a : Int), .int .u64 (b : Int), .slice (some ⟨W.heap.size, 3, none⟩) 32 32]) ∧ Below W.heap.size W w' from by
            rw [← HXE.out]
            exact (of_calls ⟨(E1 : Int), (a : Int), (b : Int), S⟩ W (by rw [HXE.out]; exact HXO.out)).mono (fun v w' h => ⟨h.1, h.2.2⟩)))
          have CU := Aside0.mk (fun (W : World) (hb : Below w7.heap.size w7 W) (sv : Value) => Sum45_calls (.slice Aa h0L.length ca) (.slice Ak kT.length ck) u (.slice A5 b c5) sv s L1 E1 a b W (HS7.out.oa.rd.below hb) (HS7.out.ok.rd.below hb) (HR.out.below (below_step HS7.out.bel hb)) HIB.out hL (by omega) (HS7.out.ov.rd.below hb) HI1.out (by rw [HLB.out]; omega) (by omega) (by rw [HLB.out]; omega))
          rw [HSU.out] at CU
          have HSL := Aside0.mk (show S.length = 32 by have := HXO.out.2.1; rw [← HXE.out] at this; exact this)
          have HSB := Aside0.mk (show isB S by have := HXO.out.2.2; rw [← HXE.out] at this; exact this)
          have HRS := Aside0.mk (tgC_sum HTC.out)
          clear hm0
          refine start_ (n := 40) (S := fun w' => w'.cell? ⟨gt, 0, none⟩ = some (.int .u64 (E1 : Int)) ∧ w'.cell? ⟨gt, 1, none⟩ = some (.int .u64 (a : Int)) ∧ w'.cell? ⟨gt, 2, none⟩ = some (.int .u64 (b : Int)) ∧ w'.cell? ⟨g8, 0, none⟩ = some (.slice Aa h0L.length ca) ∧ w'.cell? ⟨g8, 1, none⟩ = some (.slice Ak kT.length ck)) (ds := []) #[false,false,false,false,false,false,false,false,false,false,false,false,false,false,false,false,false,false,false,false,false,false,false,false,false,false,false,false,false,false,false,false,false,false,false,false,false,false,false,false] (by kernel_rfl) rfl rfl ⟨y0, y1, y2, z0, z1⟩ (fun hHeld => ?_)
          refine pure_ (i := 0) (N := some 67) (v := ?_) (a' := ?_) #[true,false,false,false,false,false,false,false,false,false,false,false,false,false,false,false,false,false,false,false,false,false,false,false,false,false,false,false,false,false,false,false,false,false,false,false,false,false,false,false] rfl rfl (by kernel_rfl) (fun _ _ _ h => h) (Or.inl ⟨by rfl, ?_⟩) ?_ ?_
          rotate_left
          · intro w'
            go_simp
            with_reducible rfl
          rotate_left
          · simp only [Act.put, List.setIfInBounds_toArray, List.set_cons_zero, List.set_cons_succ, i64_w, i32_w]
            rfl
          refine pure_ (i := 1) (N := some 68) (v := ?_) (a' := ?_) #[true,true,false,false,false,false,false,false,false,false,false,false,false,false,false,false,false,false,false,false,false,false,false,false,false,false,false,false,false,false,false,false,false,false,false,false,false,false,false,false] rfl rfl (by kernel_rfl) (fun _ _ _ h => h) (Or.inl ⟨by rfl, ?_⟩) ?_ ?_
          rotate_left
          · intro w'
            go_simp
            with_reducible rfl
          rotate_left
          · simp only [Act.put, List.setIfInBounds_toArray, List.set_cons_zero, List.set_cons_succ, i64_w, i32_w]
            rfl
          refine pure_ (i := 2) (N := some 69) (v := ?_) (a' := ?_) #[true,true,true,false,false,false,false,false,false,false,false,false,false,false,false,false,false,false,false,false,false,false,false,false,false,false,false,false,false,false,false,false,false,false,false,false,false,false,false,false] rfl rfl (by kernel_rfl) (fun _ _ _ h => h) (Or.inl ⟨by rfl, ?_⟩) ?_ ?_
          rotate_left
          · intro w'
            go_simp
            with_reducible rfl
          rotate_left
          · simp only [Act.put, List.setIfInBounds_toArray, List.set_cons_zero, List.set_cons_succ, i64_w, i32_w]
            rfl
          refine pure_ (i := 3) (N := some 70) (v := ?_) (a' := ?_) #[true,true,true,true,false,false,false,false,false,false,false,false,false,false,false,false,false,false,false,false,false,false,false,false,false,false,false,false,false,false,false,false,false,false,false,false,false,false,false,false] rfl rfl (by kernel_rfl) (fun _ _ _ h => h) (Or.inl ⟨by rfl, ?_⟩) ?_ ?_
          rotate_left
          · intro w'
            go_simp
            with_reducible rfl
          rotate_left
          · simp only [Act.put, List.setIfInBounds_toArray, List.set_cons_zero, List.set_cons_succ, i64_w, i32_w]
            rfl
          refine pure_ (i := 5) (N := some 72) (v := ?_) (a' := ?_) #[true,true,true,true,false,true,false,false,false,false,false,false,false,false,false,false,false,false,false,false,false,false,false,false,false,false,false,false,false,false,false,false,false,false,false,false,false,false,false,false] rfl rfl (by kernel_rfl) (fun _ _ _ h => h) (Or.inl ⟨by rfl, ?_⟩) ?_ ?_
          rotate_left
          · intro w'
            go_simp
            with_reducible rfl
          rotate_left
          · simp only [Act.put, List.setIfInBounds_toArray, List.set_cons_zero, List.set_cons_succ, i64_w, i32_w]
            rfl
          refine take_ (i := 4) (N := some 71) (v := ?_) (a' := ?_) #[true,true,true,true,true,true,false,false,false,false,false,false,false,false,false,false,false,false,false,false,false,false,false,false,false,false,false,false,false,false,false,false,false,false,false,false,false,false,false,false] rfl rfl (by kernel_rfl) (fun _ _ _ h => h) (Or.inl ⟨by rfl, ?_⟩) hHeld ?_ ?_
          rotate_left
          · rintro w' ⟨s0, s1, s2, s3, s4⟩
            go_simp
            with_reducible rfl
          rotate_left
          · simp only [Act.put, List.setIfInBounds_toArray, List.set_cons_zero, List.set_cons_succ, i64_w, i32_w]
            rfl
          refine pure_ (i := 6) (N := some 73) (v := ?_) (a' := ?_) #[true,true,true,true,true,true,true,false,false,false,false,false,false,false,false,false,false,false,false,false,false,false,false,false,false,false,false,false,false,false,false,false,false,false,false,false,false,false,false,false] rfl rfl (by kernel_rfl) (fun _ _ _ h => h) (Or.inl ⟨by rfl, ?_⟩) ?_ ?_
          rotate_left
          · intro w'
            go_simp
            with_reducible rfl
          rotate_left
          · simp only [Act.put, List.setIfInBounds_toArray, List.set_cons_zero, List.set_cons_succ, i64_w, i32_w]
            rfl
          refine pure_ (i := 7) (N := some 74) (v := ?_) (a' := ?_) #[true,true,true,true,true,true,true,true,false,false,false,false,false,false,false,false,false,false,false,false,false,false,false,false,false,false,false,false,false,false,false,false,false,false,false,false,false,false,false,false] rfl rfl (by kernel_rfl) (fun _ _ _ h => h) (Or.inl ⟨by rfl, ?_⟩) ?_ ?_
          rotate_left
          · intro w'
            go_simp
            with_reducible rfl
          rotate_left
          · simp only [Act.put, List.setIfInBounds_toArray, List.set_cons_zero, List.set_cons_succ, i64_w, i32_w]
            rfl
          refine pure_ (i := 8) (N := some 75) (v := ?_) (a' := ?_) #[true,true,true,true,true,true,true,true,true,false,false,false,false,false,false,false,false,false,false,false,false,false,false,false,false,false,false,false,false,false,false,false,false,false,false,false,false,false,false,false] rfl rfl (by kernel_rfl) (fun _ _ _ h => h) (Or.inl ⟨by rfl, ?_⟩) ?_ ?_
          rotate_left
          · intro w'
            go_simp
            with_reducible rfl
          rotate_left
          · simp only [Act.put, List.setIfInBounds_toArray, List.set_cons_zero, List.set_cons_succ, i64_w, i32_w]
            rfl
          refine pure_ (i := 9) (N := some 76) (v := ?_) (a' := ?_) #[true,true,true,true,true,true,true,true,true,true,false,false,false,false,false,false,false,false,false,false,false,false,false,false,false,false,false,false,false,false,false,false,false,false,false,false,false,false,false,false] rfl rfl (by kernel_rfl) (fun _ _ _ h => h) (Or.inl ⟨by rfl, ?_⟩) ?_ ?_
          rotate_left
          · intro w'
            go_simp
            with_reducible rfl
          rotate_left
          · simp only [Act.put, List.setIfInBounds_toArray, List.set_cons_zero, List.set_cons_succ, i64_w, i32_w]
            rfl
          refine pure_ (i := 11) (N := some 78) (v := ?_) (a' := ?_) #[true,true,true,true,true,true,true,true,true,true,false,true,false,false,false,false,false,false,false,false,false,false,false,false,false,false,false,false,false,false,false,false,false,false,false,false,false,false,false,false] rfl rfl (by kernel_rfl) (fun _ _ _ h => h) (Or.inl ⟨by rfl, ?_⟩) ?_ ?_
          rotate_left
          · intro w'
            go_simp
            with_reducible rfl
          rotate_left
          · simp only [Act.put, List.setIfInBounds_toArray, List.set_cons_zero, List.set_cons_succ, i64_w, i32_w]
            rfl
          refine one_ (i := 10) (N := some 77) #[true,true,true,true,true,true,true,true,true,true,true,true,false,false,false,false,false,false,false,false,false,false,false,false,false,false,false,false,false,false,false,false,false,false,false,false,false,false,false,false] rfl rfl (by kernel_rfl) (by decide) (fun K hK => ?_)
          refine goes_ Try.func54 (by kernel_rfl) rfl #[.pointer (some ⟨g, 0, none⟩)] (by rfl) rfl rfl (by (try simp only [List.map_toArray, List.map_cons, List.map_nil]); first | done | rfl) ?_
          with_reducible refine (sealEpoch_calls _ g (E1 : Int) (b : Int) (keyE s E1) HSD.out).mono ?_
          rintro v w8 ⟨rfl, hb8⟩
          refine ⟨_, rfl, ?_⟩
          refine hK.out _ _ ⟨(pw_cell_below hb8 hHeld.1), (pw_cell_below hb8 hHeld.2.1), (pw_cell_below hb8 hHeld.2.2.1), (pw_cell_below hb8 hHeld.2.2.2.1), (pw_cell_below hb8 hHeld.2.2.2.2)⟩ (fun hHeld => ?_)
          clear hK K
          refine norm_ (a' := ?_) ?_ ?_
          rotate_left
          · show Act.put _ (some 77) _ = _
            simp only [Act.put, List.setIfInBounds_toArray, List.set_cons_zero, List.set_cons_succ, i64_w, i32_w]
            rfl
          refine pure_ (i := 12) (N := some 79) (v := ?_) (a' := ?_) #[true,true,true,true,true,true,true,true,true,true,true,true,true,false,false,false,false,false,false,false,false,false,false,false,false,false,false,false,false,false,false,false,false,false,false,false,false,false,false,false] rfl rfl (by kernel_rfl) (fun _ _ _ h => h) (Or.inl ⟨by rfl, ?_⟩) ?_ ?_
          rotate_left
          · intro w'
            go_simp
            with_reducible rfl
          rotate_left
          · simp only [Act.put, List.setIfInBounds_toArray, List.set_cons_zero, List.set_cons_succ, i64_w, i32_w]
            rfl
          refine pure_ (i := 13) (N := some 80) (v := ?_) (a' := ?_) #[true,true,true,true,true,true,true,true,true,true,true,true,true,true,false,false,false,false,false,false,false,false,false,false,false,false,false,false,false,false,false,false,false,false,false,false,false,false,false,false] rfl rfl (by kernel_rfl) (fun _ _ _ h => h) (Or.inl ⟨by rfl, ?_⟩) ?_ ?_
          rotate_left
          · intro w'
            go_simp
            with_reducible rfl
          rotate_left
          · simp only [Act.put, List.setIfInBounds_toArray, List.set_cons_zero, List.set_cons_succ, i64_w, i32_w]
            rfl
          refine pure_ (i := 14) (N := some 81) (v := ?_) (a' := ?_) #[true,true,true,true,true,true,true,true,true,true,true,true,true,true,true,false,false,false,false,false,false,false,false,false,false,false,false,false,false,false,false,false,false,false,false,false,false,false,false,false] rfl rfl (by kernel_rfl) (fun _ _ _ h => h) (Or.inl ⟨by rfl, ?_⟩) ?_ ?_
          rotate_left
          · intro w'
            go_simp
            with_reducible rfl
          rotate_left
          · simp only [Act.put, List.setIfInBounds_toArray, List.set_cons_zero, List.set_cons_succ, i64_w, i32_w]
            rfl
          refine pure_ (i := 15) (N := some 82) (v := ?_) (a' := ?_) #[true,true,true,true,true,true,true,true,true,true,true,true,true,true,true,true,false,false,false,false,false,false,false,false,false,false,false,false,false,false,false,false,false,false,false,false,false,false,false,false] rfl rfl (by kernel_rfl) (fun _ _ _ h => h) (Or.inl ⟨by rfl, ?_⟩) ?_ ?_
          rotate_left
          · intro w'
            go_simp
            with_reducible rfl
          rotate_left
          · simp only [Act.put, List.setIfInBounds_toArray, List.set_cons_zero, List.set_cons_succ, i64_w, i32_w]
            rfl
          refine pure_ (i := 17) (N := some 84) (v := ?_) (a' := ?_) #[true,true,true,true,true,true,true,true,true,true,true,true,true,true,true,true,false,true,false,false,false,false,false,false,false,false,false,false,false,false,false,false,false,false,false,false,false,false,false,false] rfl rfl (by kernel_rfl) (fun _ _ _ h => h) (Or.inl ⟨by rfl, ?_⟩) ?_ ?_
          rotate_left
          · intro w'
            go_simp
            with_reducible rfl
          rotate_left
          · simp only [Act.put, List.setIfInBounds_toArray, List.set_cons_zero, List.set_cons_succ, i64_w, i32_w]
            rfl
          refine take_ (i := 16) (N := some 83) (v := ?_) (a' := ?_) #[true,true,true,true,true,true,true,true,true,true,true,true,true,true,true,true,true,true,false,false,false,false,false,false,false,false,false,false,false,false,false,false,false,false,false,false,false,false,false,false] rfl rfl (by kernel_rfl) (fun _ _ _ h => h) (Or.inl ⟨by rfl, ?_⟩) hHeld ?_ ?_
          rotate_left
          · rintro w' ⟨s0, s1, s2, s3, s4⟩
            go_simp
            with_reducible rfl
          rotate_left
          · simp only [Act.put, List.setIfInBounds_toArray, List.set_cons_zero, List.set_cons_succ, i64_w, i32_w]
            rfl
          refine pure_ (i := 18) (N := some 85) (v := ?_) (a' := ?_) #[true,true,true,true,true,true,true,true,true,true,true,true,true,true,true,true,true,true,true,false,false,false,false,false,false,false,false,false,false,false,false,false,false,false,false,false,false,false,false,false] rfl rfl (by kernel_rfl) (fun _ _ _ h => h) (Or.inl ⟨by rfl, ?_⟩) ?_ ?_
          rotate_left
          · intro w'
            go_simp
            with_reducible rfl
          rotate_left
          · simp only [Act.put, List.setIfInBounds_toArray, List.set_cons_zero, List.set_cons_succ, i64_w, i32_w]
            rfl
          refine pure_ (i := 19) (N := some 86) (v := ?_) (a' := ?_) #[true,true,true,true,true,true,true,true,true,true,true,true,true,true,true,true,true,true,true,true,false,false,false,false,false,false,false,false,false,false,false,false,false,false,false,false,false,false,false,false] rfl rfl (by kernel_rfl) (fun _ _ _ h => h) (Or.inl ⟨by rfl, ?_⟩) ?_ ?_
          rotate_left
          · intro w'
            go_simp
            with_reducible rfl
          rotate_left
          · simp only [Act.put, List.setIfInBounds_toArray, List.set_cons_zero, List.set_cons_succ, i64_w, i32_w]
            rfl
          refine pure_ (i := 20) (N := some 87) (v := ?_) (a' := ?_) #[true,true,true,true,true,true,true,true,true,true,true,true,true,true,true,true,true,true,true,true,true,false,false,false,false,false,false,false,false,false,false,false,false,false,false,false,false,false,false,false] rfl rfl (by kernel_rfl) (fun _ _ _ h => h) (Or.inl ⟨by rfl, ?_⟩) ?_ ?_
          rotate_left
          · intro w'
            go_simp
            with_reducible rfl
          rotate_left
          · simp only [Act.put, List.setIfInBounds_toArray, List.set_cons_zero, List.set_cons_succ, i64_w, i32_w]
            rfl
          refine pure_ (i := 21) (N := some 88) (v := ?_) (a' := ?_) #[true,true,true,true,true,true,true,true,true,true,true,true,true,true,true,true,true,true,true,true,true,true,false,false,false,false,false,false,false,false,false,false,false,false,false,false,false,false,false,false] rfl rfl (by kernel_rfl) (fun _ _ _ h => h) (Or.inl ⟨by rfl, ?_⟩) ?_ ?_
          rotate_left
          · intro w'
            go_simp
            with_reducible rfl
          rotate_left
          · simp only [Act.put, List.setIfInBounds_toArray, List.set_cons_zero, List.set_cons_succ, i64_w, i32_w]
            rfl
          refine pure_ (i := 23) (N := some 90) (v := ?_) (a' := ?_) #[true,true,true,true,true,true,true,true,true,true,true,true,true,true,true,true,true,true,true,true,true,true,false,true,false,false,false,false,false,false,false,false,false,false,false,false,false,false,false,false] rfl rfl (by kernel_rfl) (fun _ _ _ h => h) (Or.inl ⟨by rfl, ?_⟩) ?_ ?_
          rotate_left
          · intro w'
            go_simp
            with_reducible rfl
          rotate_left
          · simp only [Act.put, List.setIfInBounds_toArray, List.set_cons_zero, List.set_cons_succ, i64_w, i32_w]
            rfl
          refine pure_ (i := 24) (N := some 91) (v := ?_) (a' := ?_) #[true,true,true,true,true,true,true,true,true,true,true,true,true,true,true,true,true,true,true,true,true,true,false,true,true,false,false,false,false,false,false,false,false,false,false,false,false,false,false,false] rfl rfl (by kernel_rfl) (fun _ _ _ h => h) (Or.inl ⟨by rfl, ?_⟩) ?_ ?_
          rotate_left
          · intro w'
            go_simp
            with_reducible rfl
          rotate_left
          · simp only [Act.put, List.setIfInBounds_toArray, List.set_cons_zero, List.set_cons_succ, i64_w, i32_w]
            rfl
          refine pure_ (i := 25) (N := some 92) (v := ?_) (a' := ?_) #[true,true,true,true,true,true,true,true,true,true,true,true,true,true,true,true,true,true,true,true,true,true,false,true,true,true,false,false,false,false,false,false,false,false,false,false,false,false,false,false] rfl rfl (by kernel_rfl) (fun _ _ _ h => h) (Or.inl ⟨by rfl, ?_⟩) ?_ ?_
          rotate_left
          · intro w'
            go_simp
            with_reducible rfl
          rotate_left
          · simp only [Act.put, List.setIfInBounds_toArray, List.set_cons_zero, List.set_cons_succ, i64_w, i32_w]
            rfl
          refine take_ (i := 22) (N := some 89) (v := ?_) (a' := ?_) #[true,true,true,true,true,true,true,true,true,true,true,true,true,true,true,true,true,true,true,true,true,true,true,true,true,true,false,false,false,false,false,false,false,false,false,false,false,false,false,false] rfl rfl (by kernel_rfl) (fun _ _ _ h => h) (Or.inl ⟨by rfl, ?_⟩) hHeld ?_ ?_
          rotate_left
          · rintro w' ⟨s0, s1, s2, s3, s4⟩
            go_simp
            with_reducible rfl
          rotate_left
          · simp only [Act.put, List.setIfInBounds_toArray, List.set_cons_zero, List.set_cons_succ, i64_w, i32_w]
            rfl
          refine pure_ (i := 26) (N := some 93) (v := ?_) (a' := ?_) #[true,true,true,true,true,true,true,true,true,true,true,true,true,true,true,true,true,true,true,true,true,true,true,true,true,true,true,false,false,false,false,false,false,false,false,false,false,false,false,false] rfl rfl (by kernel_rfl) (fun _ _ _ h => h) (Or.inl ⟨by rfl, ?_⟩) ?_ ?_
          rotate_left
          · intro w'
            go_simp
            with_reducible rfl
          rotate_left
          · simp only [Act.put, List.setIfInBounds_toArray, List.set_cons_zero, List.set_cons_succ, i64_w, i32_w]
            rfl
          refine pure_ (i := 27) (N := some 94) (v := ?_) (a' := ?_) #[true,true,true,true,true,true,true,true,true,true,true,true,true,true,true,true,true,true,true,true,true,true,true,true,true,true,true,true,false,false,false,false,false,false,false,false,false,false,false,false] rfl rfl (by kernel_rfl) (fun _ _ _ h => h) (Or.inl ⟨by rfl, ?_⟩) ?_ ?_
          rotate_left
          · intro w'
            go_simp
            with_reducible rfl
          rotate_left
          · simp only [Act.put, List.setIfInBounds_toArray, List.set_cons_zero, List.set_cons_succ, i64_w, i32_w]
            rfl
          refine pure_ (i := 28) (N := some 95) (v := ?_) (a' := ?_) #[true,true,true,true,true,true,true,true,true,true,true,true,true,true,true,true,true,true,true,true,true,true,true,true,true,true,true,true,true,false,false,false,false,false,false,false,false,false,false,false] rfl rfl (by kernel_rfl) (fun _ _ _ h => h) (Or.inl ⟨by rfl, ?_⟩) ?_ ?_
          rotate_left
          · intro w'
            go_simp
            with_reducible rfl
          rotate_left
          · simp only [Act.put, List.setIfInBounds_toArray, List.set_cons_zero, List.set_cons_succ, i64_w, i32_w]
            rfl
          refine pure_ (i := 29) (N := some 96) (v := ?_) (a' := ?_) #[true,true,true,true,true,true,true,true,true,true,true,true,true,true,true,true,true,true,true,true,true,true,true,true,true,true,true,true,true,true,false,false,false,false,false,false,false,false,false,false] rfl rfl (by kernel_rfl) (fun _ _ _ h => h) (Or.inl ⟨by rfl, ?_⟩) ?_ ?_
          rotate_left
          · intro w'
            go_simp
            with_reducible rfl
          rotate_left
          · simp only [Act.put, List.setIfInBounds_toArray, List.set_cons_zero, List.set_cons_succ, i64_w, i32_w]
            rfl
          refine pure_ (i := 30) (N := some 97) (v := ?_) (a' := ?_) #[true,true,true,true,true,true,true,true,true,true,true,true,true,true,true,true,true,true,true,true,true,true,true,true,true,true,true,true,true,true,true,false,false,false,false,false,false,false,false,false] rfl rfl (by kernel_rfl) (fun _ _ _ h => h) (Or.inl ⟨by rfl, ?_⟩) ?_ ?_
          rotate_left
          · intro w'
            go_simp
            with_reducible rfl
          rotate_left
          · simp only [Act.put, List.setIfInBounds_toArray, List.set_cons_zero, List.set_cons_succ, i64_w, i32_w]
            rfl
          refine pure_ (i := 32) (N := some 99) (v := ?_) (a' := ?_) #[true,true,true,true,true,true,true,true,true,true,true,true,true,true,true,true,true,true,true,true,true,true,true,true,true,true,true,true,true,true,true,false,true,false,false,false,false,false,false,false] rfl rfl (by kernel_rfl) (fun _ _ _ h => h) (Or.inl ⟨by rfl, ?_⟩) ?_ ?_
          rotate_left
          · intro w'
            go_simp
            with_reducible rfl
          rotate_left
          · simp only [Act.put, List.setIfInBounds_toArray, List.set_cons_zero, List.set_cons_succ, i64_w, i32_w]
            rfl
          refine pure_ (i := 35) (N := some 102) (v := ?_) (a' := ?_) #[true,true,true,true,true,true,true,true,true,true,true,true,true,true,true,true,true,true,true,true,true,true,true,true,true,true,true,true,true,true,true,false,true,false,false,true,false,false,false,false] rfl rfl (by kernel_rfl) (fun _ _ _ h => h) (Or.inl ⟨by rfl, ?_⟩) ?_ ?_
          rotate_left
          · intro w'
            go_simp
            with_reducible rfl
          rotate_left
          · simp only [Act.put, List.setIfInBounds_toArray, List.set_cons_zero, List.set_cons_succ, i64_w, i32_w]
            rfl
          refine take_ (i := 31) (N := some 98) (v := ?_) (a' := ?_) #[true,true,true,true,true,true,true,true,true,true,true,true,true,true,true,true,true,true,true,true,true,true,true,true,true,true,true,true,true,true,true,true,true,false,false,true,false,false,false,false] rfl rfl (by kernel_rfl) (fun _ _ _ h => h) (Or.inl ⟨by rfl, ?_⟩) hHeld ?_ ?_
          rotate_left
          · rintro w' ⟨s0, s1, s2, s3, s4⟩
            go_simp
            with_reducible rfl
          rotate_left
          · simp only [Act.put, List.setIfInBounds_toArray, List.set_cons_zero, List.set_cons_succ, i64_w, i32_w]
            rfl
          refine one_ (i := 33) (N := some 100) #[true,true,true,true,true,true,true,true,true,true,true,true,true,true,true,true,true,true,true,true,true,true,true,true,true,true,true,true,true,true,true,true,true,true,false,true,false,false,false,false] rfl rfl (by kernel_rfl) (by decide) (fun K hK => ?_)
          refine load_mid_if (by rfl) 74 (.tmp 15) rfl gt 0 rfl X.cells _ (range_below (range_blk HTB.out) (below_step (below_drew (Below.refl _ _)) hb8)) Try.underlying74 rfl (Tg.infoL HXO.out) ?_
          refine hK.out _ _ ⟨hHeld.1, hHeld.2.1, hHeld.2.2.1, hHeld.2.2.2.1, hHeld.2.2.2.2⟩ (fun hHeld => ?_)
          clear hK K
          refine norm_ (a' := ?_) ?_ ?_
          rotate_left
          · show Act.put _ (some 100) _ = _
            simp only [Act.put, List.setIfInBounds_toArray, List.set_cons_zero, List.set_cons_succ, i64_w, i32_w]
            rfl
          refine one_ (i := 34) (N := some 101) #[true,true,true,true,true,true,true,true,true,true,true,true,true,true,true,true,true,true,true,true,true,true,true,true,true,true,true,true,true,true,true,true,true,true,true,true,false,false,false,false] rfl rfl (by kernel_rfl) (by decide) (fun K hK => ?_)
          refine goes_ Try.func47 (by kernel_rfl) rfl #[.agg X.cells.toArray] (by rfl) rfl rfl (by (try simp only [List.map_toArray, List.map_cons, List.map_nil]); first | done | rfl) ?_
          with_reducible refine (CO.out _).mono ?_
          rintro v w9 ⟨rfl, hb9⟩
          refine ⟨_, rfl, ?_⟩
          refine hK.out _ _ ⟨(pw_cell_below hb9 hHeld.1), (pw_cell_below hb9 hHeld.2.1), (pw_cell_below hb9 hHeld.2.2.1), (pw_cell_below hb9 hHeld.2.2.2.1), (pw_cell_below hb9 hHeld.2.2.2.2)⟩ (fun hHeld => ?_)
          clear hK K
          refine norm_ (a' := ?_) ?_ ?_
          rotate_left
          · show Act.put _ (some 101) _ = _
            simp only [Act.put, List.setIfInBounds_toArray, List.set_cons_zero, List.set_cons_succ, i64_w, i32_w]
            rfl
          refine one_ (i := 36) (N := some 103) #[true,true,true,true,true,true,true,true,true,true,true,true,true,true,true,true,true,true,true,true,true,true,true,true,true,true,true,true,true,true,true,true,true,true,true,true,true,false,false,false] rfl rfl (by kernel_rfl) (by decide) (fun K hK => ?_)
          refine goes_ Try.func65 (by kernel_rfl) rfl #[.agg #[.slice Aa h0L.length ca, .slice Ak kT.length ck], u, .agg #[.int .u64 (E1 : Int), .int .u64 (a : Int), .int .u64 (b : Int), .slice (some ⟨w8.heap.size, 3, none⟩) 32 32], .slice A5 b c5] (by rfl) rfl rfl (by (try simp only [List.map_toArray, List.map_cons, List.map_nil]); first | done | rfl) ?_
          with_reducible refine (CU.out _ (below_step (below_step (below_drew (Below.refl _ _)) hb8) hb9) _).mono ?_
          rintro v w10 ⟨v10, rfl, ho10, hb10⟩
          refine ⟨_, rfl, ?_⟩
          refine hK.out _ _ ⟨(pw_cell_below hb10 hHeld.1), (pw_cell_below hb10 hHeld.2.1), (pw_cell_below hb10 hHeld.2.2.1), (pw_cell_below hb10 hHeld.2.2.2.1), (pw_cell_below hb10 hHeld.2.2.2.2)⟩ (fun hHeld => ?_)
          clear hK K
          refine norm_ (a' := ?_) ?_ ?_
          rotate_left
          · show Act.put _ (some 103) _ = _
            simp only [Act.put, List.setIfInBounds_toArray, List.set_cons_zero, List.set_cons_succ, i64_w, i32_w]
            rfl
          refine one_ (i := 37) (N := some 104) #[true,true,true,true,true,true,true,true,true,true,true,true,true,true,true,true,true,true,true,true,true,true,true,true,true,true,true,true,true,true,true,true,true,true,true,true,true,true,false,false] rfl rfl (by kernel_rfl) (by decide) (fun K hK => ?_)
          refine goes_ Try.func50 (by kernel_rfl) rfl #[.slice (some ⟨gt, 3, none⟩) 32 32, v10] (by rfl) rfl rfl (by (try simp only [List.map_toArray, List.map_cons, List.map_nil]); first | done | rfl) ?_
          with_reducible refine (Same_calls _ _ S S _ (rd_range (range_below HRS.out (below_step (below_step (below_step (below_drew (Below.refl _ _)) hb8) hb9) hb10)) HSL.out (Nat.le_refl _) (by decide)) ho10.rd HSB.out HSB.out).mono ?_
          rintro v w11 ⟨rfl, hb11⟩
          refine ⟨_, rfl, ?_⟩
          rw [decide_eq_true (show S = S from rfl)]
          refine hK.out _ _ ⟨(pw_cell_below hb11 hHeld.1), (pw_cell_below hb11 hHeld.2.1), (pw_cell_below hb11 hHeld.2.2.1), (pw_cell_below hb11 hHeld.2.2.2.1), (pw_cell_below hb11 hHeld.2.2.2.2)⟩ (fun hHeld => ?_)
          clear hK K
          refine norm_ (a' := ?_) ?_ ?_
          rotate_left
          · show Act.put _ (some 104) _ = _
            simp only [Act.put, List.setIfInBounds_toArray, List.set_cons_zero, List.set_cons_succ, i64_w, i32_w]
            rfl
          refine pure_ (i := 38) (N := some 105) (v := ?_) (a' := ?_) #[true,true,true,true,true,true,true,true,true,true,true,true,true,true,true,true,true,true,true,true,true,true,true,true,true,true,true,true,true,true,true,true,true,true,true,true,true,true,true,false] rfl rfl (by kernel_rfl) (fun _ _ _ h => h) (Or.inl ⟨by rfl, ?_⟩) ?_ ?_
          rotate_left
          · intro w'
            go_simp
            with_reducible rfl
          rotate_left
          · simp only [Act.put, List.setIfInBounds_toArray, List.set_cons_zero, List.set_cons_succ, i64_w, i32_w]
            rfl
          refine pure_ (i := 39) (N := some 106) (v := ?_) (a' := ?_) #[true,true,true,true,true,true,true,true,true,true,true,true,true,true,true,true,true,true,true,true,true,true,true,true,true,true,true,true,true,true,true,true,true,true,true,true,true,true,true,true] rfl rfl (by kernel_rfl) (fun _ _ _ h => h) (Or.inl ⟨by rfl, ?_⟩) ?_ ?_
          rotate_left
          · intro w'
            go_simp
            with_reducible rfl
          rotate_left
          · simp only [Act.put, List.setIfInBounds_toArray, List.set_cons_zero, List.set_cons_succ, i64_w, i32_w]
            rfl
          refine done_ (by kernel_rfl) ?_
          have HBX := Aside0.mk (below_step (below_step (below_step (below_step (below_drew (Below.refl w7.heap.size w7)) hb8) hb9) hb10) hb11)
          clear hb8 hb9 hb10 hb11 ho10 y0 y1 y2 z0 z1 q1 q2 q3 hwb
          have HS11 := Aside0.mk (HS7.out.below HBX.out)
          have HTX := Aside0.mk (range_blk (blk_below HTB.out HBX.out))
          have hfo0 := tgC_fold0 HXO.out
          have hxl := Tg.len HXO.out
          obtain ⟨A12, c12, w12, hq12, ho12, hk12⟩ := app_tag X HXO.out (HOK.out i) HS11.out.ot HK10.out HS11.out.bel.size (by omega)
          have HQ12 := Aside0.mk hq12
          have HS12 := Aside0.mk (HS11.out.tag hk12 ho12)
          clear hq12 ho12 hk12
          go_upto_region 8 with (first | (refine wpList_load_mid rfl 74 (.tmp 15) rfl gt 0 rfl X.cells _ HTX.out Try.underlying74 rfl (Tg.infoL HXO.out) ?_) | ((with_reducible refine gate_builtin (b := .append) (xs := #[.tmp 107, .tmp 109]) rfl ?_); at_builtin; refine app_list rfl (.tmp 107) (.tmp 109) rfl rfl rfl HQ12.out ?_))
          clear hfo0 hxl HQ12 HS11 HTX
          go_wp2_with fail
          go_roundw
          case rel => exact ⟨i + 1, by omega, by go_num, by rw [HEE.out], HFIN.out _ _ _ _ HTSE.out HS12.out⟩
          case measure => simp [intOf] <;> omega
      · obtain rfl : i = n := by omega
        go_wp2_with fail
        go_meet
        have e : l.take i = l := by rw [← HLN.out, List.take_length]
        rw [e] at HS
        exact ⟨HS.out.ov, HS.out.ot, Aside0.mk HS.out.bel⟩
  case rest =>
  go_wp2_with fail
  go_ret3
  exact ⟨_, _, rfl, hcut.1, hcut.2.1, hcut.2.2.out⟩
end Go.Proofs.Ytplmdgimodgekaa
end
section
/- Seals: Check. -/
namespace Go.Proofs.Ytplmdgimodgekaa
open Go.RowKit Go.Proofs.YtplmdgimodgekaaW.PrintWords Go.Proofs.YtplmdgimodgekaaW.PrintLast Go.Proofs.YtplmdgimodgekaaW.PrintMore
attribute [local go_sem] max2_int min2_int max_two min_two max_three min_three max_four min_four
/-- A binary operation, by its run. -/
theorem wpList_bin {P : Program} {ops : Array Oper} {rest : List Oper} {op : Oper} {a : Act} {w : World} {Q : Exit → Act → World → Prop} (hgd : op.guard = none) {b : BinOp} {t r : TypeId} {x y : Operand} (ho : op.op = .binOp b t x y r) {u1 u2 v : Value} (hx : a.eval x = u1) (hy : a.eval y = u2)
    (hg : (eqGuard b t x y u1 u2).run P w = .ok () w) (hb : (binOp b t u1 u2).run P w = .ok v w) (h : wpList P ops Q rest (a.put op.dst v) w) : wpList P ops Q (op :: rest) a w :=
  wpList_plain hgd fun K hK => by
    unfold Oper.wp execOp
    simp only [ho, hx, hy, hg, hb, Sem.run_bind, Sem.run_pure, Result.andThen_ok]
    exact hK _ _ h
open Extern.Stop (cell) in
theorem nums_cells {l : List Int} (h : isB l) : nums .u8 l = (l.map fun n => UInt8.ofNat n.toNat).map cell := by
  rw [nums, List.map_map]
  refine List.map_congr_left fun x hx => ?_
  have := h x hx
  show Value.int .u8 x = .int .u8 ((UInt8.ofNat x.toNat).toNat : Nat)
  congr 1
  simp
  omega
theorem bytes_eq {l m : List Int} (h : isB l) (h' : isB m) : ((l.map fun n => UInt8.ofNat n.toNat) == (m.map fun n => UInt8.ofNat n.toNat)) = decide (l = m) := by
  by_cases e : l = m
  · rw [decide_eq_true e, e]; simp
  · rw [decide_eq_false e, beq_eq_false_iff_ne]
    intro hc
    refine e (List.ext_getElem ?_ (fun i h1 h2 => ?_))
    · have := congrArg List.length hc
      simpa using this
    · have := congrArg (fun z : List UInt8 => z[i]?) hc
      simp only [List.getElem?_map, List.getElem?_eq_getElem h1, List.getElem?_eq_getElem h2, Option.map_some, Option.some.injEq] at this
      have a := h _ (List.getElem_mem h1)
      have b := h' _ (List.getElem_mem h2)
      have := congrArg UInt8.toNat this
      simp at this
      omega
theorem neq32 {l m : List Int} (h : isB l) (hl : l.length = 32) (h' : isB m) (hm : m.length = 32) (w : World) : (binOp .neq 72 (.agg (nums .u8 l).toArray) (.agg (nums .u8 m).toArray)).run Try.prog w = .ok (.bool (!decide (l = m))) w := by
  have hsz : ∀ w, (sizeOf 5).run Try.prog w = .ok 1 w := fun w => by kernel_rfl
  have hd : Op.maxDepth = 9998 + 2 := rfl
  show (do pure (.bool (!(← Op.equal 72 (.agg (nums .u8 l).toArray) (.agg (nums .u8 m).toArray)))) : Sem Value).run Try.prog w = _
  have key := run_equalIn_bytes w 9998 72 5 32 Try.underlying72 Try.underlying5 hsz (l.map fun n => UInt8.ofNat n.toNat) (m.map fun n => UInt8.ofNat n.toNat) (by rw [List.length_map]; exact hl) (by rw [List.length_map]; exact hm)
  rw [Op.equal, hd, nums_cells h, nums_cells h']
  simp only [Sem.run_bind, key, Result.andThen_ok, Sem.run_pure, bytes_eq h h']
theorem guard32 (x y : Operand) (l m : Array Value) (w : World) : (eqGuard .neq 72 x y (.agg l) (.agg m)).run Try.prog w = .ok () w := by
  have h : Try.prog.eqGuardType Try.prog.depth 72 = false := by kernel_rfl
  simp [eqGuard, h]
theorem szC (e f t : Int) {s : List Int} (h : s.length = 32) : 35 = (tgC e f t s).toArray.size := by rw [List.size_toArray, tgC_len h]
theorem bin_if {P : Program} {ops : Array Oper} {o : Oper} {a : Act} {W : World} {Q : Exit → Act → World → Prop} {Kc : Act → World → Prop} (hw : Region.wanted o (yielded ops a.tmps) = true) {b : BinOp} {t r : TypeId} {x y : Operand} (ho : o.op = .binOp b t x y r) {u1 u2 v : Value} (hx : a.eval x = u1) (hy : a.eval y = u2)
    (hg : (eqGuard b t x y u1 u2).run P W = .ok () W) (hb : (binOp b t u1 u2).run P W = .ok v W) (h : Kc (a.put o.dst v) W) : if Region.wanted o (yielded ops a.tmps) = true then Oper.wp P o a W Kc Q else Kc (a.put o.dst undef) W := by
  rw [if_pos hw]
  unfold Oper.wp execOp
  simp only [ho, hx, hy, hg, hb, Sem.run_bind, Sem.run_pure, Result.andThen_ok]
  exact h
/-- How far tags seal bytes: the document's rule. -/
def ckGo (s L : List Int) : List Tg → Int → Int → Option Int
  | [], _, tw => some tw
  | x :: xs, ep, tw => if x.e < ep ∨ 1000 < x.e ∨ x.f ≠ tw ∨ x.t ≤ x.f ∨ (L.length : Int) < x.t then none else if suP (keyE s x.e.toNat) x.e x.f.toNat x.t.toNat L = x.s then ckGo s L xs x.e x.t else none
def ckV (r : Option Int) : Value := match r with
  | some n => .tuple #[.int .i64 n, .int .i64 0]
  | none => .tuple #[.int .i64 0, .int .i64 27]
theorem ckGo_bad {s L : List Int} {x : Tg} {xs : List Tg} {ep tw : Int} (h : x.e < ep ∨ 1000 < x.e ∨ x.f ≠ tw ∨ x.t ≤ x.f ∨ (L.length : Int) < x.t) : ckGo s L (x :: xs) ep tw = none := by rw [ckGo, if_pos h]
theorem ckGo_sum {s L : List Int} {x : Tg} {xs : List Tg} {ep tw : Int} (h : ¬ (x.e < ep ∨ 1000 < x.e ∨ x.f ≠ tw ∨ x.t ≤ x.f ∨ (L.length : Int) < x.t)) (h2 : suP (keyE s x.e.toNat) x.e x.f.toNat x.t.toNat L ≠ x.s) : ckGo s L (x :: xs) ep tw = none := by rw [ckGo, if_neg h, if_neg h2]
theorem ckGo_ok {s L : List Int} {x : Tg} {xs : List Tg} {ep tw : Int} (h : ¬ (x.e < ep ∨ 1000 < x.e ∨ x.f ≠ tw ∨ x.t ≤ x.f ∨ (L.length : Int) < x.t)) (h2 : suP (keyE s x.e.toNat) x.e x.f.toNat x.t.toNat L = x.s) : ckGo s L (x :: xs) ep tw = ckGo s L xs x.e x.t := by rw [ckGo, if_neg h, if_pos h2]
set_option maxHeartbeats 8000000 in
set_option maxRecDepth 100000 in
theorem Check_calls (u ub vt : Value) (s L : List Int) (xs : List Tg) (w : World) (hr : Rd w .u8 u s) (hib : isB s) (hL : s.length ≤ 80000) (hrb : Rd w .u8 ub L) (hibL : isB L) (hLL : L.length ≤ 80000) (ht : TRd w vt xs) (hok : ∀ x ∈ xs, x.ok) (hn : xs.length ≤ 10000) :
    Calls Try.prog 25 #[u, ub, vt] w fun e w' => e = .returned (ckV (ckGo s L xs 0 0)) ∧ Below w.heap.size w w' := by
  obtain ⟨N, hN⟩ : ∃ N, L.length = N := ⟨_, rfl⟩
  obtain ⟨n, hNX⟩ : ∃ n, xs.length = n := ⟨_, rfl⟩
  obtain ⟨A0, c0, ev, _⟩ := hrb.mid
  subst ev
  have HT := Aside0.mk ht
  obtain ⟨At, ct, rfl, hct, _⟩ := ht
  obtain ⟨R, hR⟩ : ∃ R, ckGo s L xs 0 0 = R := ⟨_, rfl⟩
  rw [hN] at hrb hLL ⊢
  rw [hNX] at hn hct HT ⊢
  rw [hR]
  have HR := Aside0.mk hr
  have HIB := Aside0.mk hib
  have HRB := Aside0.mk hrb
  have HIL := Aside0.mk hibL
  have HN := Aside0.mk hN
  have HNX := Aside0.mk hNX
  have HOK := Aside0.mk hok
  have HGO := Aside0.mk (show ckGo s L (xs.drop 0) ((0 : Nat) : Int) ((0 : Nat) : Int) = R from hR)
  clear hr hib hrb hibL hN hNX hok hR
  go_enter Try.func25, Try.ntmps25
  go_wp2_with fail
  with_reducible refine (begin_calls u s _ HR.out HIB.out (by omega)).mono ?_
  rintro e w1 ⟨rfl, hb⟩
  have HB := Aside0.mk hb
  have HKZ := Aside0.mk (keyE_len s 0)
  rw [show bgP s = keyE s 0 from rfl]
  have HK0 := Aside0.mk (blk_new w1 (.cells (nums .u8 (keyE s 0)).toArray 72))
  have HB1 := Aside0.mk (below_step HB.out (below_alloc (Below.refl w1.heap.size w1) (.cells (nums .u8 (keyE s 0)).toArray 72)))
  have HG8 := Aside0.mk (HB.out.size)
  clear hb
  go_upto_block 0 with (first | (refine wpList_store_fresh rfl 72 (.tmp 8) (.tmp 14) rfl _ (nums .u8 (keyE s 0)).toArray rfl rfl (info32S HKZ.out) (sz32S HKZ.out) (ones_nums _ _) ?_) | fail)
  obtain ⟨g8, hg8⟩ : ∃ g, w1.heap.size = g := ⟨_, rfl⟩
  obtain ⟨w2, hw2⟩ : ∃ wx, w1.alloc (.cells (nums .u8 (keyE s 0)).toArray 72) = wx := ⟨_, rfl⟩
  rw [hg8] at HK0 HG8 ⊢
  rw [hw2] at HK0 HB1 ⊢
  clear hg8 hw2 HKZ HB
  go_cut [10] (fun v wx => ∃ tw : Nat, tw ≤ N ∧ v = .int .u64 (tw : Int) ∧ R = some (tw : Int) ∧ Aside0 (Below w.heap.size w wx))
  case first => as_aux_lemma =>
    go_wp2_with fail
    go_loopw [9, 10, 17] (fun v9 v10 v17 w' => ∃ (i ep tw : Nat), i ≤ n ∧ tw ≤ N ∧ ep ≤ 1000 ∧ v17 = .int .i64 (i : Int) ∧ v9 = .int .u64 (ep : Int) ∧ v10 = .int .u64 (tw : Int) ∧ Aside0 (ckGo s L (xs.drop i) (ep : Int) (tw : Int) = R) ∧ Aside0 (w'.heap[g8]? = some (.cells (nums .u8 (keyE s ep)).toArray 72 (0, 0))) ∧ Aside0 (Below w.heap.size w w')) (fun _ _ v17 _ => n - (intOf v17).toNat)
    case atStart => exact ⟨0, 0, 0, by omega, by omega, by omega, rfl, rfl, rfl, HGO, HK0, HB1⟩
    case round =>
      clear HGO HK0 HB1
      obtain ⟨i, ep, tw, hi, htw, hep, rfl, rfl, rfl, HGO, HK, HB⟩ := hrel
      by_cases c2 : i < n
      · have hil : i < xs.length := by rw [HNX.out]; exact c2
        have hxo := HOK.out _ (List.getElem_mem hil)
        have hdr := List.drop_eq_getElem_cons hil
        obtain ⟨b, o, rfl, hbl, hr⟩ := HT.out.get (by omega)
        have hrx := range_below (hr i hil) HB.out
        obtain ⟨x, hx⟩ : ∃ x, xs[i] = x := ⟨_, rfl⟩
        rw [hx] at hxo hdr hrx
        clear hr hx
        obtain ⟨xe, xf, xt, Sx⟩ := x
        have h3 := hxo.1
        have he := h3 xe (by simp)
        have hf := h3 xf (by simp)
        have ht := h3 xt (by simp)
        obtain ⟨Ex, rfl⟩ := Int.eq_ofNat_of_zero_le he.1
        obtain ⟨Fx, rfl⟩ := Int.eq_ofNat_of_zero_le hf.1
        obtain ⟨Tx, rfl⟩ := Int.eq_ofNat_of_zero_le ht.1
        have HXO := Aside0.mk hxo
        have HDR := Aside0.mk hdr
        have HRX := Aside0.mk hrx
        have hSx := hxo.2.1
        have HSL := Aside0.mk hSx
        have HSB := Aside0.mk hxo.2.2
        have HTB := Aside0.mk (blk_new wr (.cells (tgC (Ex : Int) (Fx : Int) (Tx : Int) Sx).toArray 74))
        have HBT := Aside0.mk (below_alloc (Below.refl wr.heap.size wr) (.cells (tgC (Ex : Int) (Fx : Int) (Tx : Int) Sx).toArray 74))
        clear hxo hdr hrx h3 hSx
        go_upto_region 5 with (first | (refine wpList_load_mid rfl 74 (.tmp 19) rfl b (o + i * 35) rfl (tgC (Ex : Int) (Fx : Int) (Tx : Int) Sx) _ HRX.out Try.underlying74 rfl (info35L HSL.out) ?_) | (refine wpList_store_fresh rfl 74 (.tmp 12) (.tmp 20) rfl _ (tgC (Ex : Int) (Fx : Int) (Tx : Int) Sx).toArray rfl rfl (info35S HSL.out) (szC _ _ _ HSL.out) (ones_tag _ _ _ _) ?_) | fail)
        obtain ⟨gt, hgt⟩ : ∃ g, wr.heap.size = g := ⟨_, rfl⟩
        obtain ⟨wt, hwt⟩ : ∃ wx, wr.alloc (.cells (tgC (Ex : Int) (Fx : Int) (Tx : Int) Sx).toArray 74) = wx := ⟨_, rfl⟩
        have HKT := Aside0.mk (blk_below HK.out HBT.out)
        have HBW := Aside0.mk (below_step HB.out HBT.out)
        have HGT := Aside0.mk (show g8 ≠ gt by have := blk_lt HK.out; omega)
        rw [hgt] at HTB ⊢
        rw [hwt] at HTB HKT HBW ⊢
        clear hgt hwt HBT HK HRX
        obtain ⟨y0, y1, y2⟩ := tgC_c HTB.out
        have hwn : IntKind.u64.wrap (N : Int) = (N : Int) := by rw [IntKind.wrap_u64]; omega
        by_cases h1 : Ex < ep
        · have HRN := Aside0.mk (show R = none by rw [← HGO.out, HDR.out]; exact ckGo_bad (Or.inl (by show (Ex : Int) < (ep : Int); omega)))
          go_wp2_with fail
          go_ret2
          exact ⟨by rw [HRN.out]; rfl, HBW.out⟩
        by_cases h2 : 1000 < Ex
        · have HRN := Aside0.mk (show R = none by rw [← HGO.out, HDR.out]; exact ckGo_bad (Or.inr (Or.inl (by show (1000 : Int) < (Ex : Int); omega))))
          go_wp2_with fail
          go_ret2
          exact ⟨by rw [HRN.out]; rfl, HBW.out⟩
        by_cases h3 : Fx = tw
        rotate_left
        · have hne : ((Fx : Int) != (tw : Int)) = true := by simp; omega
          have HRN := Aside0.mk (show R = none by rw [← HGO.out, HDR.out]; exact ckGo_bad (Or.inr (Or.inr (Or.inl (by show (Fx : Int) ≠ (tw : Int); omega)))))
          go_wp2_with fail
          go_ret2
          exact ⟨by rw [HRN.out]; rfl, HBW.out⟩
        subst h3
        have heq : ((Fx : Int) != (Fx : Int)) = false := by simp
        by_cases h4 : Tx ≤ Fx
        · have HRN := Aside0.mk (show R = none by rw [← HGO.out, HDR.out]; exact ckGo_bad (Or.inr (Or.inr (Or.inr (Or.inl (by show (Tx : Int) ≤ (Fx : Int); omega))))))
          go_wp2_with fail
          go_ret2
          exact ⟨by rw [HRN.out]; rfl, HBW.out⟩
        by_cases h5 : N < Tx
        · have HRN := Aside0.mk (show R = none by rw [← HGO.out, HDR.out]; exact ckGo_bad (Or.inr (Or.inr (Or.inr (Or.inr (by show (L.length : Int) < (Tx : Int); rw [HN.out]; omega))))))
          go_wp2_with fail
          go_ret2
          exact ⟨by rw [HRN.out]; rfl, HBW.out⟩
        have HGD := Aside0.mk (show ¬ ((Tg.mk (Ex : Int) (Fx : Int) (Tx : Int) Sx).e < (ep : Int) ∨ 1000 < (Tg.mk (Ex : Int) (Fx : Int) (Tx : Int) Sx).e ∨ (Tg.mk (Ex : Int) (Fx : Int) (Tx : Int) Sx).f ≠ (Fx : Int) ∨ (Tg.mk (Ex : Int) (Fx : Int) (Tx : Int) Sx).t ≤ (Tg.mk (Ex : Int) (Fx : Int) (Tx : Int) Sx).f ∨ (L.length : Int) < (Tg.mk (Ex : Int) (Fx : Int) (Tx : Int) Sx).t) from by
          rw [HN.out]; dsimp only; omega)
        go_upto_block 2 with (fail)
        clear y0 y1 y2 heq hwn
        go_cut [9] (fun v wx => v = .int .u64 (Ex : Int) ∧ Aside0 (wx.heap[g8]? = some (.cells (nums .u8 (keyE s Ex)).toArray 72 (0, 0))) ∧ Aside0 (wx.heap[gt]? = some (.cells (tgC (Ex : Int) (Fx : Int) (Tx : Int) Sx).toArray 74 (0, 0))) ∧ Aside0 (Below w.heap.size w wx))
        case first =>
          go_wp2_with fail
          go_loopw [9] (fun v9 w' => ∃ (j : Nat), j ≤ Ex ∧ v9 = .int .u64 (j : Int) ∧ Aside0 (w'.heap[g8]? = some (.cells (nums .u8 (keyE s j)).toArray 72 (0, 0))) ∧ Aside0 (w'.heap[gt]? = some (.cells (tgC (Ex : Int) (Fx : Int) (Tx : Int) Sx).toArray 74 (0, 0))) ∧ Aside0 (Below w.heap.size w w')) (fun v9 _ => Ex - (intOf v9).toNat)
          case atStart => exact ⟨ep, by omega, rfl, HKT, HTB, HBW⟩
          case round =>
            clear HKT HTB HBW
            obtain ⟨j, hj, rfl, HKJ, HTJ, HBJ⟩ := hrel
            obtain ⟨y0, y1, y2⟩ := tgC_c HTJ.out
            by_cases c4 : j < Ex
            · have HKL := Aside0.mk (keyE_len s j)
              have HKB := Aside0.mk (keyE_isB s j)
              have HW1 := Aside0.mk (show IntKind.u64.wrap ((j : Int) + 1) = ((j + 1 : Nat) : Int) by rw [IntKind.wrap_u64]; omega)
              go_wp2_with (first | (refine wpList_load_mid rfl 72 (.tmp 8) rfl g8 0 rfl (nums .u8 (keyE s j)) (.array 32 5) (range_blk HKJ.out) Try.underlying72 rfl (info32N HKL.out) ?_) | fail)
              with_reducible refine (after_calls (keyE s j) _ HKL.out HKB.out).mono ?_
              rintro v w6 ⟨rfl, hb⟩
              rw [show afP (keyE s j) = keyE s (j + 1) from rfl]
              have HK6 := Aside0.mk (blk_below HKJ.out hb)
              have HKM := Aside0.mk (keyE_len s (j + 1))
              have HTH := Aside0.mk (there32S (l := keyE s (j + 1)) HKM.out HKL.out HK6.out)
              have HKP := Aside0.mk (kp_cells (b := g8) (nums .u8 (keyE s (j + 1))) 0 w6)
              have HT7 := Aside0.mk (HKP.out.blk (blk_below HTJ.out hb) (fun h => HGT.out h.symm))
              have HB7 := Aside0.mk (Kp.from (below_step HBJ.out hb) HKP.out (fun k hk => by rw [show k = g8 from hk]; exact HG8.out))
              have HK7 := Aside0.mk (show (w6.setCells g8 0 (nums .u8 (keyE s (j + 1)))).heap[g8]? = some (.cells (nums .u8 (keyE s (j + 1))).toArray 72 (0, 0)) by
                have := blk_setCells (nums .u8 (keyE s (j + 1))) [] (nums .u8 (keyE s j)) [] w6 (by simpa using HK6.out) (by rw [nums_len, nums_len, HKM.out, HKL.out])
                simpa using this)
              clear hb y0 y1 y2
              go_upto_region 9 with (first | (refine wpList_store_mid rfl 72 (.tmp 8) (.tmp 56) rfl g8 0 (nums .u8 (keyE s (j + 1))).toArray rfl rfl HTH.out (info32S HKM.out) (ones_nums _ _) ?_) | fail)
              obtain ⟨w7, hw7⟩ : ∃ wx, w6.setCells g8 0 (nums .u8 (keyE s (j + 1))) = wx := ⟨_, rfl⟩
              rw [hw7] at HK7 HT7 HB7 ⊢
              have hw1 := HW1.out
              clear hw7 HKP HTH
              go_wp2_with fail
              clear hw1
              go_roundw
              case rel => exact ⟨j + 1, by omega, by simp only [Value.int.injEq, true_and]; omega, HK7, HT7, HB7⟩
              case measure => simp [intOf] <;> omega
            · obtain rfl : j = Ex := by omega
              go_wp2_with fail
              go_meet
              exact ⟨rfl, HKJ, HTJ, HBJ⟩
        case rest =>
        clear HKT HTB HBW
        have h2' : Ex ≤ 1000 := by omega
        obtain ⟨rfl, HKE, HTE, HBE⟩ := hcut
        have hFT : Fx ≤ Tx := by omega
        have hTN : Tx ≤ N := by omega
        obtain ⟨S0, hS0⟩ : ∃ S0, suP (keyE s Ex) (Ex : Int) Fx Tx L = S0 := ⟨_, rfl⟩
        have HS0 := Aside0.mk hS0
        have HL0 := Aside0.mk (show S0.length = 32 by rw [← hS0]; exact suP_len _ _ _ _ _)
        have HI0 := Aside0.mk (show isB S0 by rw [← hS0]; exact suP_isB _ _ _ _ _)
        have CS := Aside0.mk (fun (W : World) (hb : Below wc.heap.size wc W) => sealSum_calls (keyE s Ex) (Ex : Int) Fx Tx (.slice A0 N c0) L W (keyE_len s Ex) (keyE_isB s Ex) (HRB.out.below (below_step HBE.out hb)) HIL.out (by rw [HN.out]; exact hLL) hFT (by rw [HN.out]; exact hTN) (by omega) (by omega))
        rw [hS0] at CS
        obtain ⟨bv, hbv⟩ : ∃ bv, (!decide (S0 = Sx)) = bv := ⟨_, rfl⟩
        have CN := Aside0.mk (fun (W : World) => neq32 HI0.out HL0.out HSB.out HSL.out W)
        rw [hbv] at CN
        have HBV := Aside0.mk hbv
        have HRT := Aside0.mk (tgC_sum HTE.out)
        have HKL := Aside0.mk (keyE_len s Ex)
        obtain ⟨y0, y1, y2⟩ := tgC_c HTE.out
        clear hS0 hbv h1 h2 h4 h5
        go_upto_region 10 with fail
        refine start_ (n := 12) (S := fun w' => w'.cell? ⟨gt, 0, none⟩ = some (.int .u64 (Ex : Int)) ∧ w'.cell? ⟨gt, 1, none⟩ = some (.int .u64 (Fx : Int)) ∧ w'.cell? ⟨gt, 2, none⟩ = some (.int .u64 (Tx : Int))) (ds := []) #[false,false,false,false,false,false,false,false,false,false,false,false] (by kernel_rfl) rfl rfl ⟨y0, y1, y2⟩ (fun hHeld => ?_)
        refine pure_ (i := 1) (N := some 60) (v := ?_) (a' := ?_) #[false,true,false,false,false,false,false,false,false,false,false,false] rfl rfl (by kernel_rfl) (fun _ _ _ h => h) (Or.inl ⟨by rfl, ?_⟩) ?_ ?_
        rotate_left
        · intro w'
          go_simp
          with_reducible rfl
        rotate_left
        · simp only [Act.put, List.setIfInBounds_toArray, List.set_cons_zero, List.set_cons_succ, i64_w, i32_w]
          rfl
        refine pure_ (i := 3) (N := some 62) (v := ?_) (a' := ?_) #[false,true,false,true,false,false,false,false,false,false,false,false] rfl rfl (by kernel_rfl) (fun _ _ _ h => h) (Or.inl ⟨by rfl, ?_⟩) ?_ ?_
        rotate_left
        · intro w'
          go_simp
          with_reducible rfl
        rotate_left
        · simp only [Act.put, List.setIfInBounds_toArray, List.set_cons_zero, List.set_cons_succ, i64_w, i32_w]
          rfl
        refine pure_ (i := 5) (N := some 64) (v := ?_) (a' := ?_) #[false,true,false,true,false,true,false,false,false,false,false,false] rfl rfl (by kernel_rfl) (fun _ _ _ h => h) (Or.inl ⟨by rfl, ?_⟩) ?_ ?_
        rotate_left
        · intro w'
          go_simp
          with_reducible rfl
        rotate_left
        · simp only [Act.put, List.setIfInBounds_toArray, List.set_cons_zero, List.set_cons_succ, i64_w, i32_w]
          rfl
        refine pure_ (i := 7) (N := some 66) (v := ?_) (a' := ?_) #[false,true,false,true,false,true,false,true,false,false,false,false] rfl rfl (by kernel_rfl) (fun _ _ _ h => h) (Or.inl ⟨by rfl, ?_⟩) ?_ ?_
        rotate_left
        · intro w'
          go_simp
          with_reducible rfl
        rotate_left
        · simp only [Act.put, List.setIfInBounds_toArray, List.set_cons_zero, List.set_cons_succ, i64_w, i32_w]
          rfl
        refine pure_ (i := 9) (N := some 68) (v := ?_) (a' := ?_) #[false,true,false,true,false,true,false,true,false,true,false,false] rfl rfl (by kernel_rfl) (fun _ _ _ h => h) (Or.inl ⟨by rfl, ?_⟩) ?_ ?_
        rotate_left
        · intro w'
          go_simp
          with_reducible rfl
        rotate_left
        · simp only [Act.put, List.setIfInBounds_toArray, List.set_cons_zero, List.set_cons_succ, i64_w, i32_w]
          rfl
        refine take_ (i := 2) (N := some 61) (v := ?_) (a' := ?_) #[false,true,true,true,false,true,false,true,false,true,false,false] rfl rfl (by kernel_rfl) (fun _ _ _ h => h) (Or.inl ⟨by rfl, ?_⟩) hHeld ?_ ?_
        rotate_left
        · rintro w' ⟨s0, s1, s2⟩
          go_simp
          with_reducible rfl
        rotate_left
        · simp only [Act.put, List.setIfInBounds_toArray, List.set_cons_zero, List.set_cons_succ, i64_w, i32_w]
          rfl
        refine take_ (i := 4) (N := some 63) (v := ?_) (a' := ?_) #[false,true,true,true,true,true,false,true,false,true,false,false] rfl rfl (by kernel_rfl) (fun _ _ _ h => h) (Or.inl ⟨by rfl, ?_⟩) hHeld ?_ ?_
        rotate_left
        · rintro w' ⟨s0, s1, s2⟩
          go_simp
          with_reducible rfl
        rotate_left
        · simp only [Act.put, List.setIfInBounds_toArray, List.set_cons_zero, List.set_cons_succ, i64_w, i32_w]
          rfl
        refine take_ (i := 6) (N := some 65) (v := ?_) (a' := ?_) #[false,true,true,true,true,true,true,true,false,true,false,false] rfl rfl (by kernel_rfl) (fun _ _ _ h => h) (Or.inl ⟨by rfl, ?_⟩) hHeld ?_ ?_
        rotate_left
        · rintro w' ⟨s0, s1, s2⟩
          go_simp
          with_reducible rfl
        rotate_left
        · simp only [Act.put, List.setIfInBounds_toArray, List.set_cons_zero, List.set_cons_succ, i64_w, i32_w]
          rfl
        refine join_ (σ := Unit) 1 #[true,true,true,true,true,true,true,true,true,true,true,false] (fun _ => [(59, .agg (nums .u8 (keyE s Ex)).toArray), (67, .agg (nums .u8 S0).toArray), (69, .agg (nums .u8 Sx).toArray)]) (fun _ w' => Below wc.heap.size wc w') ?_ ?_
        rotate_left
        · intro hCont
          refine two_ (i := 0) (j := 10) (Ni := some 59) (Nj := some 69) #[true,true,true,true,true,true,true,true,false,true,false,false] #[false,true,true,true,true,true,true,true,false,true,true,false] rfl rfl rfl rfl (by kernel_rfl) (by decide) (by decide) (fun K hK => ?_) (fun K hK => ?_)
          · skip
            refine load_mid_if (by rfl) 72 (.tmp 8) rfl g8 0 rfl (nums .u8 (keyE s Ex)) _ (range_below (range_blk HKE.out) (below_drew (Below.refl wc.heap.size wc))) Try.underlying72 rfl (info32N HKL.out) ?_
            refine hK.out _ _ ⟨hHeld.1, hHeld.2.1, hHeld.2.2⟩ (fun hHeld => ?_)
            clear hK K
            refine norm_ (a' := ?_) ?_ ?_
            rotate_left
            · show Act.put _ (some 59) _ = _
              simp only [Act.put, List.setIfInBounds_toArray, List.set_cons_zero, List.set_cons_succ, i64_w, i32_w]
              rfl
            refine two_ (i := 8) (j := 10) (Ni := some 67) (Nj := some 69) #[true,true,true,true,true,true,true,true,true,true,false,false] #[true,true,true,true,true,true,true,true,false,true,true,false] rfl rfl rfl rfl (by kernel_rfl) (by decide) (by decide) (fun K hK => ?_) (fun K hK => ?_)
            · skip
              refine goes_ Try.func68 (by kernel_rfl) rfl #[.agg (nums .u8 (keyE s Ex)).toArray, .int .u64 (Ex : Int), .int .u64 (Fx : Int), .int .u64 (Tx : Int), .slice A0 N c0] (by rfl) rfl rfl (by (try simp only [List.map_toArray, List.map_cons, List.map_nil]); first | done | rfl) ?_
              with_reducible refine (CS.out _ (below_drew (Below.refl wc.heap.size wc))).mono ?_
              rintro v w8 ⟨rfl, hb8⟩
              refine ⟨_, rfl, ?_⟩
              refine hK.out _ _ ⟨(pw_cell_below hb8 hHeld.1), (pw_cell_below hb8 hHeld.2.1), (pw_cell_below hb8 hHeld.2.2)⟩ (fun hHeld => ?_)
              clear hK K
              refine norm_ (a' := ?_) ?_ ?_
              rotate_left
              · show Act.put _ (some 67) _ = _
                simp only [Act.put, List.setIfInBounds_toArray, List.set_cons_zero, List.set_cons_succ, i64_w, i32_w]
                rfl
              refine one_ (i := 10) (N := some 69) #[true,true,true,true,true,true,true,true,true,true,true,false] rfl rfl (by kernel_rfl) (by decide) (fun K hK => ?_)
              refine load_mid_if (by rfl) 72 (.tmp 68) rfl gt 3 rfl (nums .u8 Sx) _ (range_below HRT.out (below_step (below_drew (Below.refl wc.heap.size wc)) hb8)) Try.underlying72 rfl (info32N HSL.out) ?_
              refine hK.out _ _ ⟨hHeld.1, hHeld.2.1, hHeld.2.2⟩ (fun hHeld => ?_)
              clear hK K
              refine norm_ (a' := ?_) ?_ ?_
              rotate_left
              · show Act.put _ (some 69) _ = _
                simp only [Act.put, List.setIfInBounds_toArray, List.set_cons_zero, List.set_cons_succ, i64_w, i32_w]
                rfl
              exact norm_ (by simp only [putAll, Act.put, List.setIfInBounds_toArray, List.set_cons_zero, List.set_cons_succ]) (hCont () _ (below_step (below_drew (Below.refl wc.heap.size wc)) hb8))
            · skip
              refine load_mid_if (by rfl) 72 (.tmp 68) rfl gt 3 rfl (nums .u8 Sx) _ (range_below HRT.out (below_drew (Below.refl wc.heap.size wc))) Try.underlying72 rfl (info32N HSL.out) ?_
              refine hK.out _ _ ⟨hHeld.1, hHeld.2.1, hHeld.2.2⟩ (fun hHeld => ?_)
              clear hK K
              refine norm_ (a' := ?_) ?_ ?_
              rotate_left
              · show Act.put _ (some 69) _ = _
                simp only [Act.put, List.setIfInBounds_toArray, List.set_cons_zero, List.set_cons_succ, i64_w, i32_w]
                rfl
              refine one_ (i := 8) (N := some 67) #[true,true,true,true,true,true,true,true,true,true,true,false] rfl rfl (by kernel_rfl) (by decide) (fun K hK => ?_)
              refine goes_ Try.func68 (by kernel_rfl) rfl #[.agg (nums .u8 (keyE s Ex)).toArray, .int .u64 (Ex : Int), .int .u64 (Fx : Int), .int .u64 (Tx : Int), .slice A0 N c0] (by rfl) rfl rfl (by (try simp only [List.map_toArray, List.map_cons, List.map_nil]); first | done | rfl) ?_
              with_reducible refine (CS.out _ (below_drew (Below.refl wc.heap.size wc))).mono ?_
              rintro v w8 ⟨rfl, hb8⟩
              refine ⟨_, rfl, ?_⟩
              refine hK.out _ _ ⟨(pw_cell_below hb8 hHeld.1), (pw_cell_below hb8 hHeld.2.1), (pw_cell_below hb8 hHeld.2.2)⟩ (fun hHeld => ?_)
              clear hK K
              refine norm_ (a' := ?_) ?_ ?_
              rotate_left
              · show Act.put _ (some 67) _ = _
                simp only [Act.put, List.setIfInBounds_toArray, List.set_cons_zero, List.set_cons_succ, i64_w, i32_w]
                rfl
              exact norm_ (by simp only [putAll, Act.put, List.setIfInBounds_toArray, List.set_cons_zero, List.set_cons_succ]) (hCont () _ (below_step (below_drew (Below.refl wc.heap.size wc)) hb8))
          · skip
            refine load_mid_if (by rfl) 72 (.tmp 68) rfl gt 3 rfl (nums .u8 Sx) _ (range_below HRT.out (below_drew (Below.refl wc.heap.size wc))) Try.underlying72 rfl (info32N HSL.out) ?_
            refine hK.out _ _ ⟨hHeld.1, hHeld.2.1, hHeld.2.2⟩ (fun hHeld => ?_)
            clear hK K
            refine norm_ (a' := ?_) ?_ ?_
            rotate_left
            · show Act.put _ (some 69) _ = _
              simp only [Act.put, List.setIfInBounds_toArray, List.set_cons_zero, List.set_cons_succ, i64_w, i32_w]
              rfl
            refine one_ (i := 0) (N := some 59) #[true,true,true,true,true,true,true,true,false,true,true,false] rfl rfl (by kernel_rfl) (by decide) (fun K hK => ?_)
            refine load_mid_if (by rfl) 72 (.tmp 8) rfl g8 0 rfl (nums .u8 (keyE s Ex)) _ (range_below (range_blk HKE.out) (below_drew (Below.refl wc.heap.size wc))) Try.underlying72 rfl (info32N HKL.out) ?_
            refine hK.out _ _ ⟨hHeld.1, hHeld.2.1, hHeld.2.2⟩ (fun hHeld => ?_)
            clear hK K
            refine norm_ (a' := ?_) ?_ ?_
            rotate_left
            · show Act.put _ (some 59) _ = _
              simp only [Act.put, List.setIfInBounds_toArray, List.set_cons_zero, List.set_cons_succ, i64_w, i32_w]
              rfl
            refine one_ (i := 8) (N := some 67) #[true,true,true,true,true,true,true,true,true,true,true,false] rfl rfl (by kernel_rfl) (by decide) (fun K hK => ?_)
            refine goes_ Try.func68 (by kernel_rfl) rfl #[.agg (nums .u8 (keyE s Ex)).toArray, .int .u64 (Ex : Int), .int .u64 (Fx : Int), .int .u64 (Tx : Int), .slice A0 N c0] (by rfl) rfl rfl (by (try simp only [List.map_toArray, List.map_cons, List.map_nil]); first | done | rfl) ?_
            with_reducible refine (CS.out _ (below_drew (Below.refl wc.heap.size wc))).mono ?_
            rintro v w8 ⟨rfl, hb8⟩
            refine ⟨_, rfl, ?_⟩
            refine hK.out _ _ ⟨(pw_cell_below hb8 hHeld.1), (pw_cell_below hb8 hHeld.2.1), (pw_cell_below hb8 hHeld.2.2)⟩ (fun hHeld => ?_)
            clear hK K
            refine norm_ (a' := ?_) ?_ ?_
            rotate_left
            · show Act.put _ (some 67) _ = _
              simp only [Act.put, List.setIfInBounds_toArray, List.set_cons_zero, List.set_cons_succ, i64_w, i32_w]
              rfl
            exact norm_ (by simp only [putAll, Act.put, List.setIfInBounds_toArray, List.set_cons_zero, List.set_cons_succ]) (hCont () _ (below_step (below_drew (Below.refl wc.heap.size wc)) hb8))
        rintro _ w9 hb9
        have hHeld : w9.cell? ⟨gt, 0, none⟩ = some (.int .u64 (Ex : Int)) ∧ w9.cell? ⟨gt, 1, none⟩ = some (.int .u64 (Fx : Int)) ∧ w9.cell? ⟨gt, 2, none⟩ = some (.int .u64 (Tx : Int)) := ⟨pw_cell_below hb9 y0, pw_cell_below hb9 y1, pw_cell_below hb9 y2⟩
        refine norm_ (a' := ?_) ?_ ?_
        rotate_left
        · simp only [putAll, Act.put, List.setIfInBounds_toArray, List.set_cons_zero, List.set_cons_succ]
          rfl
        refine one_ (i := 11) (N := some 70) #[true,true,true,true,true,true,true,true,true,true,true,true] rfl rfl (by kernel_rfl) (by decide) (fun K hK => ?_)
        refine bin_if (by rfl) rfl rfl rfl (guard32 _ _ _ _ _) (CN.out _) ?_
        refine hK.out _ _ ⟨hHeld.1, hHeld.2.1, hHeld.2.2⟩ (fun hHeld => ?_)
        clear hK K
        refine norm_ (a' := ?_) ?_ ?_
        rotate_left
        · show Act.put _ (some 70) _ = _
          simp only [Act.put, List.setIfInBounds_toArray, List.set_cons_zero, List.set_cons_succ, i64_w, i32_w]
          rfl
        refine done_ (by kernel_rfl) ?_
        have HB8 := Aside0.mk (below_step HBE.out hb9)
        have HK8 := Aside0.mk (blk_below HKE.out hb9)
        have HT8 := Aside0.mk (blk_below HTE.out hb9)
        clear hb9 y0 y1 y2
        cases bv with
        | true =>
          have HRN := Aside0.mk (show R = none by
            rw [← HGO.out, HDR.out]
            have := HBV.out
            exact ckGo_sum HGD.out (by show suP (keyE s ((Ex : Int)).toNat) (Ex : Int) ((Fx : Int)).toNat ((Tx : Int)).toNat L ≠ Sx; rw [Int.toNat_natCast, Int.toNat_natCast, Int.toNat_natCast, HS0.out]; simpa using this))
          go_wp2_with fail
          go_ret2
          exact ⟨by rw [HRN.out]; rfl, HB8.out⟩
        | false =>
          have HRN := Aside0.mk (show ckGo s L (xs.drop (i + 1)) (Ex : Int) (Tx : Int) = R by
            rw [← HGO.out, HDR.out]
            have := HBV.out
            exact (ckGo_ok HGD.out (by show suP (keyE s ((Ex : Int)).toNat) (Ex : Int) ((Fx : Int)).toNat ((Tx : Int)).toNat L = Sx; rw [Int.toNat_natCast, Int.toNat_natCast, Int.toNat_natCast, HS0.out]; simpa using this)).symm)
          have y2 := (tgC_c HT8.out).2.2
          go_wp2_with fail
          go_roundw
          case rel => exact ⟨i + 1, Ex, Tx, by omega, by omega, by omega, by go_num, rfl, rfl, HRN, HK8, HB8⟩
          case measure => simp [intOf] <;> omega
      · obtain rfl : i = n := by omega
        have hR : R = some (tw : Int) := by rw [← HGO.out, List.drop_eq_nil_of_le (by rw [HNX.out]; exact Nat.le_refl _)]; rfl
        go_wp2_with fail
        go_meet
        exact ⟨tw, htw, rfl, hR, HB⟩
  case rest =>
  obtain ⟨tw, htw, rfl, hR, HBF⟩ := hcut
  have HRR := Aside0.mk hR
  have hwt : IntKind.i64.wrap (tw : Int) = (tw : Int) := by rw [IntKind.wrap_i64]; omega
  clear hR
  go_wp2_with fail
  go_ret2
  exact ⟨by rw [HRR.out]; rfl, HBF.out⟩
end Go.Proofs.Ytplmdgimodgekaa
end
section
/- Seals: what the steps' tags come to; which steps are light; the law's argument laid open. -/
namespace Go.Proofs.Ytplmdgimodgekaa
open Go.RowKit Go.ChangeShapes Go.WideShapes Go.Deep Go.Proofs.YtplmdgimodgekaaW.PrintWords Go.Proofs.YtplmdgimodgekaaW.PrintLast Go.Proofs.YtplmdgimodgekaaW.PrintMore
attribute [local go_sem] max2_int min2_int max_two min_two max_three min_three max_four min_four
theorem suP_pre (k : List Int) (e : Int) (a b : Nat) (L M : List Int) (hab : a ≤ b) (h : b ≤ L.length) : suP k e a b (L ++ M) = suP k e a b L := by
  rw [suP, suP, suX, suX, List.drop_append_of_le_length (by omega), List.take_append_of_le_length (by rw [List.length_drop]; omega)]
theorem allN_split (l : List St) (i : Nat) : allN l = allN (l.take i) ++ allN (l.drop i) := by rw [allN, allN, allN, ← List.flatMap_append, List.take_append_drop]
theorem ck_tgs (s : List Int) (l : List St) (hl : l.length ≤ 8) : ∀ i, ∃ e : Int, e ≤ (epN (l.take i) : Int) ∧ ∀ ys, ckGo s (allN l) (tgsN s l i ++ ys) 0 0 = ckGo s (allN l) ys e ((allN (l.take i)).length : Int)
  | 0 => ⟨0, by omega, fun ys => rfl⟩
  | i + 1 => by
    obtain ⟨e, he, ih⟩ := ck_tgs s l hl i
    cases h : l[i]? with
    | none =>
      have hi := List.getElem?_eq_none_iff.1 h
      refine ⟨e, ?_, fun ys => ?_⟩
      · rw [List.take_of_length_le (by omega)] at he ⊢; exact he
      · rw [tgsN, h]
        have := ih ys
        rw [List.take_of_length_le hi] at this
        rw [List.take_of_length_le (by omega)]
        exact this
    | some x =>
      have h1 := epN_snoc l i x h
      have h2 := allN_snoc l i x h
      have h3 := epN_le (l.take (i + 1))
      rw [List.length_take] at h3
      by_cases h0 : x.m = []
      · refine ⟨e, by rw [h1]; omega, fun ys => ?_⟩
        rw [tgsN_none h h0, ih ys, h2, h0, List.append_nil]
      · refine ⟨(epN (l.take (i + 1)) : Int), Int.le_refl _, fun ys => ?_⟩
        have hp := List.length_pos_iff.2 h0
        have h4 : (allN (l.take (i + 1))).length = (allN (l.take i)).length + x.m.length := by rw [h2, List.length_append]
        have h5 := allN_split l (i + 1)
        have h6 := allN_take l (i + 1)
        rw [tgsN_some h h0, List.append_assoc, List.singleton_append, ih]
        refine (ckGo_ok (x := ⟨_, _, _, _⟩) ?_ ?_)
        · dsimp only
          omega
        · show suP (keyE s ((epN (l.take (i + 1)) : Int)).toNat) (epN (l.take (i + 1)) : Int) (((allN (l.take i)).length : Int)).toNat (((allN (l.take (i + 1))).length : Int)).toNat (allN l) = _
          rw [Int.toNat_natCast, Int.toNat_natCast, Int.toNat_natCast]
          conv => lhs; rw [h5]
          exact suP_pre _ _ _ _ _ _ (by omega) (Nat.le_refl _)
theorem ck_all (s : List Int) (l : List St) (n : Nat) (hn : l.length = n) (hl : n ≤ 8) : ckGo s (allN l) (tgsN s l n) 0 0 = some ((allN l).length : Int) := by
  obtain ⟨e, _, h⟩ := ck_tgs s l (by omega) n
  have := h []
  rw [List.append_nil, List.take_of_length_le (by omega)] at this
  exact this
def sumL (l : List St) : Nat := (l.map fun x => min x.m.length 1000 + x.ep.toNat).sum
theorem sumL_snoc (l : List St) (i : Nat) (x : St) (h : l[i]? = some x) : sumL (l.take (i + 1)) = sumL (l.take i) + (min x.m.length 1000 + x.ep.toNat) := by
  rw [List.take_add_one, h, sumL, List.map_append, List.sum_append, ← sumL]
  simp
theorem sumL_all : ∀ l : List St, sumL l ≤ 600 → (allN l).length ≤ sumL l
  | [], _ => Nat.le_refl _
  | x :: l, h => by
    rw [sumL, List.map_cons, List.sum_cons, ← sumL] at h ⊢
    have := sumL_all l (by omega)
    rw [allN, List.flatMap_cons, List.length_append, ← allN]
    omega
theorem sumL_le (l : List St) (h : ∀ x ∈ l, x.ep ≤ 255) : sumL l ≤ 1255 * l.length := by
  induction l with
  | nil => exact Nat.le_refl _
  | cons x l ih =>
    have h1 := h x (by simp)
    have h2 := ih (fun y hy => h y (by simp [hy]))
    rw [sumL, List.map_cons, List.sum_cons, ← sumL, List.length_cons]
    omega
theorem stepOne {H : Type} {enc : TypeId × Value → H} {P : Program} {w : World} {base : Nat} {sp : Nat → Bool} {held : Bool} {t e : TypeId} {n : Nat} {cs : List Value} {y : DataW H × List MemPlace} (ht : P.underlying t = some (.slice e)) (h : DataW.trod enc P w base sp held n t cs = some y) : ∃ v, cs = [v] := by
  rcases open_slice ht h with ⟨h0, _⟩ | ⟨a, len, cap, m, n, D, Pl, hcs, _⟩
  · exact ⟨_, h0⟩
  · exact ⟨_, hcs⟩
theorem stepTake {cs : List Value} {j : Nat} {v : Value} (h : (cs.drop j).take 1 = [v]) : cs[j]? = some v := by
  have := congrArg (fun l : List Value => l[0]?) h
  simpa [List.getElem?_take, List.getElem?_drop] using this
theorem open_steps {H : Type} {enc : TypeId × Value → H} {w : World} {base : Nat} {held : Bool} {fuel : Nat} {v : Value} {x : DataW H × List MemPlace} (h : DataW.trod enc Try.prog w base (fun _ => true) held fuel 38 [v] = some x) :
    ∃ A n c xs, v = .slice A n c ∧ StRow w A n c xs := by
  have k1 : Try.prog.cellsOf 5 = 1 := by kernel_rfl
  have k2 : Try.prog.cellsOf 37 = 1 := by kernel_rfl
  have k7 : Try.prog.cellsOf 123 = 2 := by kernel_rfl
  rcases open_slice Try.underlying38 h with ⟨h0, _⟩ | ⟨a, len, cap, m, n, D, Pl, hcs, _, hl, hm, hmm, _, hi⟩
  · simp only [List.cons.injEq, and_true] at h0
    subst h0
    exact ⟨none, 0, 0, [], rfl, rfl, by omega, Nat.le_refl _, fun h => absurd h (Nat.lt_irrefl 0)⟩
  · simp only [List.cons.injEq, and_true] at hcs
    subst hcs
    simp only [if_true] at hmm
    subst hmm
    obtain ⟨l, hll, hq⟩ := list_of (fun i x => StAt w a i x) len (fun i hin => by
      obtain ⟨cs', hc, ht'⟩ := hi i (by omega)
      rw [k7] at hc
      obtain ⟨ys, n', _, _, _, hyl, hf⟩ := DataW.trod_struct Try.underlying123 ht'
      obtain ⟨_, hcl, hat⟩ := World.cells?_some hc
      have hy : ∀ j, j < 2 → ∃ y, ys[j]? = some y := fun j hj => ⟨_, List.getElem?_eq_getElem (show j < ys.length by rw [hyl]; exact hj)⟩
      obtain ⟨y0, e0⟩ := hy 0 (by omega)
      obtain ⟨y1, e1⟩ := hy 1 (by omega)
      have t0 : DataW.trod enc Try.prog w base (fun _ => true) held n' 5 ((cs'.drop 0).take (Try.prog.cellsOf 5)) = some y0 := (hf 0 _ rfl).trans e0
      have t1 : DataW.trod enc Try.prog w base (fun _ => true) held n' 37 ((cs'.drop 1).take (Try.prog.cellsOf 37)) = some y1 := (hf 1 _ rfl).trans e1
      rw [k1] at t0
      rw [k2] at t1
      obtain ⟨v0, q0, _, w0⟩ := DataW.trod_int Try.underlying5 t0
      obtain ⟨u1, q1⟩ := stepOne Try.underlying37 t1
      rw [q1] at t1
      obtain ⟨l1, r1, w1⟩ := open_rd Try.underlying37 Try.underlying5 (by kernel_rfl) t1
      obtain ⟨A1, c1, rfl, hr1⟩ := id r1
      refine ⟨⟨v0, l1, A1, c1⟩, ?_, ?_, r1, bounds_u8 w0, wf_isB w1⟩
      · have := hat 0 (by omega)
        rw [stepTake q0] at this
        simpa [Go.Deep.add_add] using this
      · have := hat 1 (by omega)
        rw [Go.Deep.add_add, add_field a (i * 2) 1 (by omega), stepTake q1] at this
        exact this)
    exact ⟨_, len, m, l, rfl, hll, by unfold maxLen at hm; omega, hl, fun _ => ⟨a, rfl, hq⟩⟩
end Go.Proofs.Ytplmdgimodgekaa
end
section
/- Seals: light, awake, the law SealTags. -/
namespace Go.Proofs.Ytplmdgimodgekaa
open Go.RowKit Go.Proofs.YtplmdgimodgekaaW.PrintWords Go.Proofs.YtplmdgimodgekaaW.PrintLast Go.Proofs.YtplmdgimodgekaaW.PrintMore
attribute [local go_sem] max2_int min2_int max_two min_two max_three min_three max_four min_four
theorem StRow.below {w w1 : World} {A : Option Addr} {n c : Nat} {l : List St} (h : StRow w A n c l) (hb : Below w.heap.size w w1) : StRow w1 A n c l :=
  ⟨h.1, h.2.1, h.2.2.1, fun h0 => by obtain ⟨ad, e, hat⟩ := h.2.2.2 h0; exact ⟨ad, e, fun i x hx => (hat i x hx).below hb⟩⟩
set_option maxHeartbeats 8000000 in
set_option maxRecDepth 100000 in
theorem light_calls (u : Value) (s : List Int) (A : Option Addr) (n c : Nat) (l : List St) (w : World) (hr : Rd w .u8 u s) (hrow : StRow w A n c l) :
    Calls Try.prog 23 #[u, .slice A n c] w fun e w' => ∃ bv, e = .returned (.bool bv) ∧ (bv = true → s.length ≤ 100 ∧ n ≤ 8 ∧ (allN l).length ≤ 600) ∧ Below w.heap.size w w' := by
  obtain ⟨m, hm⟩ : ∃ m, s.length = m := ⟨_, rfl⟩
  obtain ⟨A0, c0, ev, _, hm9, _⟩ := hr.mid
  subst ev
  rw [hm] at hm9 ⊢
  have HRW := Aside0.mk hrow
  have HLN := Aside0.mk hrow.1
  have hc0 : n ≤ c := hrow.2.2.1
  have hn9 : n ≤ 9223372036854775807 := hrow.2.1
  have HEB := Aside0.mk (show ∀ x ∈ l, x.ep ≤ 255 from fun x hx => by
    obtain ⟨i, hi⟩ := List.mem_iff_getElem?.1 hx
    have h0 : 0 < n := by rw [← hrow.1]; exact List.length_pos_of_mem hx
    obtain ⟨ad, _, hat⟩ := hrow.2.2.2 h0
    exact (hat i x hi).eb.2)
  clear hr hrow hm
  go_enter Try.func23, Try.ntmps23
  go_upto_block 0 with (fail)
  go_cut [5] (fun v wx => ∃ k : Nat, v = .int .i64 (k : Int) ∧ k ≤ 100000 ∧ (n ≤ 8 → k = sumL l) ∧ Aside0 (Below w.heap.size w wx))
  case first =>
    go_wp2_with fail
    go_loopw [5, 6] (fun v5 v6 w' => ∃ (i : Nat), i ≤ n ∧ i ≤ 8 ∧ v6 = .int .i64 (i : Int) ∧ v5 = .int .i64 ((sumL (l.take i) : Nat) : Int) ∧ Aside0 (Below w.heap.size w w')) (fun _ v6 _ => 8 - (intOf v6).toNat)
    case atStart => exact ⟨0, by omega, by omega, rfl, rfl, Aside0.mk (Below.refl _ _)⟩
    case round =>
      obtain ⟨i, hi, hi8, rfl, rfl, HB⟩ := hrel
      have hle : sumL (l.take i) ≤ 1255 * 8 := by
        have := sumL_le (l.take i) (fun x hx => HEB.out x (List.mem_of_mem_take hx))
        rw [List.length_take] at this
        omega
      by_cases c2 : i < n
      · by_cases c3 : i < 8
        · obtain ⟨x, hx⟩ : ∃ x, l[i]? = some x := ⟨_, List.getElem?_eq_getElem (show i < l.length by rw [HLN.out]; exact c2)⟩
          obtain ⟨ad, eA, hat⟩ := HRW.out.2.2.2 (by omega)
          have HX := Aside0.mk (hat i x hx)
          have HSN := Aside0.mk (sumL_snoc l i x hx)
          cases eA
          have heb := HX.out.eb
          have x0 := pw_cell_below HB.out HX.out.c0
          have x1 := pw_cell_below HB.out HX.out.c1
          have hxl : x.m.length ≤ 9223372036854775807 := by obtain ⟨_, _, _, _, h, _⟩ := HX.out.r.mid; exact h
          obtain ⟨q, hq⟩ : ∃ q, sumL (l.take i) = q := ⟨_, rfl⟩
          obtain ⟨k, hk⟩ : ∃ k, x.m.length = k := ⟨_, rfl⟩
          obtain ⟨e, he⟩ := Int.eq_ofNat_of_zero_le heb.1
          rw [hk] at x1 hxl
          rw [he] at x0 heb
          rw [hq] at hle HSN ⊢
          have HKE := Aside0.mk (And.intro hk he)
          clear hat hx hq hk he
          have w1 : IntKind.i64.wrap (e : Int) = (e : Int) := by rw [IntKind.wrap_i64]; omega
          obtain ⟨M, hM, hM2⟩ : ∃ M : Nat, (if (1000 : Int) < (k : Int) then (1000 : Int) else (k : Int)) = (M : Int) ∧ M = min k 1000 := by
            by_cases ck : 1000 < k
            · exact ⟨1000, by rw [if_pos (by omega)]; rfl, by omega⟩
            · exact ⟨k, by rw [if_neg (by omega)], by omega⟩
          go_upto_region 5 with fail
          go_quiet (fail)
          have HBN := Aside0.mk (pw_below_drewN HB.out nq)
          obtain ⟨wn, hwn⟩ : ∃ wn, wr.drewN nq = wn := ⟨_, rfl⟩
          rw [hwn] at HBN ⊢
          clear hwn x0 x1 hM w1
          go_wp2_with fail
          go_roundw
          case rel => exact ⟨i + 1, by omega, by omega, by go_num, by simp only [Value.int.injEq, true_and]; have := HSN.out; have := HKE.out; omega, HBN⟩
          case measure => simp [intOf] <;> omega
        · obtain rfl : i = 8 := by omega
          go_wp2_with fail
          go_meet
          exact ⟨_, rfl, by omega, fun h => by rw [List.take_of_length_le (by rw [HLN.out]; omega)], HB⟩
      · obtain rfl : i = n := by omega
        go_wp2_with fail
        go_meet
        exact ⟨_, rfl, by omega, fun h => by rw [List.take_of_length_le (by rw [HLN.out]; omega)], HB⟩
  case rest =>
  obtain ⟨k, rfl, hk, hks, HBF⟩ := hcut
  have HKS := Aside0.mk hks
  clear hks
  by_cases c1 : m ≤ 100
  · by_cases c2 : n ≤ 8
    · go_wp2_with fail
      go_ret
      exact ⟨decide ((k : Int) ≤ 600), rfl, (fun h => ⟨c1, c2, by have h3 := of_decide_eq_true h; have := HKS.out c2; have := sumL_all l (by omega); omega⟩), HBF.out⟩
    · go_wp2_with fail
      go_ret
      first | exact ⟨false, rfl, (fun h => by cases h), HBF.out⟩ | exact ⟨rfl, HBF.out⟩
  · go_wp2_with fail
    go_ret
    first | exact ⟨false, rfl, (fun h => by cases h), HBF.out⟩ | exact ⟨rfl, HBF.out⟩
set_option maxHeartbeats 8000000 in
set_option maxRecDepth 100000 in
theorem sea_awake_calls (w : World) : Calls Try.prog 22 #[] w fun e w' => e = .returned (.bool true) ∧ Below w.heap.size w w' := by
  have H1 := (show Rd (w.alloc (.cells #[.int .u8 1] 5)) .u8 (.slice (some ⟨w.heap.size, 0, none⟩) 1 1) [1] from lit_rdE (Value.int .u8) 0 w 5 [1] (by decide))
  have z1 : (w.alloc (.cells #[.int .u8 1] 5)).heap.size = w.heap.size + 1 := Array.size_push _
  have z2 : ((w.alloc (.cells #[.int .u8 1] 5)).alloc (.cells #[.int .u8 1, .int .u8 2, .int .u8 3, .int .u8 4, .int .u8 5] 5)).heap.size = w.heap.size + 1 + 1 := by rw [show ((w.alloc (.cells #[.int .u8 1] 5)).alloc (.cells #[.int .u8 1, .int .u8 2, .int .u8 3, .int .u8 4, .int .u8 5] 5)).heap.size = (w.alloc (.cells #[.int .u8 1] 5)).heap.size + 1 from Array.size_push _, z1]
  have z3 : (((w.alloc (.cells #[.int .u8 1] 5)).alloc (.cells #[.int .u8 1, .int .u8 2, .int .u8 3, .int .u8 4, .int .u8 5] 5)).alloc (.cells #[.int .u8 6, .int .u8 7, .int .u8 8] 5)).heap.size = w.heap.size + 1 + 1 + 1 := by rw [show (((w.alloc (.cells #[.int .u8 1] 5)).alloc (.cells #[.int .u8 1, .int .u8 2, .int .u8 3, .int .u8 4, .int .u8 5] 5)).alloc (.cells #[.int .u8 6, .int .u8 7, .int .u8 8] 5)).heap.size = ((w.alloc (.cells #[.int .u8 1] 5)).alloc (.cells #[.int .u8 1, .int .u8 2, .int .u8 3, .int .u8 4, .int .u8 5] 5)).heap.size + 1 from Array.size_push _, z2]
  have H2 := (show Rd ((w.alloc (.cells #[.int .u8 1] 5)).alloc (.cells #[.int .u8 1, .int .u8 2, .int .u8 3, .int .u8 4, .int .u8 5] 5)) .u8 (.slice (some ⟨w.heap.size + 1, 0, none⟩) 5 5) [1, 2, 3, 4, 5] from by rw [← z1]; exact lit_rdE (Value.int .u8) 0 (w.alloc (.cells #[.int .u8 1] 5)) 5 [1, 2, 3, 4, 5] (by decide))
  have H3 := (show Rd (((w.alloc (.cells #[.int .u8 1] 5)).alloc (.cells #[.int .u8 1, .int .u8 2, .int .u8 3, .int .u8 4, .int .u8 5] 5)).alloc (.cells #[.int .u8 6, .int .u8 7, .int .u8 8] 5)) .u8 (.slice (some ⟨w.heap.size + 1 + 1, 0, none⟩) 3 3) [6, 7, 8] from by rw [← z2]; exact lit_rdE (Value.int .u8) 0 ((w.alloc (.cells #[.int .u8 1] 5)).alloc (.cells #[.int .u8 1, .int .u8 2, .int .u8 3, .int .u8 4, .int .u8 5] 5)) 5 [6, 7, 8] (by decide))
  have B2 := below_alloc (Below.refl _ (w.alloc (.cells #[.int .u8 1] 5))) (.cells #[.int .u8 1, .int .u8 2, .int .u8 3, .int .u8 4, .int .u8 5] 5)
  have B3 := below_alloc (Below.refl _ ((w.alloc (.cells #[.int .u8 1] 5)).alloc (.cells #[.int .u8 1, .int .u8 2, .int .u8 3, .int .u8 4, .int .u8 5] 5))) (.cells #[.int .u8 6, .int .u8 7, .int .u8 8] 5)
  have B4 := below_alloc (Below.refl _ (((w.alloc (.cells #[.int .u8 1] 5)).alloc (.cells #[.int .u8 1, .int .u8 2, .int .u8 3, .int .u8 4, .int .u8 5] 5)).alloc (.cells #[.int .u8 6, .int .u8 7, .int .u8 8] 5))) (.cells #[.int .u8 0, .slice (some ⟨w.heap.size + 1, 0, none⟩) 5 5, .int .u8 1, .slice (some ⟨w.heap.size + 1 + 1, 0, none⟩) 3 3] 123)
  have h4 : ((((w.alloc (.cells #[.int .u8 1] 5)).alloc (.cells #[.int .u8 1, .int .u8 2, .int .u8 3, .int .u8 4, .int .u8 5] 5)).alloc (.cells #[.int .u8 6, .int .u8 7, .int .u8 8] 5)).alloc (.cells #[.int .u8 0, .slice (some ⟨w.heap.size + 1, 0, none⟩) 5 5, .int .u8 1, .slice (some ⟨w.heap.size + 1 + 1, 0, none⟩) 3 3] 123)).heap[w.heap.size + 1 + 1 + 1]? = some (.cells #[.int .u8 0, .slice (some ⟨w.heap.size + 1, 0, none⟩) 5 5, .int .u8 1, .slice (some ⟨w.heap.size + 1 + 1, 0, none⟩) 3 3] 123 (0, 0)) := by rw [← z3]; exact blk_new _ _
  have HB4 := Aside0.mk (below_alloc (below_alloc (below_alloc (below_alloc (Below.refl w.heap.size w) (.cells #[.int .u8 1] 5)) (.cells #[.int .u8 1, .int .u8 2, .int .u8 3, .int .u8 4, .int .u8 5] 5)) (.cells #[.int .u8 6, .int .u8 7, .int .u8 8] 5)) (.cells #[.int .u8 0, .slice (some ⟨w.heap.size + 1, 0, none⟩) 5 5, .int .u8 1, .slice (some ⟨w.heap.size + 1 + 1, 0, none⟩) 3 3] 123))
  obtain ⟨l, hl⟩ : ∃ l : List St, [⟨0, [1, 2, 3, 4, 5], some ⟨w.heap.size + 1, 0, none⟩, 5⟩, ⟨1, [6, 7, 8], some ⟨w.heap.size + 1 + 1, 0, none⟩, 3⟩] = l := ⟨_, rfl⟩
  have HLA := Aside0.mk (show allN l = [1, 2, 3, 4, 5, 6, 7, 8] by rw [← hl]; rfl)
  have HLL := Aside0.mk (show l.length = 2 by rw [← hl]; rfl)
  have HST := Aside0.mk (show StRow ((((w.alloc (.cells #[.int .u8 1] 5)).alloc (.cells #[.int .u8 1, .int .u8 2, .int .u8 3, .int .u8 4, .int .u8 5] 5)).alloc (.cells #[.int .u8 6, .int .u8 7, .int .u8 8] 5)).alloc (.cells #[.int .u8 0, .slice (some ⟨w.heap.size + 1, 0, none⟩) 5 5, .int .u8 1, .slice (some ⟨w.heap.size + 1 + 1, 0, none⟩) 3 3] 123)) (some ⟨w.heap.size + 1 + 1 + 1, 0, none⟩) 2 2 l from by
    rw [← hl]
    refine ⟨rfl, by decide, Nat.le_refl _, fun _ => ⟨_, rfl, fun i x hx => ?_⟩⟩
    match i, hx with
    | 0, hx =>
      simp at hx
      subst hx
      exact ⟨by rw [Addr.add_mid]; exact blk_cell h4 0, by rw [Addr.add_mid]; exact blk_cell h4 1, (H2.below B3).below B4, by dsimp only; decide, show isB [1, 2, 3, 4, 5] from lit_isB (by decide)⟩
    | 1, hx =>
      simp at hx
      subst hx
      exact ⟨by rw [Addr.add_mid]; exact blk_cell h4 2, by rw [Addr.add_mid]; exact blk_cell h4 3, H3.below B4, by dsimp only; decide, show isB [6, 7, 8] from lit_isB (by decide)⟩
    | i + 2, hx => simp at hx)
  have HS1 := Aside0.mk (((H1.below B2).below B3).below B4)
  have HI1 := Aside0.mk (show isB [1] from lit_isB (by decide))
  clear H1 H2 H3 B2 B3 B4 h4 hl z1 z2 z3
  go_enter Try.func22, Try.ntmps22
  go_wp2_with fail
  with_reducible refine (sealed_calls _ [1] _ 2 2 l _ HS1.out HI1.out (by decide) HST.out (by decide) (by rw [HLA.out]; decide)).mono ?_
  rintro e w5 ⟨v, t, rfl, hv, ht, hb⟩
  have HB5 := Aside0.mk (below_step HB4.out hb)
  have HTOK := Aside0.mk (tgsN_ok [1] l (by rw [HLL.out]; decide) (by rw [HLA.out]; decide) 2)
  have HTL := Aside0.mk (tgsN_len [1] l 2)
  have HCK := Aside0.mk (ck_all [1] l 2 HLL.out (by decide))
  have HV := Aside0.mk hv
  have HTR := Aside0.mk (ht.rd HTOK.out)
  have HN1 := Aside0.mk (show Rd (w5.alloc (.cells #[.int .u8 1] 5)) .u8 (.slice (some ⟨w5.heap.size, 0, none⟩) 1 1) [1] from lit_rdE (Value.int .u8) 0 w5 5 [1] (by decide))
  have HB6 := Aside0.mk (below_alloc (Below.refl w5.heap.size w5) (.cells #[.int .u8 1] 5))
  have HIA := Aside0.mk (show isB (allN l) by rw [HLA.out]; exact lit_isB (by decide))
  clear hv ht hb
  go_wp2_with fail
  with_reducible refine (Check_calls _ v t [1] (allN l) (tgsN [1] l 2) _ HN1.out HI1.out (by decide) (HV.out.rd.below HB6.out) HIA.out (by rw [HLA.out]; decide) (HTR.out.below HB6.out) HTOK.out (Nat.le_trans HTL.out (by decide))).mono ?_
  rintro e w7 ⟨rfl, hb⟩
  rw [HCK.out, HLA.out]
  have HB7 := Aside0.mk (below_step (below_step HB5.out HB6.out) hb)
  clear hb
  rw [show ckV (some (([1, 2, 3, 4, 5, 6, 7, 8] : List Int).length : Int)) = .tuple #[.int .i64 8, .int .i64 0] from rfl]
  go_wp2_with fail
  go_ret
  exact ⟨rfl, HB7.out⟩
set_option maxHeartbeats 8000000 in
set_option maxRecDepth 100000 in
theorem SealTags_main (u : Value) (s : List Int) (A : Option Addr) (n c : Nat) (l : List St) (w : World) (hr : Rd w .u8 u s) (hib : isB s) (hrow : StRow w A n c l) :
    Calls Try.prog 6 #[u, .slice A n c] w fun e w' => e = .returned (.bool true) ∧ Below w.heap.size w w' := by
  obtain ⟨m, hm⟩ : ∃ m, s.length = m := ⟨_, rfl⟩
  have HM := Aside0.mk hm
  have HR := Aside0.mk hr
  have HIB := Aside0.mk hib
  have HRW := Aside0.mk hrow
  have HLN := Aside0.mk hrow.1
  have HIA := Aside0.mk (show isB (allN l) from by
    have h := allN_isB l (fun j y hy => by
      have h0 : 0 < n := by rw [← hrow.1]; exact Nat.lt_of_le_of_lt (Nat.zero_le _) (List.getElem?_eq_some_iff.1 hy).1
      obtain ⟨ad, _, hat⟩ := hrow.2.2.2 h0
      exact (hat j y hy).ib) l.length
    rwa [List.take_length] at h)
  clear hr hib hrow hm
  go_enter Try.func6, Try.ntmps6
  go_wp2_with fail
  with_reducible refine (sea_awake_calls _).mono ?_
  rintro e w1 ⟨rfl, hb⟩
  have HB1 := Aside0.mk hb
  clear hb
  go_wp2_with fail
  with_reducible refine (light_calls u s A n c l _ (HR.out.below HB1.out) (HRW.out.below HB1.out)).mono ?_
  rintro e w2 ⟨bv, rfl, hbv, hb⟩
  have HB2 := Aside0.mk (below_step HB1.out hb)
  have HBV := Aside0.mk hbv
  clear hb hbv
  cases bv with
  | false =>
    go_wp2_with fail
    with_reducible refine (sea_awake_calls _).mono ?_
    rintro e w3 ⟨rfl, hb⟩
    have HB3 := Aside0.mk (below_step HB2.out hb)
    clear hb
    go_wp2_with fail
    go_ret
    exact ⟨rfl, HB3.out⟩
  | true =>
    obtain ⟨hs1, hn8, hal⟩ := HBV.out rfl
    obtain ⟨k, hk⟩ : ∃ k, (allN l).length = k := ⟨_, rfl⟩
    have HKK := Aside0.mk hk
    rw [hk] at hal
    go_wp2_with fail
    with_reducible refine (sealed_calls u s A n c l _ (HR.out.below HB2.out) HIB.out (by omega) (HRW.out.below HB2.out) hn8 (by omega)).mono ?_
    rintro e w5 ⟨v, t, rfl, hv, ht, hb⟩
    have HB5 := Aside0.mk (below_step HB2.out hb)
    have HTOK := Aside0.mk (tgsN_ok s l (by rw [HLN.out]; omega) (by omega) n)
    have HTL := Aside0.mk (Nat.le_trans (tgsN_len s l n) hn8)
    have HCK := Aside0.mk (ck_all s l n HLN.out hn8)
    have HV := Aside0.mk hv
    have HTR := Aside0.mk (ht.rd HTOK.out)
    obtain ⟨Av, cv, ev⟩ := hv.slice
    rw [hk] at ev HCK
    subst ev
    clear hv ht hb hk
    go_wp2_with fail
    with_reducible refine (Check_calls u (.slice Av k cv) t s (allN l) (tgsN s l n) _ (HR.out.below HB5.out) HIB.out (by omega) HV.out.rd HIA.out (by rw [HKK.out]; omega) HTR.out HTOK.out (Nat.le_trans HTL.out (by decide))).mono ?_
    rintro e w7 ⟨rfl, hb⟩
    rw [HCK.out]
    have HB7 := Aside0.mk (below_step HB5.out hb)
    clear hb
    rw [show ckV (some (k : Int)) = .tuple #[.int .i64 (k : Int), .int .i64 0] from rfl]
    go_wp2_with fail
    with_reducible refine (sea_awake_calls _).mono ?_
    rintro e w8 ⟨rfl, hb⟩
    have HB8 := Aside0.mk (below_step HB7.out hb)
    clear hb
    go_wp2_with fail
    go_ret
    exact ⟨rfl, HB8.out⟩
theorem SealTags_walk (a0 : Option Addr) (len0 cap0 : Nat) (z0 : List Int) (A1 : Option Addr) (n1 c1 : Nat) (l1 : List St) (w : World) (w0 : (a0 = none ∧ len0 = 0 ∧ cap0 = 0 ∧ z0 = []) ∨ ∃ x, a0 = some x ∧ len0 ≤ cap0 ∧ cap0 ≤ maxLen ∧ z0.length = cap0 ∧ (∀ i, i < z0.length → w.cell? (x.add i) = some (.int .u8 (z0.getD i 0))) ∧ ∀ n ∈ z0, (Lit.int .u8 n).wf = true) (y0 : len0 * 1 ≤ 140737488351232) (h1 : StRow w A1 n1 c1 l1) : Calls Try.prog 6 #[.slice a0 len0 cap0, .slice A1 n1 c1] w fun e w' => e = .returned (.bool true) ∧ Below w.heap.size w w' := by
  obtain ⟨l0, rfl, hr0, hm0, hw0, hc0⟩ := ReadsInt.ofRowC w0
  exact SealTags_main _ l0 A1 n1 c1 l1 w ⟨_, _, rfl, hc0, hr0⟩ (wf_isB hw0) h1
end Go.Proofs.Ytplmdgimodgekaa
end
