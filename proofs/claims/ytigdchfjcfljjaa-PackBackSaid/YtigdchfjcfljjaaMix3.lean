/- Package mix: bytes added part by part. -/
import Derived.Test.YtigdchfjcfljjaaMix
import Derived.Test.YtigdchfjcfljjaaMix2
import Derived.Test.YtigdchfjcfljjaaOwnO
namespace Go.Proofs.Ytigdchfjcfljjaa
open Go.RowKit Go.Proofs.YtigdchfjcfljjaaW.PrintWords Go.Proofs.YtigdchfjcfljjaaW.PrintLast Go.Proofs.YtigdchfjcfljjaaW.PrintMore
attribute [local go_sem] max2_int min2_int max_two min_two max_three min_three max_four min_four   -- for this text's walks alone
set_option linter.unusedVariables false
set_option linter.unusedSimpArgs false

theorem hk_drop (h : Int) (L : List Int) (q : Nat) : ∀ k, hk (hk h L q) (L.drop (8 * q)) k = hk h L (q + k)
  | 0 => rfl
  | k + 1 => by
    rw [hk, hk_drop h L q k, List.drop_drop, show q + (k + 1) = (q + k) + 1 by omega, hk, show 8 * q + 8 * k = 8 * (q + k) by omega]
theorem hk_app (h : Int) (L m : List Int) : ∀ q, 8 * q ≤ L.length → hk h (L ++ m) q = hk h L q
  | 0, _ => rfl
  | q + 1, hq => by
    rw [hk, hk, hk_app h L m q (by omega), List.drop_append_of_le_length (by omega), List.take_append_of_le_length (by rw [List.length_drop]; omega)]
theorem hk_parts (h : Int) (L m : List Int) (k : Nat) : hk (hk h L (L.length / 8)) (L.drop (8 * (L.length / 8)) ++ m) k = hk h (L ++ m) (L.length / 8 + k) := by
  have h8 : 8 * (L.length / 8) ≤ L.length := by omega
  rw [← hk_app h L m (L.length / 8) h8, ← List.drop_append_of_le_length h8, hk_drop]
theorem app8O {W : World} {base : Nat} {v u : Value} {xs ys : List Int} (HO : OwnO (Value.int .u8) W base 5 v xs) (HR : Rd W .u8 u ys) (hbase : base ≤ W.heap.size) (hl : xs.length + ys.length ≤ 140737488355328) :
    ∃ A1 c1 w1, (Builtin.append_ #[22, 22] 22 #[v, u]).run Try.prog W = .ok (.slice A1 (xs ++ ys).length c1) w1 ∧ OwnO (Value.int .u8) w1 base 5 (.slice A1 (xs ++ ys).length c1) (xs ++ ys) ∧ W.grownBy w1 v.ownBlock ∧ ((Value.slice A1 (xs ++ ys).length c1).ownBlock = v.ownBlock ∨ ∃ b, (Value.slice A1 (xs ++ ys).length c1).ownBlock = some b ∧ W.heap.size ≤ b) := by
  obtain ⟨v1, w1, hr, hO, hg, hat⟩ := app_runO (P := Try.prog) (Value.int .u8) (0 : Int) oneU8 22 22 5 (.int .u8 0) 1 Try.underlying22 infoU8 rfl (by omega) HO HR hbase (by omega)
  obtain ⟨A1, c1, rfl⟩ := hO.slice
  exact ⟨A1, c1, w1, hr, hO, hg, hat⟩
/-- The blocks that a call of Add may change: the sum's, and its row's. -/
def KS (g : Nat) (v : Value) : Nat → Prop := fun k => k = g ∨ v.ownBlock = some k
set_option maxHeartbeats 8000000 in
set_option maxRecDepth 100000 in
theorem AddO_calls (u : Value) (m : List Int) (w : World) (g base : Nat) (h n : Int) (v : Value) (l : List Int) (H : SumV w g h n v) (HO : OwnO (Value.int .u8) w base 5 v l) (hr : Rd w .u8 u m) (hib : isB (l ++ m)) (hbase : base ≤ w.heap.size) (hgb : base ≤ g) (hl : l.length ≤ 7) (hm : m.length ≤ 100000) (hn0 : 0 ≤ n) (hn1 : n ≤ 1000000) :
    Calls Try.prog 155 #[.pointer (some ⟨g, 0, none⟩), u] w fun e w' => e = .returned (.tuple #[]) ∧ ∃ v', SumV w' g (hk h (l ++ m) ((l ++ m).length / 8)) (n + m.length) v' ∧ OwnO (Value.int .u8) w' base 5 v' ((l ++ m).drop (8 * ((l ++ m).length / 8))) ∧ Kp (KS g v) w w' ∧ (v'.ownBlock = v.ownBlock ∨ ∃ b, v'.ownBlock = some b ∧ w.heap.size ≤ b) := by
  obtain ⟨A0, c0, ev⟩ := HO.slice
  obtain ⟨Au, cu, eu, _, hmu, _⟩ := hr.mid
  subst ev
  subst eu
  have HIB := Aside0.mk hib
  have HH := Aside0.mk H
  have hc1 := H.c1
  have hf1 := blk_frozen H 1
  have H1 := H.s1 (n + m.length)
  have hne : (Value.slice A0 l.length c0).ownBlock ≠ some g := HO.ne H (by decide)
  have HO1 : OwnO (Value.int .u8) (w.setCell ⟨g, 1, none⟩ (.int .u64 (n + m.length))) base 5 (.slice A0 l.length c0) l := HO.move (fun k hk => Below.heap_setCell w _ _ k (fun e => hne (by rw [hk, e])))
  have hr1 : Rd (w.setCell ⟨g, 1, none⟩ (.int .u64 (n + m.length))) .u8 (.slice Au m.length cu) m := Rd.kp' hr (Kp.set _ _ _) (fun A k c e hp => rd_ne H hr A k c e hp)
  have hd2 := H1.c2
  obtain ⟨A4, c4, w4, hrun4, hO4, hg4, hat4⟩ := app8O HO1 hr1 (by simpa [World.setCell] using hbase) (by omega)
  have h4 : SumV w4 g h (n + m.length) (.slice A0 l.length c0) := blk_grown H1 hg4 (fun e => HO1.ne H1 (by decide) e.symm)
  have hf4 := blk_frozen h4 2
  have hc4 := h4.c2
  have hsz : w.heap.size = (w.setCell ⟨g, 1, none⟩ (.int .u64 (n + m.length))).heap.size := by simp [World.setCell]
  have H5 := Aside0.mk (h4.s2 (.slice A4 (l ++ m).length c4))
  have HO5 := Aside0.mk (show OwnO (Value.int .u8) (w4.setCell ⟨g, 2, none⟩ (.slice A4 (l ++ m).length c4)) base 5 (.slice A4 (l ++ m).length c4) (l ++ m) from hO4.move (fun k hk => Below.heap_setCell w4 _ _ k (fun e => hO4.ne h4 (by decide) (by rw [hk, e]))))
  have HK5 := Aside0.mk (show Kp (KS g (Value.slice A0 l.length c0)) w (w4.setCell ⟨g, 2, none⟩ (.slice A4 (l ++ m).length c4)) from
    (((Kp.set w ⟨g, 1, none⟩ (.int .u64 (n + m.length))).mono (fun k hk => .inl hk)).trans (Kp.of_grown hg4) (fun k hk => .inl (.inr hk))).trans (Kp.set w4 ⟨g, 2, none⟩ _) (fun k hk => .inl (.inl hk)))
  have HAT := Aside0.mk (show (Value.slice A4 (l ++ m).length c4).ownBlock = (Value.slice A0 l.length c0).ownBlock ∨ ∃ b, (Value.slice A4 (l ++ m).length c4).ownBlock = some b ∧ w.heap.size ≤ b by rw [hsz]; exact hat4)
  have HR4 := Aside0.mk hrun4
  obtain ⟨N, hN⟩ : ∃ N, (l ++ m).length = N := ⟨_, rfl⟩
  have hNN : N = l.length + m.length := by rw [← hN]; simp
  obtain ⟨L, hL⟩ : ∃ L, l ++ m = L := ⟨_, rfl⟩
  rw [hN] at HR4 H5 HO5 HK5 HAT ⊢
  rw [hL] at HIB HO5 hN ⊢
  have HL := Aside0.mk hL
  have HN := Aside0.mk hN
  have HNN := Aside0.mk hNN
  have hNm : N ≤ 100007 := by omega
  clear hNN
  clear HO hr hib H1 hne HO1 hr1 hrun4 hO4 hg4 hat4 h4 hL hN H hsz
  go_enter Try.func155, Try.ntmps155
  go_wp2_with (first | ((with_reducible refine gate_builtin (b := .append) (xs := #[.tmp 20, .tmp 21]) rfl ?_); at_builtin; refine app_list rfl (.tmp 20) (.tmp 21) rfl rfl rfl HR4.out ?_))
  obtain ⟨q, hq⟩ : ∃ q, N / 8 = q := ⟨_, rfl⟩
  have HQ := Aside0.mk hq
  have hq1 : 8 * q ≤ N ∧ N < 8 * q + 8 := by omega
  clear hq
  go_loopg [4, 5] q (fun kq v4 v5 w' => ∃ (k : Nat) (v' : Value), k + kq = q ∧ Aside0 (SumV w' g (hk h L k) (n + m.length) v') ∧ Aside0 (OwnO (Value.int .u8) w' base 5 v' (L.drop (8 * k))) ∧ Aside0 (v'.ownBlock = (Value.slice A0 l.length c0).ownBlock ∨ ∃ b, v'.ownBlock = some b ∧ w.heap.size ≤ b) ∧ Aside0 (Kp (KS g (Value.slice A0 l.length c0)) w w'))
  case atStart => exact ⟨0, _, by omega, H5, ⟨by have := HO5.out; simpa using this⟩, HAT, HK5⟩
  case round =>
    obtain ⟨k, v', hkq, HS, HO, HA, HK⟩ := hrel
    have hkN : 8 * k ≤ N := by omega
    obtain ⟨A', c', e'⟩ := HO.out.slice
    subst e'
    have HR := Aside0.mk (OwnO.rd HO.out)
    have HD := Aside0.mk (show (L.drop (8 * k)).length = N - 8 * k by rw [List.length_drop, HN.out])
    obtain ⟨d, hd⟩ : ∃ d, (L.drop (8 * k)).length = d := ⟨_, rfl⟩
    rw [hd] at HS HR HO HA
    have hcell := HS.out.c2
    have HDD := Aside0.mk hd
    have hdk : d + 8 * k = N := by have := HD.out; rw [hd] at this; omega
    clear hd HD
    by_cases c1 : 8 ≤ d
    · have HF := Aside0.mk (show fitsB (L.drop (8 * k)).length 0 8 = true from fits_ok ⟨by omega, by omega, by omega, by rw [HDD.out]; omega⟩)
      obtain ⟨x, hx⟩ : ∃ x, leN ((L.drop (8 * k)).take 8) = x := ⟨_, rfl⟩
      have HG := Aside0.mk (show getN (L.drop (8 * k)) 0 8 = x by rw [getN, if_pos HF.out, ← hx]; rfl)
      have HX := Aside0.mk hx
      obtain ⟨i5, hi5, hz5⟩ := infoU8'
      obtain ⟨v2, hcut, hown2, hsame⟩ := OwnO.cut (P := Try.prog) 22 5 Try.underlying22 hi5 hz5 HO.out 8 (by omega) (by rw [HDD.out]; omega)
      obtain ⟨A2, c2, e2⟩ := (hown2 _ HO.out).slice
      subst e2
      have HRD := Aside0.mk hown2
      have HSM := Aside0.mk hsame
      have HDD2 := Aside0.mk (show (L.drop (8 * k)).drop (8 : Int).toNat = L.drop (8 * (k + 1)) by rw [List.drop_drop]; rfl)
      rw [HDD2.out] at hcut HSM
      obtain ⟨d2, hd2⟩ : ∃ d2, (L.drop (8 * (k + 1))).length = d2 := ⟨_, rfl⟩
      have HD2 := Aside0.mk hd2
      rw [hd2] at hcut HSM
      clear hown2 hi5 hz5 hx hd2 hsame
      go_wp2_with fail
      refine (le_Get_calls _ (L.drop (8 * k)) 0 8 _ HR.out (HIB.out.drop _)).mono ?_
      rintro e w5 ⟨rfl, hb⟩
      rw [HF.out, HG.out]
      have HS5 := Aside0.mk (HS.out.below hb)
      have HK5' := Aside0.mk (HK.out.below hb)
      have HO5' := Aside0.mk (HO.out.below hb)
      clear hb
      go_wp2_with fail
      refine (stir_calls x _ g _ _ _ HS5.out).mono ?_
      rintro e w6 ⟨rfl, hs6, hk6⟩
      have hcell6 := hs6.c2
      have hf6 := blk_frozen hs6 2
      have HO6 := Aside0.mk (show OwnO (Value.int .u8) w6 base 5 (.slice A' d c') (L.drop (8 * k)) from HO5'.out.move (fun b hb => hk6.block b (HO5'.out.lt hb) (fun e => HO5'.out.ne HS5.out (by decide) (by rw [hb, e]))))
      have HS6 := Aside0.mk hs6
      have HK6 := Aside0.mk (HK5'.out.trans hk6 (fun k hk => .inl (.inl hk)))
      clear hs6 hk6
      have HO7 := Aside0.mk (show OwnO (Value.int .u8) (w6.setCell ⟨g, 2, none⟩ (.slice A2 d2 c2)) base 5 (.slice A2 d2 c2) (L.drop (8 * (k + 1))) by
        have h1 := HRD.out _ HO6.out
        rw [HDD2.out, HD2.out] at h1
        exact h1.move (fun b hb => Below.heap_setCell w6 _ _ b (fun e => h1.ne HS6.out (by decide) (by rw [hb, e]))))
      have HA7 := Aside0.mk (show (Value.slice A2 d2 c2).ownBlock = (Value.slice A0 l.length c0).ownBlock ∨ ∃ b, (Value.slice A2 d2 c2).ownBlock = some b ∧ w.heap.size ≤ b by rw [HSM.out]; exact HA.out)
      have hkd : k + 1 ≤ q := by omega
      go_wp2_with fail
      go_roundg (q - (k + 1))
      case measure => omega
      case rel => exact ⟨k + 1, _, by omega, ⟨by rw [hk, HX.out]; exact HS6.out.s2 _⟩, HO7, HA7, ⟨HK6.out.trans (Kp.set w6 ⟨g, 2, none⟩ _) (fun k hk => .inl (.inl hk))⟩⟩
    · go_wp2_with fail
      go_end0
      have hkk : N / 8 = k := by omega
      exact ⟨rfl, _, by rw [hkk]; exact HS.out, by rw [hkk]; exact HO.out, HK.out, HA.out⟩
/-- A sum in the making, in block g, of the bytes L. -/
def MixS (W : World) (g base : Nat) (key : Int) (v : Value) (L : List Int) : Prop := SumV W g (hk (bits .xor .u64 key 11400714819323198485) L (L.length / 8)) L.length v ∧ OwnO (Value.int .u8) W base 5 v (L.drop (8 * (L.length / 8)))
theorem MixS.below {W W1 : World} {g base : Nat} {key : Int} {v : Value} {L : List Int} (h : MixS W g base key v L) (hb : Below W.heap.size W W1) : MixS W1 g base key v L := ⟨h.1.below hb, h.2.below hb⟩
theorem MixAdd_calls (u : Value) (m : List Int) (w : World) (g base : Nat) (key : Int) (v : Value) (L : List Int) (H : MixS w g base key v L) (hr : Rd w .u8 u m) (hib : isB (L ++ m)) (hbase : base ≤ w.heap.size) (hgb : base ≤ g) (hL : L.length ≤ 100000) (hm : m.length ≤ 1000) :
    Calls Try.prog 155 #[.pointer (some ⟨g, 0, none⟩), u] w fun e w' => e = .returned (.tuple #[]) ∧ ∃ v', MixS w' g base key v' (L ++ m) ∧ Kp (KS g v) w w' ∧ (v'.ownBlock = v.ownBlock ∨ ∃ b, v'.ownBlock = some b ∧ w.heap.size ≤ b) := by
  obtain ⟨h1, h2⟩ := H
  have hq : 8 * (L.length / 8) ≤ L.length := by omega
  have e1 : L.drop (8 * (L.length / 8)) ++ m = (L ++ m).drop (8 * (L.length / 8)) := (List.drop_append_of_le_length hq).symm
  have hlen : (L.drop (8 * (L.length / 8)) ++ m).length = L.length + m.length - 8 * (L.length / 8) := by rw [List.length_append, List.length_drop]; omega
  refine (AddO_calls u m w g base _ _ v _ h1 h2 hr (by rw [e1]; exact hib.drop _) hbase hgb (by rw [List.length_drop]; omega) (by omega) (by omega) (by omega)).mono ?_
  rintro e w1 ⟨rfl, v', hs, ho, hk, ha⟩
  have e2 : L.length / 8 + (L.drop (8 * (L.length / 8)) ++ m).length / 8 = (L ++ m).length / 8 := by rw [hlen, List.length_append]; omega
  rw [hk_parts, e2, show (L.length : Int) + (m.length : Int) = ((L ++ m).length : Int) by rw [List.length_append]; omega] at hs
  have e3 : 8 * (L.length / 8) + 8 * ((L.drop (8 * (L.length / 8)) ++ m).length / 8) = 8 * ((L ++ m).length / 8) := by omega
  rw [e1, List.drop_drop, ← e1, e3] at ho
  exact ⟨rfl, v', ⟨hs, ho⟩, hk, ha⟩
end Go.Proofs.Ytigdchfjcfljjaa
