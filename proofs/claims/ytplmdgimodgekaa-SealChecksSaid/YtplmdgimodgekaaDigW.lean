/- SHA-256: New, Write. -/
import Derived.Test.YtplmdgimodgekaaDigK
import Derived.Test.YtplmdgimodgekaaOwnO
import Derived.Test.YtplmdgimodgekaaMix3
import Derived.Test.YtplmdgimodgekaaCut
namespace Go.Proofs.Ytplmdgimodgekaa
open Go.RowKit Go.Proofs.YtplmdgimodgekaaW.PrintWords Go.Proofs.YtplmdgimodgekaaW.PrintLast Go.Proofs.YtplmdgimodgekaaW.PrintMore
attribute [local go_sem] max2_int min2_int max_two min_two max_three min_three max_four min_four   -- for this text's walks alone
set_option linter.unusedVariables false
set_option linter.unusedSimpArgs false

/-- The words behind k blocks. -/
def bkN (hs L : List Int) : Nat → List Int
  | 0 => hs
  | k + 1 => blkP (bkN hs L k) ((L.drop (64 * k)).take 64)
theorem bkN_8 {hs : List Int} (h : is8 hs) (L : List Int) : ∀ k, is8 (bkN hs L k)
  | 0 => h
  | k + 1 => blkP_8 _ _
theorem bkN_drop (h L : List Int) (q : Nat) : ∀ k, bkN (bkN h L q) (L.drop (64 * q)) k = bkN h L (q + k)
  | 0 => rfl
  | k + 1 => by
    rw [bkN, bkN_drop h L q k, List.drop_drop, show q + (k + 1) = (q + k) + 1 by omega, bkN, show 64 * q + 64 * k = 64 * (q + k) by omega]
theorem bkN_app (h L m : List Int) : ∀ q, 64 * q ≤ L.length → bkN h (L ++ m) q = bkN h L q
  | 0, _ => rfl
  | q + 1, hq => by
    rw [bkN, bkN, bkN_app h L m q (by omega), List.drop_append_of_le_length (by omega), List.take_append_of_le_length (by rw [List.length_drop]; omega)]
theorem bkN_parts (h L m : List Int) (k : Nat) : bkN (bkN h L (L.length / 64)) (L.drop (64 * (L.length / 64)) ++ m) k = bkN h (L ++ m) (L.length / 64 + k) := by
  have h8 : 64 * (L.length / 64) ≤ L.length := by omega
  rw [← bkN_app h L m (L.length / 64) h8, ← List.drop_append_of_le_length h8, bkN_drop]
theorem HashV.c8 {W : World} {g : Nat} {hs : List Int} {v : Value} {n : Int} (H : HashV W g hs v n) (hl : hs.length = 8) : W.cell? ⟨g, 8, none⟩ = some v := (blk_cell H 8).trans (hashA_8 hl v n)
theorem HashV.c9 {W : World} {g : Nat} {hs : List Int} {v : Value} {n : Int} (H : HashV W g hs v n) (hl : hs.length = 8) : W.cell? ⟨g, 9, none⟩ = some (.int .u64 n) := (blk_cell H 9).trans (hashA_9 hl v n)
theorem HashV.below {W W1 : World} {g : Nat} {hs : List Int} {v : Value} {n : Int} (H : HashV W g hs v n) (hb : Below W.heap.size W W1) : HashV W1 g hs v n := blk_below H hb
theorem HashV.s8 {W : World} {g : Nat} {hs : List Int} {v : Value} {n : Int} (H : HashV W g hs v n) (hl : hs.length = 8) (u : Value) : HashV (W.setCell ⟨g, 8, none⟩ u) g hs u n := by rw [HashV, blk_set H 8 u, hashA_set8 hl]
theorem HashV.s9 {W : World} {g : Nat} {hs : List Int} {v : Value} {n : Int} (H : HashV W g hs v n) (hl : hs.length = 8) (m : Int) : HashV (W.setCell ⟨g, 9, none⟩ (.int .u64 m)) g hs v m := by rw [HashV, blk_set H 9 _, hashA_set9 hl]
theorem hash_ne {W : World} {g : Nat} {hs : List Int} {n : Int} {v : Value} {u : Value} {xs : List Int} (H : HashV W g hs v n) (hl : hs.length = 8) {A0 : Option Addr} {n0 c0 : Nat} (hv : v = .slice A0 n0 c0) (hr : Rd W .u8 u xs) (A : Addr) (k c : Nat) (e : u = .slice (some A) k c) (hp : 0 < xs.length) : A.block ≠ g := by
  subst hv
  intro hg
  obtain ⟨A2, c2, e2, _, _, _, hr⟩ := hr
  rw [e] at e2
  simp only [Value.slice.injEq] at e2
  obtain ⟨rfl, _, _⟩ := e2
  obtain ⟨ad, e3, hc⟩ := hr hp
  simp only [Option.some.injEq] at e3
  subst e3
  have h0 := hc 0 hp
  rw [World.cell?, add_block, hg, H] at h0
  have hall : ∀ x ∈ (hashA hs (.slice A0 n0 c0) n).toList, ∀ y : Int, x ≠ .int .u8 y := by
    intro x hx y he
    simp only [hashA, nums, List.mem_append, List.mem_map, List.mem_cons, List.not_mem_nil, or_false] at hx
    rcases hx with ⟨z, _, rfl⟩ | rfl | rfl <;> cases he
  have h1 : (hashA hs (.slice A0 n0 c0) n)[(A.add 0).off]? = some (.int .u8 (xs.getD 0 0)) := by
    revert h0
    by_cases c : (A.add 0).spot.isSome = true
    · simp [c]
    · simp only [c, if_false]; exact id
  exact hall _ (by simpa using Array.mem_of_getElem? h1) _ rfl
def h0L : List Int := [1779033703, 3144134277, 1013904242, 2773480762, 1359893119, 2600822924, 528734635, 1541459225]
theorem h0L_8 : is8 h0L := ⟨rfl, by decide⟩
set_option maxHeartbeats 8000000 in
set_option maxRecDepth 100000 in
theorem dNew_calls (w : World) : Calls Try.prog 133 #[] w fun e w' => e = .returned (.pointer (some ⟨w.heap.size, 0, none⟩)) ∧ HashV w' w.heap.size h0L (.slice none 0 0) 0 ∧ Below w.heap.size w w' := by
  have H := Aside0.mk (show HashV (w.alloc (.cells (hashA h0L (.slice none 0 0) 0) 215)) w.heap.size h0L (.slice none 0 0) 0 from blk_new w _)
  go_enter Try.func133, Try.ntmps133
  go_wp2
  go_ret
  exact ⟨rfl, H.out, below_alloc (Below.refl _ _) _⟩
set_option maxHeartbeats 8000000 in
set_option maxRecDepth 100000 in
theorem WriteO_calls (u : Value) (m : List Int) (w : World) (g base : Nat) (hs : List Int) (n : Int) (v : Value) (l : List Int) (H : HashV w g hs v n) (h8 : is8 hs) (HO : OwnO (Value.int .u8) w base 5 v l) (hr : Rd w .u8 u m) (hib : isB (l ++ m)) (hbase : base ≤ w.heap.size) (hgb : base ≤ g) (hl : l.length ≤ 63) (hm : m.length ≤ 100000) (hn0 : 0 ≤ n) (hn1 : n ≤ 1000000) :
    Calls Try.prog 134 #[.pointer (some ⟨g, 0, none⟩), u] w fun e w' => e = .returned (.tuple #[]) ∧ ∃ v', HashV w' g (bkN hs (l ++ m) ((l ++ m).length / 64)) v' (n + m.length) ∧ OwnO (Value.int .u8) w' base 5 v' ((l ++ m).drop (64 * ((l ++ m).length / 64))) ∧ Kp (KS g v) w w' ∧ (v'.ownBlock = v.ownBlock ∨ ∃ b, v'.ownBlock = some b ∧ w.heap.size ≤ b) := by
  obtain ⟨A0, c0, ev⟩ := HO.slice
  obtain ⟨Au, cu, eu, _, hmu, _⟩ := hr.mid
  subst ev
  subst eu
  have hl8 := h8.1
  have HIB := Aside0.mk hib
  have H8 := Aside0.mk h8
  have hc1 := H.c9 hl8
  have hf1 := blk_frozen H 9
  have H1 := H.s9 hl8 (n + m.length)
  have hne : (Value.slice A0 l.length c0).ownBlock ≠ some g := HO.ne H (by decide)
  have HO1 : OwnO (Value.int .u8) (w.setCell ⟨g, 9, none⟩ (.int .u64 (n + m.length))) base 5 (.slice A0 l.length c0) l := HO.move (fun k hk => Below.heap_setCell w _ _ k (fun e => hne (by rw [hk, e])))
  have hr1 : Rd (w.setCell ⟨g, 9, none⟩ (.int .u64 (n + m.length))) .u8 (.slice Au m.length cu) m := Rd.kp' hr (Kp.set _ _ _) (fun A k c e hp => hash_ne H hl8 rfl hr A k c e hp)
  have hd2 := H1.c8 hl8
  obtain ⟨A4, c4, w4, hrun4, hO4, hg4, hat4⟩ := app8O HO1 hr1 (by simpa [World.setCell] using hbase) (by omega)
  have h4 : HashV w4 g hs (.slice A0 l.length c0) (n + m.length) := blk_grown H1 hg4 (fun e => HO1.ne H1 (by decide) e.symm)
  have hf4 := blk_frozen h4 8
  have hc4 := h4.c8 hl8
  have hsz : w.heap.size = (w.setCell ⟨g, 9, none⟩ (.int .u64 (n + m.length))).heap.size := by simp [World.setCell]
  have H5 := Aside0.mk (h4.s8 hl8 (.slice A4 (l ++ m).length c4))
  have HO5 := Aside0.mk (show OwnO (Value.int .u8) (w4.setCell ⟨g, 8, none⟩ (.slice A4 (l ++ m).length c4)) base 5 (.slice A4 (l ++ m).length c4) (l ++ m) from hO4.move (fun k hk => Below.heap_setCell w4 _ _ k (fun e => hO4.ne h4 (by decide) (by rw [hk, e]))))
  have HK5 := Aside0.mk (show Kp (KS g (Value.slice A0 l.length c0)) w (w4.setCell ⟨g, 8, none⟩ (.slice A4 (l ++ m).length c4)) from
    (((Kp.set w ⟨g, 9, none⟩ (.int .u64 (n + m.length))).mono (fun k hk => .inl hk)).trans (Kp.of_grown hg4) (fun k hk => .inl (.inr hk))).trans (Kp.set w4 ⟨g, 8, none⟩ _) (fun k hk => .inl (.inl hk)))
  have HAT := Aside0.mk (show (Value.slice A4 (l ++ m).length c4).ownBlock = (Value.slice A0 l.length c0).ownBlock ∨ ∃ b, (Value.slice A4 (l ++ m).length c4).ownBlock = some b ∧ w.heap.size ≤ b by rw [hsz]; exact hat4)
  have HR4 := Aside0.mk hrun4
  obtain ⟨N, hN⟩ : ∃ N, (l ++ m).length = N := ⟨_, rfl⟩
  have hNN : N = l.length + m.length := by rw [← hN]; simp
  obtain ⟨L, hL⟩ : ∃ L, l ++ m = L := ⟨_, rfl⟩
  rw [hN] at HR4 H5 HO5 HK5 HAT ⊢
  rw [hL] at HIB HO5 hN ⊢
  have HL := Aside0.mk hL
  have HN := Aside0.mk hN
  have HNN := Aside0.mk hNN
  have hNm : N ≤ 100063 := by omega
  clear hNN
  clear HO hr hib H1 hne HO1 hr1 hrun4 hO4 hg4 hat4 h4 hL hN H hsz h8 hl8
  go_enter Try.func134, Try.ntmps134
  go_wp2_with (first | ((with_reducible refine gate_builtin (b := .append) (xs := #[.tmp 18, .tmp 19]) rfl ?_); at_builtin; refine app_list rfl (.tmp 18) (.tmp 19) rfl rfl rfl HR4.out ?_))
  obtain ⟨q, hq⟩ : ∃ q, N / 64 = q := ⟨_, rfl⟩
  have HQ := Aside0.mk hq
  have hq1 : 64 * q ≤ N ∧ N < 64 * q + 64 := by omega
  clear hq
  go_loopg [] q (fun kq w' => ∃ (k : Nat) (v' : Value), k + kq = q ∧ Aside0 (HashV w' g (bkN hs L k) v' (n + m.length)) ∧ Aside0 (OwnO (Value.int .u8) w' base 5 v' (L.drop (64 * k))) ∧ Aside0 (v'.ownBlock = (Value.slice A0 l.length c0).ownBlock ∨ ∃ b, v'.ownBlock = some b ∧ w.heap.size ≤ b) ∧ Aside0 (Kp (KS g (Value.slice A0 l.length c0)) w w'))
  case atStart => exact ⟨0, _, by omega, H5, ⟨by have := HO5.out; simpa using this⟩, HAT, HK5⟩
  case round =>
    obtain ⟨k, v', hkq, HS, HO, HA, HK⟩ := hrel
    have hkN : 64 * k ≤ N := by omega
    obtain ⟨A', c', e'⟩ := HO.out.slice
    subst e'
    have HR := Aside0.mk (OwnO.rd HO.out)
    have HD := Aside0.mk (show (L.drop (64 * k)).length = N - 64 * k by rw [List.length_drop, HN.out])
    obtain ⟨d, hd⟩ : ∃ d, (L.drop (64 * k)).length = d := ⟨_, rfl⟩
    rw [hd] at HS HR HO HA
    have HK8 := Aside0.mk (bkN_8 H8.out L k)
    have hcell := HS.out.c8 HK8.out.1
    have HDD := Aside0.mk hd
    have hdk : d + 64 * k = N := by have := HD.out; rw [hd] at this; omega
    clear hd HD
    by_cases c1 : 64 ≤ d
    · obtain ⟨i5, hi5, hz5⟩ := infoU8'
      obtain ⟨v2, hcut, hown2, hsame⟩ := OwnO.cut (P := Try.prog) 37 5 Try.underlying37 hi5 hz5 HO.out 64 (by omega) (by rw [HDD.out]; omega)
      obtain ⟨v3, htake, hrd3⟩ := Rd.takeTo 37 5 Try.underlying37 hi5 hz5 HR.out 64 (by omega) (by rw [HDD.out]; omega)
      obtain ⟨A2, c2, e2⟩ := (hown2 _ HO.out).slice
      subst e2
      have HRD := Aside0.mk hown2
      have HSM := Aside0.mk hsame
      have HR3 := Aside0.mk (hrd3 _ HR.out)
      have HDD2 := Aside0.mk (show (L.drop (64 * k)).drop (64 : Int).toNat = L.drop (64 * (k + 1)) by rw [List.drop_drop]; rfl)
      rw [HDD2.out] at hcut HSM
      obtain ⟨d2, hd2⟩ : ∃ d2, (L.drop (64 * (k + 1))).length = d2 := ⟨_, rfl⟩
      have HD2 := Aside0.mk hd2
      rw [hd2] at hcut HSM
      have HT := Aside0.mk (show ((L.drop (64 * k)).take (64 : Int).toNat).length = 64 by rw [List.length_take, HDD.out]; show min 64 d = 64; omega)
      clear hown2 hi5 hz5 hd2 hsame hrd3
      go_wp2_with fail
      refine (block_calls _ ((L.drop (64 * k)).take (64 : Int).toNat) _ g _ _ _ HS.out HK8.out HR3.out ((HIB.out.drop _).take _) HT.out).mono ?_
      rintro e w6 ⟨rfl, hs6, hk6⟩
      have hcell6 := hs6.c8 (blkP_8 _ _).1
      have hf6 := blk_frozen hs6 8
      have HO6 := Aside0.mk (show OwnO (Value.int .u8) w6 base 5 (.slice A' d c') (L.drop (64 * k)) from HO.out.move (fun b hb => hk6.block b (HO.out.lt hb) (fun e => HO.out.ne HS.out (by decide) (by rw [hb, e]))))
      have HS6 := Aside0.mk hs6
      have HK6 := Aside0.mk (HK.out.trans hk6 (fun k hk => .inl (.inl hk)))
      clear hs6 hk6
      have HO7 := Aside0.mk (show OwnO (Value.int .u8) (w6.setCell ⟨g, 8, none⟩ (.slice A2 d2 c2)) base 5 (.slice A2 d2 c2) (L.drop (64 * (k + 1))) by
        have h1 := HRD.out _ HO6.out
        rw [HDD2.out, HD2.out] at h1
        exact h1.move (fun b hb => Below.heap_setCell w6 _ _ b (fun e => h1.ne HS6.out (by decide) (by rw [hb, e]))))
      have HA7 := Aside0.mk (show (Value.slice A2 d2 c2).ownBlock = (Value.slice A0 l.length c0).ownBlock ∨ ∃ b, (Value.slice A2 d2 c2).ownBlock = some b ∧ w.heap.size ≤ b by rw [HSM.out]; exact HA.out)
      have hkd : k + 1 ≤ q := by omega
      go_wp2_with fail
      go_roundg (q - (k + 1))
      case measure => omega
      case rel => exact ⟨k + 1, _, by omega, ⟨HS6.out.s8 (blkP_8 _ _).1 _⟩, HO7, HA7, ⟨HK6.out.trans (Kp.set w6 ⟨g, 8, none⟩ _) (fun k hk => .inl (.inl hk))⟩⟩
    · go_wp2_with fail
      go_end0
      have hkk : N / 64 = k := by omega
      exact ⟨rfl, _, by rw [hkk]; exact HS.out, by rw [hkk]; exact HO.out, HK.out, HA.out⟩
/-- A sum in the making, in block g, of the bytes L. -/
def DigS (W : World) (g base : Nat) (v : Value) (L : List Int) (n : Int) : Prop := HashV W g (bkN h0L L (L.length / 64)) v n ∧ OwnO (Value.int .u8) W base 5 v (L.drop (64 * (L.length / 64)))
theorem DigS.below {W W1 : World} {g base : Nat} {v : Value} {L : List Int} {n : Int} (h : DigS W g base v L n) (hb : Below W.heap.size W W1) : DigS W1 g base v L n := ⟨h.1.below hb, h.2.below hb⟩
theorem Write_calls (u : Value) (m : List Int) (w : World) (g base : Nat) (v : Value) (L : List Int) (n : Int) (H : DigS w g base v L n) (hr : Rd w .u8 u m) (hib : isB (L ++ m)) (hbase : base ≤ w.heap.size) (hgb : base ≤ g) (hm : m.length ≤ 100000) (hn0 : 0 ≤ n) (hn1 : n ≤ 1000000) :
    Calls Try.prog 134 #[.pointer (some ⟨g, 0, none⟩), u] w fun e w' => e = .returned (.tuple #[]) ∧ ∃ v', DigS w' g base v' (L ++ m) (n + m.length) ∧ Kp (KS g v) w w' ∧ (v'.ownBlock = v.ownBlock ∨ ∃ b, v'.ownBlock = some b ∧ w.heap.size ≤ b) := by
  obtain ⟨h1, h2⟩ := H
  have hq : 64 * (L.length / 64) ≤ L.length := by omega
  have e1 : L.drop (64 * (L.length / 64)) ++ m = (L ++ m).drop (64 * (L.length / 64)) := (List.drop_append_of_le_length hq).symm
  have hlen : (L.drop (64 * (L.length / 64)) ++ m).length = L.length + m.length - 64 * (L.length / 64) := by rw [List.length_append, List.length_drop]; omega
  refine (WriteO_calls u m w g base _ _ v _ h1 (bkN_8 h0L_8 L _) h2 hr (by rw [e1]; exact hib.drop _) hbase hgb (by rw [List.length_drop]; omega) hm hn0 hn1).mono ?_
  rintro e w1 ⟨rfl, v', hs, ho, hk, ha⟩
  have e2 : L.length / 64 + (L.drop (64 * (L.length / 64)) ++ m).length / 64 = (L ++ m).length / 64 := by rw [hlen, List.length_append]; omega
  rw [bkN_parts, e2] at hs
  have e3 : 64 * (L.length / 64) + 64 * ((L.drop (64 * (L.length / 64)) ++ m).length / 64) = 64 * ((L ++ m).length / 64) := by omega
  rw [e1, List.drop_drop, ← e1, e3] at ho
  exact ⟨rfl, v', ⟨hs, ho⟩, hk, ha⟩
end Go.Proofs.Ytplmdgimodgekaa
