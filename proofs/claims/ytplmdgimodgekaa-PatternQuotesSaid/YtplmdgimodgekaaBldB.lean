/- strings.Builder: WriteByte, String; which blocks change. -/
import Derived.Test.YtplmdgimodgekaaBld
import Derived.Test.YtplmdgimodgekaaAp
namespace Go.Proofs.Ytplmdgimodgekaa
open Go.Shelf Go.RowKit Go.Proofs.YtplmdgimodgekaaW.PrintWords Go.Proofs.YtplmdgimodgekaaW.PrintLast Go.Proofs.YtplmdgimodgekaaW.PrintMore
attribute [local go_sem] max2_int min2_int max_two min_two max_three min_three max_four min_four   -- for this text's walks alone
set_option linter.unusedVariables false
set_option linter.unusedSimpArgs false

/-- The builder in block b, its row v from block R on. -/
structure BRow (W : World) (b R : Nat) (p v : Value) (xs : List Int) : Prop where
  blk : W.heap[b]? = some (.cells #[p, v] 117 (0, 0))
  ptr : p = .pointer none ∨ p = .pointer (some ⟨b, 0, none⟩)
  own : Own (Value.int .u8) W R 5 v xs
  ne : v.ownBlock ≠ some b
theorem BRow.at_ {W : World} {b R : Nat} {p v : Value} {xs : List Int} (h : BRow W b R p v xs) (hR : b ≤ R) : Lib.BuilderAt 117 5 b b p (encs (Value.int .u8) xs) W := by
  refine ⟨Nat.le_refl _, v, h.blk, ?_, h.ne⟩
  have := h.own.weaken hR
  unfold Own at this
  simpa [encs] using this
theorem BRow.below {W W1 : World} {b R : Nat} {p v : Value} {xs : List Int} (h : BRow W b R p v xs) (hb : Below W.heap.size W W1) : BRow W1 b R p v xs := ⟨blk_below h.blk hb, h.ptr, h.own.below hb, h.ne⟩
set_option maxHeartbeats 8000000 in
set_option maxRecDepth 100000 in
theorem copyCheck_row (w : World) (b R : Nat) (p v : Value) (xs : List Int) (h : BRow w b R p v xs) (hR : b ≤ R) :
    Calls Try.prog 103 #[.pointer (some ⟨b, 0, none⟩)] w fun e w' => e = .returned (.tuple #[]) ∧ BRow w' b R (.pointer (some ⟨b, 0, none⟩)) v xs ∧ Kp (fun k => k = b) w w' := by
  have ha := h.at_ hR
  rcases h.ptr with rfl | rfl
  · refine (copyCheck_fresh b w ha.cell0 ha.shape ha.frozen0).mono ?_
    rintro e w' ⟨rfl, rfl⟩
    have hk := Kp.set w ⟨b, 0, none⟩ (.pointer (some ⟨b, 0, none⟩))
    exact ⟨rfl, ⟨by have := blk_set h.blk 0 (.pointer (some ⟨b, 0, none⟩)); exact this, .inr rfl, hk.own h.own (fun k hk' e => h.ne (by rw [hk', show k = b from e])), h.ne⟩, hk⟩
  · refine (copyCheck_used b w ha.cell0).mono ?_
    rintro e w' ⟨rfl, rfl⟩
    exact ⟨rfl, h, Kp.refl _ _⟩
theorem infoU8b : (Try.prog.info? 5).map (fun i => (i.zero, i.size, i.bytes)) = some (some (.int .u8 0), 1, 1) := by kernel_rfl
set_option maxHeartbeats 8000000 in
set_option maxRecDepth 100000 in
theorem WriteByte_calls (w : World) (b R : Nat) (p v : Value) (xs : List Int) (c : Int) (h : BRow w b R p v xs) (hR : b ≤ R) (hRw : R ≤ w.heap.size) (hl : xs.length ≤ 1000000) :
    Calls Try.prog 62 #[.pointer (some ⟨b, 0, none⟩), .int .u8 c] w fun e w' => e = .returned .nilIface ∧ ∃ v', BRow w' b R (.pointer (some ⟨b, 0, none⟩)) v' (xs ++ [c]) ∧ Kp (fun k => k = b ∨ v.ownBlock = some k) w w' := by
  have H := Aside0.mk h
  clear h
  go_enter Try.func62, Try.ntmps62
  go_wp2_with fail
  with_reducible refine (copyCheck_row _ b R p v xs H.out hR).mono ?_
  rintro e w1 ⟨rfl, h1, hk1⟩
  have H1 := Aside0.mk h1
  have HK1 := Aside0.mk hk1
  obtain ⟨A, k0, rfl⟩ : ∃ A k, v = .slice A xs.length k := by
    obtain ⟨A, k, e, _⟩ := h1.own.rdE (0 : Int)
    exact ⟨A, k, e⟩
  have c1 : w1.cell? ⟨b, 1, none⟩ = some (.slice A xs.length k0) := blk_cell h1.blk 1
  have hL : RdE (Value.int .u8) (0 : Int) (w1.alloc (.cells #[.int .u8 c] 5)) (.slice (some ⟨w1.heap.size, 0, none⟩) 1 1) [c] := lit_rdE (Value.int .u8) 0 w1 5 [c] (by simp)
  have ha := below_alloc (Below.refl w1.heap.size w1) (.cells #[.int .u8 c] 5)
  obtain ⟨v2, w2, hr, ho, hg, _⟩ := app_run (P := Try.prog) (Value.int .u8) (0 : Int) (fun _ => rfl) 37 37 5 (.int .u8 0) 1 Try.underlying37 infoU8b rfl (by omega) (h1.own.below ha) hL (Nat.le_trans (Nat.le_trans hRw hk1.size) ha.size) (by simp; omega)
  obtain ⟨A2, k2, rfl⟩ : ∃ A k, v2 = .slice A (xs.length + 1) k := by
    obtain ⟨A, k, e, _⟩ := ho.rdE (0 : Int)
    rw [List.length_append] at e
    exact ⟨A, k, e⟩
  have HRN := Aside0.mk hr
  have hkk : Kp (fun k => (Value.slice A xs.length k0).ownBlock = some k) w1 w2 := (Kp.of_below ha _).trans (Kp.of_grown hg) (fun k hk => .inl hk)
  have hb2 : w2.heap[b]? = some (.cells #[.pointer (some ⟨b, 0, none⟩), .slice A xs.length k0] 117 (0, 0)) := hkk.blk h1.blk h1.ne
  have c2 : w2.cell? ⟨b, 1, none⟩ = some (.slice A xs.length k0) := blk_cell hb2 1
  have f2 : w2.frozen? ⟨b, 1, none⟩ = false := blk_frozen hb2 1
  have hks := Kp.set w2 ⟨b, 1, none⟩ (.slice A2 (xs.length + 1) k2)
  have hn2 : (Value.slice A2 (xs.length + 1) k2).ownBlock ≠ some b := Own.ne ho hb2 (by decide)
  have HF := Aside0.mk (show BRow (w2.setCell ⟨b, 1, none⟩ (.slice A2 (xs.length + 1) k2)) b R (.pointer (some ⟨b, 0, none⟩)) (.slice A2 (xs.length + 1) k2) (xs ++ [c]) from ⟨by have := blk_set hb2 1 (.slice A2 (xs.length + 1) k2); exact this, .inr rfl, hks.own ho (fun k hk' e => hn2 (by rw [hk', show k = b from e])), hn2⟩)
  have HKF := Aside0.mk (show Kp (fun k => k = b ∨ (Value.slice A xs.length k0).ownBlock = some k) w (w2.setCell ⟨b, 1, none⟩ (.slice A2 (xs.length + 1) k2)) from ((HK1.out.mono (fun k hk => .inl hk)).trans hkk (fun k hk => .inl (.inr hk))).trans hks (fun k hk => .inl (.inl hk)))
  clear h1 hk1 hL ha hr ho hg hkk hb2 hks hn2
  go_wp2_with (first | ((with_reducible refine gate_builtin (b := .append) (xs := #[.tmp 11, .tmp 13]) rfl ?_); at_builtin; refine app_list rfl (.tmp 11) (.tmp 13) rfl rfl rfl HRN.out ?_) | fail)
  go_ret
  exact ⟨rfl, _, HF.out, HKF.out⟩
theorem BRow.string {b R : Nat} {p v : Value} {xs : List Int} {w : World} (h : BRow w b R p v xs) (hR : b ≤ R) (hib : isB xs) (hw : b ≤ w.heap.size) :
    Calls Try.prog 63 #[.pointer (some ⟨b, 0, none⟩)] w fun e w' => e = .returned (.string (strOfNums xs)) ∧ Below b w w' := by
  refine BString_calls b b (strOfNums xs) w ?_ hw
  have ha := h.at_ hR
  have e : Lib.strCells (strOfNums xs) = encs (Value.int .u8) xs := by
    unfold Lib.strCells encs
    rw [show (strOfNums xs).data.toList = xs.map (fun n => UInt8.ofNat n.toNat) from rfl, List.map_map]
    refine List.map_congr_left fun x hx => ?_
    have := hib x hx
    simp
    omega
  unfold BldS
  rw [e]
  rcases h.ptr with rfl | rfl
  · exact .inl ha
  · exact .inr ha
theorem BRow.fresh (w : World) (R : Nat) : BRow (w.alloc (.cells #[.pointer none, .slice none 0 0] 117)) w.heap.size R (.pointer none) (.slice none 0 0) [] := ⟨blk_new w _, .inl rfl, Own.nil _ _ _ _, by simp [Value.ownBlock]⟩
end Go.Proofs.Ytplmdgimodgekaa
