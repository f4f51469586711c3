/- Contracts of le.Writer over this translation: a block that holds a slice of the call's own. -/
import Derived.Test.YtplmdgimodgekaaKp
import Derived.Test.YtplmdgimodgekaaLe
import Derived.Lib.SliceRun
namespace Go.Proofs.Ytplmdgimodgekaa
open Go.RowKit Go.Proofs.YtplmdgimodgekaaW.PrintWords Go.Proofs.YtplmdgimodgekaaW.PrintLast Go.Proofs.YtplmdgimodgekaaW.PrintMore
attribute [local go_sem] max2_int min2_int max_two min_two max_three min_three max_four min_four   -- for this text's walks alone
set_option linter.unusedVariables false
set_option linter.unusedSimpArgs false

/-- Block g is a writer that holds v, the bytes l, a row from block base on. -/
def WrV (W : World) (g base : Nat) (v : Value) (l : List Int) : Prop := W.heap[g]? = some (.cells #[v] 155 (0, 0)) ∧ Own (Value.int .u8) W base 5 v l
/-- What a writer's call does: it holds l' then; else only its row has changed. -/
def WrS (w w' : World) (g base : Nat) (v : Value) (l' : List Int) : Prop :=
  ∃ v', WrV w' g base v' l' ∧ Kp (fun k => k = g ∨ v.ownBlock = some k) w w' ∧ (v'.ownBlock = v.ownBlock ∨ ∃ b, v'.ownBlock = some b ∧ w.heap.size ≤ b)
theorem WrV.ne {W : World} {g base : Nat} {v : Value} {l : List Int} (h : WrV W g base v l) : v.ownBlock ≠ some g := h.2.ne h.1 (by decide)
theorem WrV.below {W W1 : World} {g base : Nat} {v : Value} {l : List Int} (h : WrV W g base v l) (hb : Below W.heap.size W W1) : WrV W1 g base v l := ⟨blk_below h.1 hb, h.2.below hb⟩
theorem WrV.kp {W W1 : World} {g base : Nat} {v : Value} {l : List Int} {S : Nat → Prop} (h : WrV W g base v l) (hk : Kp S W W1) (h1 : ¬ S g) (h2 : ∀ k, v.ownBlock = some k → ¬ S k) : WrV W1 g base v l := ⟨hk.blk h.1 h1, hk.own h.2 h2⟩
theorem WrS.refl {w : World} {g base : Nat} {v : Value} {l : List Int} (h : WrV w g base v l) : WrS w w g base v l := ⟨v, h, Kp.refl _ _, .inl rfl⟩
theorem WrS.trans {w w1 w2 : World} {g base : Nat} {v v1 : Value} {l2 : List Int} (hk : Kp (fun k => k = g ∨ v.ownBlock = some k) w w1) (ha : v1.ownBlock = v.ownBlock ∨ ∃ b, v1.ownBlock = some b ∧ w.heap.size ≤ b) (h2 : WrS w1 w2 g base v1 l2) : WrS w w2 g base v l2 := by
  obtain ⟨v2, hv2, hk2, ha2⟩ := h2
  refine ⟨v2, hv2, hk.trans hk2 (fun k hs => ?_), ?_⟩
  · rcases hs with rfl | hs
    · exact .inl (.inl rfl)
    · rcases ha with ha | ⟨b, ha, hb⟩
      · exact .inl (.inr (ha ▸ hs))
      · rw [ha] at hs; injection hs with hs; exact .inr (by omega)
  · rcases ha2 with ha2 | ⟨b, ha2, hb⟩
    · rw [ha2]; exact ha
    · exact .inr ⟨b, ha2, Nat.le_trans hk.size hb⟩
theorem WrS.below {w w1 w2 : World} {g base : Nat} {v : Value} {l : List Int} (h : WrS w w1 g base v l) (hb : Below w1.heap.size w1 w2) : WrS w w2 g base v l := by
  obtain ⟨v2, hv2, hk2, ha2⟩ := h
  exact ⟨v2, hv2.below hb, hk2.below hb, ha2⟩
/-- The last step of a writer's call: its row is appended to, and stored. -/
theorem WrS.stored {w w3 w4 : World} {g base : Nat} {v v4 : Value} {l l' : List Int} (h : WrV w g base v l) (hb : Below w.heap.size w w3) (hO : Own (Value.int .u8) w4 base 5 v4 l') (hg : w3.grownBy w4 v.ownBlock) (hat : v4.ownBlock = v.ownBlock ∨ ∃ b, v4.ownBlock = some b ∧ w3.heap.size ≤ b) :
    WrS w (w4.setCell ⟨g, 0, none⟩ v4) g base v l' := by
  have h3 := h.below hb
  have h4 : w4.heap[g]? = some (.cells #[v] 155 (0, 0)) := blk_grown h3.1 hg (fun e => h3.ne e.symm)
  have hne : v4.ownBlock ≠ some g := hO.ne h4 (by decide)
  refine ⟨v4, ⟨by simpa using blk_set h4 0 v4, hO.move (fun k hk => Below.heap_setCell w4 _ _ k (fun e => hne (by rw [hk, e])))⟩, ?_, ?_⟩
  · exact ((Kp.of_below hb _).trans (Kp.of_grown hg) (fun k hk => .inl (.inr hk))).trans (Kp.set w4 _ _) (fun k hk => .inl (.inl hk))
  · rcases hat with hat | ⟨b, hat, hle⟩
    · exact .inl hat
    · exact .inr ⟨b, hat, Nat.le_trans hb.size hle⟩
theorem oneU8 : ∀ x : Int, (Value.int .u8 x).oneCell' = true := fun _ => rfl
set_option maxHeartbeats 8000000 in
set_option maxRecDepth 100000 in
theorem Writer_Num_calls (n width : Int) (w : World) (g base : Nat) (v : Value) (l : List Int) (h : WrV w g base v l) (hbase : base ≤ w.heap.size) (hl : l.length ≤ 140737488355000) (h0 : 0 ≤ n) (h1 : n ≤ 18446744073709551615) :
    Calls Try.prog 120 #[.pointer (some ⟨g, 0, none⟩), .int .u64 n, .int .i64 width] w fun e w' => e = .returned (.tuple #[]) ∧ WrS w w' g base v (l ++ leB n (leW width)) := by
  have HH := Aside0.mk h
  have hc := blk_cell0 h.1
  have HL := Aside0.mk hl
  clear h hl
  go_enter Try.func120, Try.ntmps120
  go_wp2_with fail
  refine start_ (n := 12) (S := fun w' => w'.cell? ⟨g, 0, none⟩ = some v) (ds := [11]) #[false, false, false, false, false, false, false, false, false, false, false, false] (by kernel_rfl) rfl rfl (hc) (fun hHeld => ?_)
  refine pure_ (i := 0) (N := some 6) (v := ?_) (a' := ?_) #[true, false, false, false, false, false, false, false, false, false, false, false] rfl rfl (by kernel_rfl) (fun _ _ _ h => h) (Or.inl ⟨by rfl, ?_⟩) ?_ ?_
  rotate_left
  · intro w'
    go_simp
    with_reducible rfl
  rotate_left
  · simp only [Act.put, List.setIfInBounds_toArray, List.set_cons_zero, List.set_cons_succ, i64_w, i32_w]
    rfl
  refine pure_ (i := 1) (N := some 7) (v := ?_) (a' := ?_) #[true, true, false, false, false, false, false, false, false, false, false, false] rfl rfl (by kernel_rfl) (fun _ _ _ h => h) (Or.inl ⟨by rfl, ?_⟩) ?_ ?_
  rotate_left
  · intro w'
    go_simp
    with_reducible rfl
  rotate_left
  · simp only [Act.put, List.setIfInBounds_toArray, List.set_cons_zero, List.set_cons_succ, i64_w, i32_w]
    rfl
  refine pure_ (i := 2) (N := some 8) (v := ?_) (a' := ?_) #[true, true, true, false, false, false, false, false, false, false, false, false] rfl rfl (by kernel_rfl) (fun _ _ _ h => h) (Or.inl ⟨by rfl, ?_⟩) ?_ ?_
  rotate_left
  · intro w'
    go_simp
    with_reducible rfl
  rotate_left
  · simp only [Act.put, List.setIfInBounds_toArray, List.set_cons_zero, List.set_cons_succ, i64_w, i32_w]
    rfl
  refine pure_ (i := 3) (N := some 9) (v := ?_) (a' := ?_) #[true, true, true, true, false, false, false, false, false, false, false, false] rfl rfl (by kernel_rfl) (fun _ _ _ h => h) (Or.inl ⟨by rfl, ?_⟩) ?_ ?_
  rotate_left
  · intro w'
    go_simp
    with_reducible rfl
  rotate_left
  · simp only [Act.put, List.setIfInBounds_toArray, List.set_cons_zero, List.set_cons_succ, i64_w, i32_w]
    rfl
  refine pure_ (i := 5) (N := some 11) (v := ?_) (a' := ?_) #[true, true, true, true, false, true, false, false, false, false, false, false] rfl rfl (by kernel_rfl) (fun _ _ _ h => h) (Or.inl ⟨by rfl, ?_⟩) ?_ ?_
  rotate_left
  · intro w'
    go_simp
    with_reducible rfl
  rotate_left
  · simp only [Act.put, List.setIfInBounds_toArray, List.set_cons_zero, List.set_cons_succ, i64_w, i32_w]
    rfl
  refine pure_ (i := 6) (N := some 12) (v := ?_) (a' := ?_) #[true, true, true, true, false, true, true, false, false, false, false, false] rfl rfl (by kernel_rfl) (fun _ _ _ h => h) (Or.inl ⟨by rfl, ?_⟩) ?_ ?_
  rotate_left
  · intro w'
    go_simp
    with_reducible rfl
  rotate_left
  · simp only [Act.put, List.setIfInBounds_toArray, List.set_cons_zero, List.set_cons_succ, i64_w, i32_w]
    rfl
  refine take_ (i := 4) (N := some 10) (v := ?_) (a' := ?_) #[true, true, true, true, true, true, true, false, false, false, false, false] rfl rfl (by kernel_rfl) (fun _ _ _ h => h) (Or.inl ⟨by rfl, ?_⟩) hHeld ?_ ?_
  rotate_left
  · intro w' s0
    go_simp
    with_reducible rfl
  rotate_left
  · simp only [Act.put, List.setIfInBounds_toArray, List.set_cons_zero, List.set_cons_succ, i64_w, i32_w]
    rfl
  refine one_ (i := 7) (N := some 13) #[true, true, true, true, true, true, true, true, false, false, false, false] rfl rfl (by kernel_rfl) (by decide) (fun K hK => ?_)
  refine goes_ Try.func142 (by kernel_rfl) rfl #[.int .u64 n, .int .i64 width] (by rfl) rfl rfl (by (try simp only [List.map_toArray, List.map_cons, List.map_nil]); first | done | rfl) ?_
  with_reducible refine (le_Bytes_calls n width _ h0 h1).mono ?_
  rintro e w3 ⟨v3, rfl, hR3, hb3⟩
  refine ⟨_, rfl, ?_⟩
  have h3 := HH.out.below (below_step (below_drew (Below.refl _ _)) hb3)
  have hc3 := blk_cell0 h3.1
  obtain ⟨v4, w4, hrun4, hO4, hg4, hat4⟩ := app_run (P := Try.prog) (Value.int .u8) (0 : Int) oneU8 37 37 5 (.int .u8 0) 1 Try.underlying37 infoU8 rfl (by omega) h3.2 (Own.rdE (Own.of_R hR3) 0) (Nat.le_trans hbase (below_step (below_drew (Below.refl _ _)) hb3).size) (by have := HL.out; rw [leB_len]; unfold leW; omega)
  obtain ⟨A4, c4, e4⟩ := own_slice hO4
  subst e4
  have h4 : w4.heap[g]? = some (.cells #[v] 155 (0, 0)) := blk_grown h3.1 hg4 (fun e => h3.ne e.symm)
  have hc4 := blk_cell0 h4
  have hf4 := blk_frozen h4 0
  have HF := Aside0.mk (WrS.stored HH.out (below_step (below_drew (Below.refl _ _)) hb3) hO4 hg4 hat4)
  clear h3 h4 hO4 hg4 hat4 hR3
  have HR4 := Aside0.mk hrun4
  clear hrun4
  refine hK.out _ _ (hc3) (fun hHeld => ?_)
  clear hK K
  refine norm_ (a' := ?_) ?_ ?_
  rotate_left
  · show Act.put _ (some 13) _ = _
    simp only [Act.put, List.setIfInBounds_toArray, List.set_cons_zero, List.set_cons_succ, i64_w, i32_w]
    rfl
  refine one_ (i := 8) (N := some 14) #[true, true, true, true, true, true, true, true, true, false, false, false] rfl rfl (by kernel_rfl) (by decide) (fun K hK => ?_)
  refine app_step (by rfl) (.tmp 10) (.tmp 13) rfl rfl rfl HR4.out ?_
  refine hK.out _ _ (hc4) (fun hHeld => ?_)
  clear hK K
  refine norm_ (a' := ?_) ?_ ?_
  rotate_left
  · show Act.put _ (some 14) _ = _
    simp only [Act.put, List.setIfInBounds_toArray, List.set_cons_zero, List.set_cons_succ, i64_w, i32_w]
    rfl
  refine pure_ (i := 9) (N := some 15) (v := ?_) (a' := ?_) #[true, true, true, true, true, true, true, true, true, true, false, false] rfl rfl (by kernel_rfl) (fun _ _ _ h => h) (Or.inl ⟨by rfl, ?_⟩) ?_ ?_
  rotate_left
  · intro w'
    go_simp
    with_reducible rfl
  rotate_left
  · simp only [Act.put, List.setIfInBounds_toArray, List.set_cons_zero, List.set_cons_succ, i64_w, i32_w]
    rfl
  refine pure_ (i := 10) (N := some 16) (v := ?_) (a' := ?_) #[true, true, true, true, true, true, true, true, true, true, true, false] rfl rfl (by kernel_rfl) (fun _ _ _ h => h) (Or.inl ⟨by rfl, ?_⟩) ?_ ?_
  rotate_left
  · intro w'
    go_simp
    with_reducible rfl
  rotate_left
  · simp only [Act.put, List.setIfInBounds_toArray, List.set_cons_zero, List.set_cons_succ, i64_w, i32_w]
    rfl
  refine last_ (i := 11) (N := none) #[true, true, true, true, true, true, true, true, true, true, true, true] rfl rfl (by kernel_rfl) (by decide) (fun K hK => ?_)
  refine skip_ (w1 := ?_) (by rfl) rfl ?_ ?_
  rotate_left
  · go_simp
    rfl
  refine hK.out _ _ ?_
  clear hK K
  refine done_ (by kernel_rfl) ?_
  go_wp2_with fail
  go_end0
  exact ⟨rfl, by rw [← List.length_append]; exact HF.out⟩
theorem app8 {W : World} {base : Nat} {v u : Value} {xs ys : List Int} (HO : Own (Value.int .u8) W base 5 v xs) (HR : Rd W .u8 u ys) (hbase : base ≤ W.heap.size) (hl : xs.length + ys.length ≤ 140737488355328) :
    ∃ A1 c1 w1, (Builtin.append_ #[37, 37] 37 #[v, u]).run Try.prog W = .ok (.slice A1 (xs ++ ys).length c1) w1 ∧ Own (Value.int .u8) w1 base 5 (.slice A1 (xs ++ ys).length c1) (xs ++ ys) ∧ W.grownBy w1 v.ownBlock ∧ ((Value.slice A1 (xs ++ ys).length c1).ownBlock = v.ownBlock ∨ ∃ b, (Value.slice A1 (xs ++ ys).length c1).ownBlock = some b ∧ W.heap.size ≤ b) := by
  obtain ⟨v1, w1, hr, hO, hg, hat⟩ := app_run (P := Try.prog) (Value.int .u8) (0 : Int) oneU8 37 37 5 (.int .u8 0) 1 Try.underlying37 infoU8 rfl (by omega) HO HR hbase (by omega)
  obtain ⟨A1, c1, rfl⟩ := own_slice hO
  exact ⟨A1, c1, w1, hr, hO, hg, hat⟩
set_option maxHeartbeats 8000000 in
set_option maxRecDepth 100000 in
theorem Writer_Raw_calls (u : Value) (m : List Int) (w : World) (g base : Nat) (v : Value) (l : List Int) (h : WrV w g base v l) (hr : Rd w .u8 u m) (hbase : base ≤ w.heap.size) (hl : l.length + m.length ≤ 140737488355328) :
    Calls Try.prog 91 #[.pointer (some ⟨g, 0, none⟩), u] w fun e w' => e = .returned (.tuple #[]) ∧ WrS w w' g base v (l ++ m) := by
  have hc := blk_cell0 h.1
  obtain ⟨A4, c4, w4, hrun4, hO4, hg4, hat4⟩ := app8 h.2 hr hbase hl
  have h4 : w4.heap[g]? = some (.cells #[v] 155 (0, 0)) := blk_grown h.1 hg4 (fun e => h.ne e.symm)
  have hc4 := blk_cell0 h4
  have hf4 := blk_frozen h4 0
  have HF := Aside0.mk (WrS.stored h (Below.refl _ _) hO4 hg4 hat4)
  have HR4 := Aside0.mk hrun4
  obtain ⟨n, hn⟩ : ∃ n, (l ++ m).length = n := ⟨_, rfl⟩
  rw [hn] at HF HR4
  clear h hr h4 hO4 hg4 hat4 hrun4 hl hn
  go_enter Try.func91, Try.ntmps91
  go_wp2_with (first | ((with_reducible refine gate_builtin (b := .append) (xs := #[.tmp 8, .tmp 9]) rfl ?_); at_builtin; refine app_list rfl (.tmp 8) (.tmp 9) rfl rfl rfl HR4.out ?_))
  go_end0
  exact ⟨rfl, HF.out⟩
theorem WrV.len {W : World} {g base : Nat} {v : Value} {l : List Int} (h : WrV W g base v l) : ∃ A c, v = .slice A l.length c := own_slice h.2
set_option maxHeartbeats 8000000 in
set_option maxRecDepth 100000 in
theorem Clone8_calls (u : Value) (m : List Int) (w : World) (hr : Rd w .u8 u m) (hl : m.length ≤ 140737488355328) :
    Calls Try.prog 121 #[u] w fun e w' => ∃ v, e = .returned v ∧ Own (Value.int .u8) w' w.heap.size 5 v m ∧ Below w.heap.size w w' := by
  obtain ⟨A, c, rfl, hc, hr⟩ := hr
  have he := Lib.run_eql_slice_nil (P := Try.prog) w 37 5 A m.length c 0 0 Try.underlying37
  cases A with
  | none =>
    have hm : m = [] := by
      rcases Nat.eq_zero_or_pos m.length with h0 | h0
      · exact List.eq_nil_of_length_eq_zero h0
      · obtain ⟨ad, h, _⟩ := hr.2.2 h0; cases h
    have HM := Aside0.mk hm
    clear hr hm
    go_enter Try.func121, Try.ntmps121
    go_wp2
    go_ret
    exact ⟨_, rfl, by rw [HM.out]; exact Own.nil _ _ _ _, Below.refl _ _⟩
  | some ad =>
    have hO0 : Own (Value.int .u8) (w.alloc (.cells #[] 5)) w.heap.size 5 (.slice (some ⟨w.heap.size, 0, none⟩) 0 0) [] := own_lit w w.heap.size 5 .u8 [] (Nat.le_refl _) (by simp)
    have hR0 : Rd (w.alloc (.cells #[] 5)) .u8 (.slice (some ad) m.length c) m := Rd.below ⟨_, _, rfl, hc, hr⟩ (below_alloc (Below.refl _ _) _)
    obtain ⟨A4, c4, w4, hrun4, hO4, hg4, hat4⟩ := app8 hO0 hR0 (by simp) (by simpa using hl)
    have HB := Aside0.mk (Kp.to_below ((Kp.of_below (below_alloc (Below.refl w.heap.size w) (.cells #[] 5)) (fun k => k = w.heap.size)).trans (Kp.of_grown hg4) (fun k hk => by simp [Value.ownBlock] at hk; exact .inl hk.symm)) (fun k hk => by omega))
    have HO := Aside0.mk hO4
    have HR4 := Aside0.mk hrun4
    clear hO0 hR0 hrun4 hO4 hg4 hat4 hr hl
    simp only [List.nil_append] at HR4 HO
    go_enter Try.func121, Try.ntmps121
    go_wp2_with (first | ((with_reducible refine gate_builtin (b := .append) (xs := #[.tmp 5, .tmp 6]) rfl ?_); at_builtin; refine app_list rfl (.tmp 5) (.tmp 6) rfl rfl rfl HR4.out ?_))
    go_ret
    exact ⟨_, rfl, HO.out, HB.out⟩
set_option maxHeartbeats 8000000 in
set_option maxRecDepth 100000 in
theorem Writer_Done_calls (w : World) (g base : Nat) (v : Value) (l : List Int) (h : WrV w g base v l) (hl : l.length ≤ 140737488355328) :
    Calls Try.prog 92 #[.pointer (some ⟨g, 0, none⟩)] w fun e w' => ∃ v, e = .returned v ∧ Own (Value.int .u8) w' w.heap.size 5 v l ∧ Below w.heap.size w w' := by
  have hc := blk_cell0 h.1
  have HR := Aside0.mk (Own.rd h.2)
  clear h
  go_enter Try.func92, Try.ntmps92
  go_wp2_with fail
  refine (Clone8_calls v l _ HR.out hl).mono ?_
  rintro e w1 ⟨v1, rfl, hO, hb⟩
  have HO := Aside0.mk hO
  have HB := Aside0.mk hb
  clear hO hb
  go_wp2_with fail
  go_ret
  exact ⟨_, rfl, HO.out, HB.out⟩
/-- The bytes of numbers of eight bytes. -/
def words8 : List Int → List Int
  | [] => []
  | n :: r => leB n 8 ++ words8 r
theorem words8_len : ∀ l, (words8 l).length = 8 * l.length
  | [] => rfl
  | n :: r => by simp [words8, leB_len, words8_len r]; omega
theorem words8_snoc : ∀ (l : List Int) (n : Int), words8 (l ++ [n]) = words8 l ++ leB n 8
  | [], n => by simp [words8]
  | a :: l, n => by simp [words8, words8_snoc l n]
def isW (l : List Int) : Prop := ∀ x ∈ l, 0 ≤ x ∧ x ≤ 18446744073709551615
theorem isW.getD {l : List Int} (h : isW l) (i : Nat) : 0 ≤ l.getD i 0 ∧ l.getD i 0 ≤ 18446744073709551615 := by
  rw [List.getD_eq_getElem?_getD]
  cases e : l[i]? with
  | none => simp
  | some x => exact h x (List.mem_of_getElem? e)
set_option maxHeartbeats 8000000 in
set_option maxRecDepth 100000 in
theorem Writer_Words_calls (u : Value) (m : List Int) (hw : isW m) (w : World) (g base : Nat) (v : Value) (l : List Int) (h : WrV w g base v l) (hr : Rd w .u64 u m) (hfar : ∀ (A : Addr) n c, u = .slice (some A) n c → 0 < m.length → A.block ≠ g ∧ v.ownBlock ≠ some A.block) (hbase : base ≤ w.heap.size) (hl : l.length + 8 * m.length ≤ 140737488355000) :
    Calls Try.prog 90 #[.pointer (some ⟨g, 0, none⟩), u] w fun e w' => e = .returned (.tuple #[]) ∧ WrS w w' g base v (l ++ words8 m) := by
  have HH := Aside0.mk h
  have HU := Aside0.mk hr
  obtain ⟨A, c, rfl, hc, hr⟩ := hr
  have hm : m.length ≤ 9223372036854775807 := hr.2.1
  have HR := Aside0.mk hr
  have HW := Aside0.mk hw
  have HFAR := Aside0.mk hfar
  have HLL := Aside0.mk hl
  clear h hr hw hfar hl
  go_enter Try.func90, Try.ntmps90
  go_wp2
  go_loopw [5, 8] (fun v5 v8 w' => ∃ k : Nat, k ≤ m.length ∧ v8 = .int .i64 k ∧ Aside0 (WrS w w' g base v (l ++ words8 (m.take k)))) (fun _ v8 _ => m.length - (intOf v8).toNat)
  case atStart => exact ⟨0, by omega, rfl, ⟨by simpa [words8] using WrS.refl HH.out⟩⟩
  case round =>
    obtain ⟨k, hk, rfl, HS⟩ := hrel
    by_cases c1 : k < m.length
    · obtain ⟨v1, hv1, hk1, ha1⟩ := HS.out
      obtain ⟨ad, e, hcell⟩ := rd_at HR.out k c1
      obtain ⟨n, hn⟩ : ∃ n, m.getD k 0 = n := ⟨_, rfl⟩
      rw [hn] at hcell
      have hn0 := HW.out.getD k
      rw [hn] at hn0
      have hcell2 : wr.cell? (ad.add k) = some (.int .u64 n) := by
        have hf := HFAR.out ad _ _ (by rw [e]) (by omega)
        have := hk1.block ad.block (by have := World.block_lt_of_cell? w _ hcell; rwa [add_block] at this) (fun hh => hh.elim hf.1 hf.2)
        simp only [World.cell?, add_block] at hcell ⊢
        rw [this]; exact hcell
      have HN := Aside0.mk (show words8 (m.take (k + 1)) = words8 (m.take k) ++ leB n 8 by rw [take_snoc c1, hn, words8_snoc])
      have HLN := Aside0.mk (show (l ++ words8 (m.take k)).length ≤ 140737488355000 by have := HLL.out; rw [List.length_append, words8_len, List.length_take]; omega)
      clear hn hcell
      have HV1 := Aside0.mk hv1
      have HK1 := Aside0.mk hk1
      have HA1 := Aside0.mk ha1
      clear hv1 hk1 ha1
      cases e
      go_wp2_with fail
      refine (Writer_Num_calls n 8 _ g base v1 _ HV1.out (Nat.le_trans hbase HK1.out.size) HLN.out hn0.1 hn0.2).mono ?_
      rintro e w2 ⟨rfl, hs2⟩
      have HS2 := Aside0.mk (WrS.trans HK1.out HA1.out hs2)
      clear hs2
      go_wp2_with fail
      go_roundw
      case rel => exact ⟨k + 1, by omega, by go_num, ⟨by rw [HN.out, ← List.append_assoc]; exact HS2.out⟩⟩
      case measure => simp [intOf]; omega
    · have HJ := Aside0.mk (show m.take k = m from List.take_of_length_le (by omega))
      go_wp2
      go_end0
      exact ⟨rfl, by have := HS.out; rwa [HJ.out] at this⟩
/-- How many noughts fill up to the next multiple. -/
def padN (n q : Int) : Nat := if 0 < q then ((q - n % q) % q).toNat else 0
theorem padN_test (n q : Int) (hn : 0 ≤ n) (ht : 0 < q) (k : Nat) (hk : k ≤ padN n q) : (n + k) % q = 0 ↔ k = padN n q := by
  unfold padN at *
  rw [if_pos ht] at *
  have r0 := Int.emod_nonneg n (Int.ne_of_gt ht)
  have r1 := Int.emod_lt_of_pos n ht
  rw [show (n + k) % q = (n % q + k) % q from (Int.emod_add_emod n q k).symm]
  generalize n % q = r at *
  by_cases h : r = 0
  · subst h
    rw [Int.sub_zero, Int.emod_self] at hk ⊢
    have : k = 0 := by simpa using hk
    subst this
    simp
  · have e : (q - r) % q = q - r := Int.emod_eq_of_lt (by omega) (by omega)
    rw [e] at hk ⊢
    by_cases hlt : r + k < q
    · rw [Int.emod_eq_of_lt (by omega) hlt]; omega
    · have : r + k = q := by omega
      rw [this, Int.emod_self]; omega
theorem padN_le (n q : Int) : (padN n q : Int) ≤ max q 0 := by
  unfold padN
  split
  · rename_i h
    have := Int.emod_lt_of_pos (q - n % q) h
    have := Int.emod_nonneg (q - n % q) (Int.ne_of_gt h)
    omega
  · omega
theorem words8_isB : ∀ l, isB (words8 l)
  | [] => fun x hx => by simp [words8] at hx
  | n :: r => (leB_isB n 8).app (words8_isB r)
theorem Rd.reads {w w1 : World} {k : IntKind} {A : Option Addr} {c : Nat} {xs : List Int} (h : Rd w k (.slice A xs.length c) xs) (hb : Below w.heap.size w w1) : ReadsInt w1 k A xs.length xs := by
  obtain ⟨A2, c2, e, _, hr⟩ := h
  simp only [Value.slice.injEq] at e
  obtain ⟨rfl, _, _⟩ := e
  exact hr.below hb
theorem rd_old {w : World} {k : IntKind} {u : Value} {xs : List Int} (h : Rd w k u xs) {A : Addr} {n c : Nat} (e : u = .slice (some A) n c) (hpos : 0 < xs.length) : A.block < w.heap.size := by
  obtain ⟨A2, c2, e2, _, hr⟩ := h
  rw [e] at e2
  simp only [Value.slice.injEq] at e2
  obtain ⟨rfl, _, _⟩ := e2
  obtain ⟨ad, e3, hc⟩ := hr.2.2 hpos
  simp only [Option.some.injEq] at e3
  subst e3
  have := World.block_lt_of_cell? w _ (hc 0 hpos)
  rwa [add_block] at this
end Go.Proofs.Ytplmdgimodgekaa
