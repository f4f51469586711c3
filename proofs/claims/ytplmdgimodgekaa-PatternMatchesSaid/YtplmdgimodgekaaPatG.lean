/- Patterns: match, Is. -/
import Derived.Test.YtplmdgimodgekaaPatF
namespace Go.Proofs.Ytplmdgimodgekaa
open Go.RowKit Go.Proofs.YtplmdgimodgekaaW.PrintWords Go.Proofs.YtplmdgimodgekaaW.PrintLast Go.Proofs.YtplmdgimodgekaaW.PrintMore
attribute [local go_sem] max2_int min2_int max_two min_two max_three min_three max_four min_four   -- for this text's walks alone
set_option linter.unusedVariables false
set_option linter.unusedSimpArgs false

def Pt.ok (p : Pt) : Prop := (0 ≤ p.c ∧ p.c ≤ 255) ∧ p.kind ≤ 3
/-- How much is left to try. -/
def meN (S K frm at_ i : Nat) : Nat := (S + 1 - frm) * (S + K + 1) + (S - at_) + (K - i)
theorem me_star {S K frm at_ i : Nat} (h1 : i < K) (h2 : frm ≤ at_) : meN S K at_ at_ (i + 1) < meN S K frm at_ i := by
  have := Nat.mul_le_mul_right (S + K + 1) (show S + 1 - at_ ≤ S + 1 - frm by omega)
  unfold meN; omega
theorem me_one {S K frm at_ i : Nat} (h1 : i < K) (h2 : at_ < S) : meN S K frm (at_ + 1) (i + 1) < meN S K frm at_ i := by
  unfold meN; omega
theorem me_back {S K frm at_ i b : Nat} (h1 : frm ≤ at_) (h2 : at_ < S) : meN S K (frm + 1) (frm + 1) b < meN S K frm at_ i := by
  have e : (S + 1 - frm) * (S + K + 1) = (S + 1 - (frm + 1)) * (S + K + 1) + (S + K + 1) := by rw [show S + 1 - frm = (S + 1 - (frm + 1)) + 1 by omega, Nat.succ_mul]
  unfold meN; omega
set_option maxHeartbeats 8000000 in
set_option maxRecDepth 100000 in
theorem pMatch_calls (w : World) (g : Nat) (vc v : Value) (l : List Pt) (s : List Int) (fold : Bool) (hp : PaV w g vc fold) (hr : KRd ptL 7 w v l) (hok : ∀ p ∈ l, p.ok) (hib : isB s) (hs : s.length ≤ 100000) (hl : l.length ≤ 100000) :
    Calls Try.prog 59 #[.pointer (some ⟨g, 0, none⟩), v, .string (strOfNums s)] w fun e w' => e = .returned (.bool (mtB fold l s)) ∧ Below w.heap.size w w' := by
  obtain ⟨S, hS⟩ : ∃ S, s.length = S := ⟨_, rfl⟩
  obtain ⟨K, hK⟩ : ∃ K, l.length = K := ⟨_, rfl⟩
  have HP := Aside0.mk hp
  have HR := Aside0.mk hr
  have HOK := Aside0.mk hok
  have HIB := Aside0.mk hib
  have HS := Aside0.mk hS
  have HK := Aside0.mk hK
  obtain ⟨A, c0, rfl, hc0, _⟩ := hr
  have hsz : (strOfNums s).size = S := by rw [strOf_size]; exact hS
  rw [hK] at hl hc0 HR ⊢
  rw [hS] at hs
  obtain ⟨RES, hRES⟩ : ∃ R, mtB fold l s = R := ⟨_, rfl⟩
  have HRES := Aside0.mk hRES
  rw [hRES]
  clear hp hok hib hS hK hRES
  go_enter Try.func59, Try.ntmps59
  go_upto_block 0 with (fail)
  go_cut [7] (fun v7 wx => ∃ i : Nat, v7 = .int .i64 (i : Int) ∧ i ≤ K ∧ Aside0 (RES = mtB fold (l.drop i) []) ∧ Aside0 (Below w.heap.size w wx))
  case first =>
    go_wp2_with fail
    go_loopg [7, 8, 9, 10] (meN S K 0 0 0 + 1) (fun kq v7 v8 v9 v10 w' => ∃ (i at_ frm b : Nat) (star : Int), v7 = .int .i64 (i : Int) ∧ v8 = .int .i64 (at_ : Int) ∧ v9 = .int .i64 star ∧ v10 = .int .i64 (frm : Int) ∧ Aside0 (Gr fold l s i at_ star frm b) ∧ Aside0 (meN S K frm at_ i < kq) ∧ Aside0 (Below w.heap.size w w'))
    case atStart => exact ⟨0, 0, 0, 0, -1, rfl, rfl, rfl, rfl, Aside0.mk (Gr.start _ _ _), Aside0.mk (Nat.lt_succ_self _), Aside0.mk (Below.refl _ _)⟩
    case round =>
      obtain ⟨i, at_, frm, b, star, rfl, rfl, rfl, rfl, HG, HM, HB⟩ := hrel
      obtain ⟨hi1, hi2⟩ := HG.out.hi
      obtain ⟨ha1, ha2⟩ := HG.out.ha
      have hn := HG.out.hn
      rw [HK.out] at hi2
      rw [HS.out] at ha2
      by_cases c1 : at_ < S
      · have g1 : decide ((at_ : Int) < (S : Int)) = true := decide_eq_true (by omega)
        have g1' : decide (at_ < S) = true := decide_eq_true c1
        by_cases c2 : i < K
        · have g2 : decide ((i : Int) < (K : Int)) = true := decide_eq_true (by omega)
          have g2' : decide (i < K) = true := decide_eq_true c2
          have hil : i < l.length := by rw [HK.out]; exact c2
          obtain ⟨b9, o9, rfl, hb9, hrr⟩ := HR.out.get (by omega)
          obtain ⟨p, hpi⟩ : ∃ p, l[i] = p := ⟨_, rfl⟩
          have HPI := Aside0.mk (show l[i]? = some p by rw [List.getElem?_eq_getElem hil, hpi])
          have HPO := Aside0.mk (HOK.out p (by rw [← hpi]; exact List.getElem_mem hil))
          have HRR := Aside0.mk (range_below (hrr i hil) HB.out)
          rw [hpi] at HRR
          clear hrr hpi
          have yy : wr.cell? ⟨b9, o9 + i * 7, none⟩ = some (.int .i64 (p.kind : Int)) := HRR.out 0 _ rfl
          have hix := fun (W : World) => str_at s HIB.out at_ (at_ : Int) rfl (by rw [HS.out]; exact c1) W
          obtain ⟨c, hc⟩ : ∃ c, s.getD at_ 0 = c := ⟨_, rfl⟩
          have HC := Aside0.mk hc
          have HCB := Aside0.mk (show 0 ≤ c ∧ c ≤ 255 by rw [← hc]; exact HIB.out.getD _)
          rw [hc] at hix
          clear hc
          obtain ⟨kd, hkd⟩ : ∃ k, p.kind = k := ⟨_, rfl⟩
          have HKD := Aside0.mk hkd
          rw [hkd] at yy
          have wi : IntKind.i64.wrap ((i : Int) + 1) = (i : Int) + 1 := by rw [IntKind.wrap_i64]; omega
          have wa : IntKind.i64.wrap ((at_ : Int) + 1) = (at_ : Int) + 1 := by rw [IntKind.wrap_i64]; omega
          clear hkd
          by_cases c3 : kd = 2
          · have g3 : ((kd : Int) == 2) = true := by simp; omega
            have g3' : (kd == 2) = true := by simpa using c3
            have HK2 := Aside0.mk (show p.kind = 2 by rw [HKD.out]; exact c3)
            clear c3
            go_wp2_with fail
            go_roundg (meN S K frm at_ i)
            case measure => exact HM.out
            case rel => exact ⟨i + 1, at_, at_, i + 1, (i : Int), by go_num, rfl, rfl, rfl, Aside0.mk (HG.out.many HPI.out HK2.out), Aside0.mk (me_star c2 ha1), HB⟩
          · have g3 : ((kd : Int) == 2) = false := by simp; omega
            have g3' : (kd == 2) = false := by simpa using c3
            have HK2 := Aside0.mk (show p.kind ≠ 2 by rw [HKD.out]; exact c3)
            have HIS := Aside0.mk (fun (W : World) => show Calls Try.prog 100 #[.agg (ptL p).toArray, .int .u8 c, .bool fold] W fun e w' => e = .returned (.bool (isP p c fold)) ∧ Below W.heap.size W w' from by rw [ptL, Array.toArray_toList]; exact pIs_calls p c fold W HCB.out HPO.out.1 HPO.out.2)
            obtain ⟨bb, hbb⟩ : ∃ bb, isP p c fold = bb := ⟨_, rfl⟩
            have HBB := Aside0.mk hbb
            rw [hbb] at HIS
            have HSL := Aside0.mk (show (Try.prog.info? 100).map (·.size) = some (ptL p).length by rw [ptL_len]; exact info7)
            obtain ⟨X, hX⟩ : ∃ X, ptL p = X := ⟨_, rfl⟩
            rw [hX] at HIS HSL HRR
            clear c3 hbb hX
            have zf : wr.cell? ⟨g, 1, none⟩ = some (.bool fold) := blk_cell (blk_below HP.out HB.out) 1
            have hRR := HRR.out
            go_upto_region 7 with fail
            clear yy g3 g3'
            go_cut [32] (fun v32 wx => v32 = .bool bb ∧ Aside0 (Below w.heap.size w wx))
            case first =>
              refine start_ (n := 19) (S := fun w' => w'.rangeAt b9 (o9 + i * 7) X ∧ w'.cell? ⟨g, 1, none⟩ = some (.bool fold)) (ds := []) #[false, false, false, false, false, false, false, false, false, false, false, false, false, false, false, false, false, false, false] (by kernel_rfl) rfl rfl ⟨hRR, zf⟩ (fun hHeld => ?_)
              refine pure_ (i := 0) (N := some 33) (v := ?_) (a' := ?_) #[true, false, false, false, false, false, false, false, false, false, false, false, false, false, false, false, false, false, false] rfl rfl (by kernel_rfl) (fun _ _ _ h => h) (Or.inl ⟨by rfl, ?_⟩) ?_ ?_
              rotate_left
              · intro w'
                go_simp
                with_reducible rfl
              rotate_left
              · simp only [Act.put, List.setIfInBounds_toArray, List.set_cons_zero, List.set_cons_succ, i64_w, i32_w]
                rfl
              refine pure_ (i := 1) (N := some 34) (v := ?_) (a' := ?_) #[true, true, false, false, false, false, false, false, false, false, false, false, false, false, false, false, false, false, false] rfl rfl (by kernel_rfl) (fun _ _ _ h => h) (Or.inl ⟨by rfl, ?_⟩) ?_ ?_
              rotate_left
              · intro w'
                go_simp
                with_reducible rfl
              rotate_left
              · simp only [Act.put, List.setIfInBounds_toArray, List.set_cons_zero, List.set_cons_succ, i64_w, i32_w]
                rfl
              refine pure_ (i := 2) (N := some 35) (v := ?_) (a' := ?_) #[true, true, true, false, false, false, false, false, false, false, false, false, false, false, false, false, false, false, false] rfl rfl (by kernel_rfl) (fun _ _ _ h => h) (Or.inl ⟨by rfl, ?_⟩) ?_ ?_
              rotate_left
              · intro w'
                go_simp
                with_reducible rfl
              rotate_left
              · simp only [Act.put, List.setIfInBounds_toArray, List.set_cons_zero, List.set_cons_succ, i64_w, i32_w]
                rfl
              refine pure_ (i := 3) (N := some 36) (v := ?_) (a' := ?_) #[true, true, true, true, false, false, false, false, false, false, false, false, false, false, false, false, false, false, false] rfl rfl (by kernel_rfl) (fun _ _ _ h => h) (Or.inl ⟨by rfl, ?_⟩) ?_ ?_
              rotate_left
              · intro w'
                go_simp
                with_reducible rfl
              rotate_left
              · simp only [Act.put, List.setIfInBounds_toArray, List.set_cons_zero, List.set_cons_succ, i64_w, i32_w]
                rfl
              refine pure_ (i := 4) (N := some 37) (v := ?_) (a' := ?_) #[true, true, true, true, true, false, false, false, false, false, false, false, false, false, false, false, false, false, false] rfl rfl (by kernel_rfl) (fun _ _ _ h => h) (Or.inl ⟨by rfl, ?_⟩) ?_ ?_
              rotate_left
              · intro w'
                go_simp
                with_reducible rfl
              rotate_left
              · simp only [Act.put, List.setIfInBounds_toArray, List.set_cons_zero, List.set_cons_succ, i64_w, i32_w]
                rfl
              refine pure_ (i := 5) (N := some 38) (v := ?_) (a' := ?_) #[true, true, true, true, true, true, false, false, false, false, false, false, false, false, false, false, false, false, false] rfl rfl (by kernel_rfl) (fun _ _ _ h => h) (Or.inl ⟨by rfl, ?_⟩) ?_ ?_
              rotate_left
              · intro w'
                go_simp
                with_reducible rfl
              rotate_left
              · simp only [Act.put, List.setIfInBounds_toArray, List.set_cons_zero, List.set_cons_succ, i64_w, i32_w]
                rfl
              refine pure_ (i := 6) (N := some 39) (v := ?_) (a' := ?_) #[true, true, true, true, true, true, true, false, false, false, false, false, false, false, false, false, false, false, false] rfl rfl (by kernel_rfl) (fun _ _ _ h => h) (Or.inl ⟨by rfl, ?_⟩) ?_ ?_
              rotate_left
              · intro w'
                go_simp
                with_reducible rfl
              rotate_left
              · simp only [Act.put, List.setIfInBounds_toArray, List.set_cons_zero, List.set_cons_succ, i64_w, i32_w]
                rfl
              refine pure_ (i := 7) (N := some 40) (v := ?_) (a' := ?_) #[true, true, true, true, true, true, true, true, false, false, false, false, false, false, false, false, false, false, false] rfl rfl (by kernel_rfl) (fun _ _ _ h => h) (Or.inl ⟨by rfl, ?_⟩) ?_ ?_
              rotate_left
              · intro w'
                go_simp
                with_reducible rfl
              rotate_left
              · simp only [Act.put, List.setIfInBounds_toArray, List.set_cons_zero, List.set_cons_succ, i64_w, i32_w]
                rfl
              refine pure_ (i := 9) (N := some 42) (v := ?_) (a' := ?_) #[true, true, true, true, true, true, true, true, false, true, false, false, false, false, false, false, false, false, false] rfl rfl (by kernel_rfl) (fun _ _ _ h => h) (Or.inl ⟨by rfl, ?_⟩) ?_ ?_
              rotate_left
              · intro w'
                go_simp
                with_reducible rfl
              rotate_left
              · simp only [Act.put, List.setIfInBounds_toArray, List.set_cons_zero, List.set_cons_succ, i64_w, i32_w]
                rfl
              refine pure_ (i := 10) (N := some 43) (v := ?_) (a' := ?_) #[true, true, true, true, true, true, true, true, false, true, true, false, false, false, false, false, false, false, false] rfl rfl (by kernel_rfl) (fun _ _ _ h => h) (Or.inl ⟨by rfl, ?_⟩) ?_ ?_
              rotate_left
              · intro w'
                go_simp
                with_reducible rfl
              rotate_left
              · simp only [Act.put, List.setIfInBounds_toArray, List.set_cons_zero, List.set_cons_succ, i64_w, i32_w]
                rfl
              refine pure_ (i := 12) (N := some 45) (v := ?_) (a' := ?_) #[true, true, true, true, true, true, true, true, false, true, true, false, true, false, false, false, false, false, false] rfl rfl (by kernel_rfl) (fun _ _ _ h => h) (Or.inl ⟨by rfl, ?_⟩) ?_ ?_
              rotate_left
              · intro w'
                go_simp
                with_reducible rfl
              rotate_left
              · simp only [Act.put, List.setIfInBounds_toArray, List.set_cons_zero, List.set_cons_succ, i64_w, i32_w]
                rfl
              refine pure_ (i := 13) (N := some 46) (v := ?_) (a' := ?_) #[true, true, true, true, true, true, true, true, false, true, true, false, true, true, false, false, false, false, false] rfl rfl (by kernel_rfl) (fun _ _ _ h => h) (Or.inl ⟨by rfl, ?_⟩) ?_ ?_
              rotate_left
              · intro w'
                go_simp
                with_reducible rfl
              rotate_left
              · simp only [Act.put, List.setIfInBounds_toArray, List.set_cons_zero, List.set_cons_succ, i64_w, i32_w]
                rfl
              refine pure_ (i := 14) (N := some 47) (v := ?_) (a' := ?_) #[true, true, true, true, true, true, true, true, false, true, true, false, true, true, true, false, false, false, false] rfl rfl (by kernel_rfl) (fun _ _ _ h => h) (Or.inl ⟨by rfl, ?_⟩) ?_ ?_
              rotate_left
              · intro w'
                go_simp
                with_reducible rfl
              rotate_left
              · simp only [Act.put, List.setIfInBounds_toArray, List.set_cons_zero, List.set_cons_succ, i64_w, i32_w]
                rfl
              refine take_ (i := 11) (N := some 44) (v := ?_) (a' := ?_) #[true, true, true, true, true, true, true, true, false, true, true, true, true, true, true, false, false, false, false] rfl rfl (by kernel_rfl) (fun _ _ _ h => h) (Or.inl ⟨by rfl, ?_⟩) hHeld ?_ ?_
              rotate_left
              · rintro w' ⟨s0, s1⟩
                go_simp
                with_reducible rfl
              rotate_left
              · simp only [Act.put, List.setIfInBounds_toArray, List.set_cons_zero, List.set_cons_succ, i64_w, i32_w]
                rfl
              refine take_ (i := 15) (N := some 48) (v := ?_) (a' := ?_) #[true, true, true, true, true, true, true, true, false, true, true, true, true, true, true, true, false, false, false] rfl rfl (by kernel_rfl) (fun _ _ _ h => h) (Or.inl ⟨by rfl, ?_⟩) hHeld ?_ ?_
              rotate_left
              · rintro w' ⟨s0, s1⟩
                go_simp
                with_reducible rfl
              rotate_left
              · simp only [Act.put, List.setIfInBounds_toArray, List.set_cons_zero, List.set_cons_succ, i64_w, i32_w]
                rfl
              refine one_ (i := 8) (N := some 41) #[true, true, true, true, true, true, true, true, true, true, true, true, true, true, true, true, false, false, false] rfl rfl (by kernel_rfl) (by decide) (fun K hK => ?_)
              refine load_mid_if (by rfl) 100 (.tmp 40) rfl b9 (o9 + i * 7) rfl X _ hHeld.1 Try.underlying100 rfl HSL.out ?_
              refine hK.out _ _ ⟨hHeld.1, hHeld.2⟩ (fun hHeld => ?_)
              clear hK K
              refine norm_ (a' := ?_) ?_ ?_
              rotate_left
              · show Act.put _ (some 41) _ = _
                simp only [Act.put, List.setIfInBounds_toArray, List.set_cons_zero, List.set_cons_succ, i64_w, i32_w]
                rfl
              refine one_ (i := 16) (N := some 49) #[true, true, true, true, true, true, true, true, true, true, true, true, true, true, true, true, true, false, false] rfl rfl (by kernel_rfl) (by decide) (fun K hK => ?_)
              refine goes_ Try.func100 (by kernel_rfl) rfl #[.agg X.toArray, .int .u8 c, .bool fold] (by rfl) rfl rfl (by (try simp only [List.map_toArray, List.map_cons, List.map_nil]); first | done | rfl) ?_
              with_reducible refine (HIS.out _).mono ?_
              rintro e w3 ⟨rfl, hb3⟩
              refine ⟨_, rfl, ?_⟩
              refine hK.out _ _ ⟨(range_below hHeld.1 hb3), (pw_cell_below hb3 hHeld.2)⟩ (fun hHeld => ?_)
              clear hK K
              refine norm_ (a' := ?_) ?_ ?_
              rotate_left
              · show Act.put _ (some 49) _ = _
                simp only [Act.put, List.setIfInBounds_toArray, List.set_cons_zero, List.set_cons_succ, i64_w, i32_w]
                rfl
              refine pure_ (i := 17) (N := some 50) (v := ?_) (a' := ?_) #[true, true, true, true, true, true, true, true, true, true, true, true, true, true, true, true, true, true, false] rfl rfl (by kernel_rfl) (fun _ _ _ h => h) (Or.inl ⟨by rfl, ?_⟩) ?_ ?_
              rotate_left
              · intro w'
                go_simp
                with_reducible rfl
              rotate_left
              · simp only [Act.put, List.setIfInBounds_toArray, List.set_cons_zero, List.set_cons_succ, i64_w, i32_w]
                rfl
              refine pure_ (i := 18) (N := some 32) (v := ?_) (a' := ?_) #[true, true, true, true, true, true, true, true, true, true, true, true, true, true, true, true, true, true, true] rfl rfl (by kernel_rfl) (fun _ _ _ h => h) (Or.inl ⟨by rfl, ?_⟩) ?_ ?_
              rotate_left
              · intro w'
                go_simp
                with_reducible rfl
              rotate_left
              · simp only [Act.put, List.setIfInBounds_toArray, List.set_cons_zero, List.set_cons_succ, i64_w, i32_w]
                rfl
              refine done_ (by kernel_rfl) ?_
              have HBZ := Aside0.mk (below_step HB.out (below_step (below_drew (Below.refl wr.heap.size wr)) hb3))
              go_wp2_with fail
              go_meet
              exact ⟨rfl, HBZ⟩
            case rest =>
            obtain ⟨rfl, HB2⟩ := hcut
            cases bb with
            | true =>
              go_wp2_with fail
              go_roundg (meN S K frm at_ i)
              case measure => exact HM.out
              case rel => exact ⟨i + 1, at_ + 1, frm, b, star, by go_num, by go_num, rfl, rfl, Aside0.mk (HG.out.one (by rw [HS.out]; exact c1) HPI.out HK2.out (by rw [HC.out]; exact HBB.out)), Aside0.mk (me_one c2 c1), HB2⟩
            | false =>
              have HNO := Aside0.mk (show ∀ q, l[i]? = some q → q.kind ≠ 2 ∧ isP q (s.getD at_ 0) fold = false from fun q hq => by
                rw [HPI.out] at hq
                injection hq with hq
                subst hq
                exact ⟨HK2.out, by rw [HC.out]; exact HBB.out⟩)
              by_cases c5 : star = -1
              · subst c5
                have HRF := Aside0.mk (show RES = false by rw [← HRES.out]; exact HG.out.never (by rw [HS.out]; exact c1) HNO.out rfl)
                go_wp2_with fail
                go_ret
                exact ⟨by rw [HRF.out]; rfl, HB2.out⟩
              · have hsb := (HG.out.h1 c5).1
                have hs0 : 0 ≤ star := by omega
                have g5 : decide (0 ≤ star) = true := decide_eq_true hs0
                have HBK := Aside0.mk (HG.out.back (by rw [HS.out]; exact c1) HNO.out c5)
                have wf : IntKind.i64.wrap ((frm : Int) + 1) = (frm : Int) + 1 := by rw [IntKind.wrap_i64]; omega
                have wb : IntKind.i64.wrap (star + 1) = (b : Int) := by rw [IntKind.wrap_i64]; omega
                clear hsb hs0
                go_wp2_with fail
                go_roundg (meN S K frm at_ i)
                case measure => exact HM.out
                case rel => exact ⟨b, frm + 1, frm + 1, b, star, rfl, by go_num, rfl, by go_num, HBK, Aside0.mk (me_back ha1 c1), HB2⟩
        · have g2 : decide ((i : Int) < (K : Int)) = false := decide_eq_false (by omega)
          have g2' : decide (i < K) = false := decide_eq_false c2
          have HNO := Aside0.mk (show ∀ q, l[i]? = some q → q.kind ≠ 2 ∧ isP q (s.getD at_ 0) fold = false from fun q hq => by
            rw [List.getElem?_eq_none (by rw [HK.out]; omega)] at hq
            cases hq)
          go_upto_region 7 with fail
          go_quiet (fail)
          have HB2 := Aside0.mk (pw_below_drewN HB.out nq)
          obtain ⟨wq, hwq⟩ : ∃ wq, wr.drewN nq = wq := ⟨_, rfl⟩
          rw [hwq] at HB2 ⊢
          clear hwq
          by_cases c5 : star = -1
          · subst c5
            have HRF := Aside0.mk (show RES = false by rw [← HRES.out]; exact HG.out.never (by rw [HS.out]; exact c1) HNO.out rfl)
            go_wp2_with fail
            go_ret
            exact ⟨by rw [HRF.out]; rfl, HB2.out⟩
          · have hsb := (HG.out.h1 c5).1
            have hs0 : 0 ≤ star := by omega
            have g5 : decide (0 ≤ star) = true := decide_eq_true hs0
            have HBK := Aside0.mk (HG.out.back (by rw [HS.out]; exact c1) HNO.out c5)
            have wf : IntKind.i64.wrap ((frm : Int) + 1) = (frm : Int) + 1 := by rw [IntKind.wrap_i64]; omega
            have wb : IntKind.i64.wrap (star + 1) = (b : Int) := by rw [IntKind.wrap_i64]; omega
            clear hsb hs0
            go_wp2_with fail
            go_roundg (meN S K frm at_ i)
            case measure => exact HM.out
            case rel => exact ⟨b, frm + 1, frm + 1, b, star, rfl, by go_num, rfl, by go_num, HBK, Aside0.mk (me_back ha1 c1), HB2⟩
      · have g1 : decide ((at_ : Int) < (S : Int)) = false := decide_eq_false (by omega)
        have g1' : decide (at_ < S) = false := decide_eq_false c1
        have HL := Aside0.mk (HG.out.last (by rw [HS.out]; omega))
        rw [HRES.out] at HL
        go_wp2_with fail
        go_meet
        exact ⟨i, rfl, hi2, HL, HB⟩
  case rest =>
  obtain ⟨i, rfl, hi, HL, HB⟩ := hcut
  go_upto_block 3 with (fail)
  go_cut [7] (fun v7 wx => ∃ j : Nat, v7 = .int .i64 (j : Int) ∧ Aside0 (decide (j = K) = RES) ∧ Aside0 (Below w.heap.size w wx))
  case first =>
    go_wp2_with fail
    go_loopg [7] (K + 1) (fun kq v7 w' => ∃ j : Nat, v7 = .int .i64 (j : Int) ∧ j ≤ K ∧ K + 1 ≤ j + kq ∧ Aside0 (RES = mtB fold (l.drop j) []) ∧ Aside0 (Below w.heap.size w w'))
    case atStart => exact ⟨i, rfl, hi, by omega, HL, HB⟩
    case round =>
      obtain ⟨j, rfl, hj, hjk, HLJ, HBJ⟩ := hrel
      by_cases c2 : j < K
      · have g2 : decide ((j : Int) < (K : Int)) = true := decide_eq_true (by omega)
        have g2' : decide (j < K) = true := decide_eq_true c2
        have hil : j < l.length := by rw [HK.out]; exact c2
        obtain ⟨b9, o9, rfl, hb9, hrr⟩ := HR.out.get (by omega)
        obtain ⟨p, hpi⟩ : ∃ p, l[j] = p := ⟨_, rfl⟩
        have HPI := Aside0.mk (show l[j]? = some p by rw [List.getElem?_eq_getElem hil, hpi])
        have HRR := Aside0.mk (range_below (hrr j hil) HBJ.out)
        rw [hpi] at HRR
        clear hrr hpi
        have yy : wr.cell? ⟨b9, o9 + j * 7, none⟩ = some (.int .i64 (p.kind : Int)) := HRR.out 0 _ rfl
        obtain ⟨kd, hkd⟩ : ∃ k, p.kind = k := ⟨_, rfl⟩
        have HKD := Aside0.mk hkd
        rw [hkd] at yy
        have wi : IntKind.i64.wrap ((j : Int) + 1) = (j : Int) + 1 := by rw [IntKind.wrap_i64]; omega
        clear hkd
        by_cases c3 : kd = 2
        · have g3 : ((kd : Int) == 2) = true := by simp; omega
          have g3' : (kd == 2) = true := by simpa using c3
          have HK2 := Aside0.mk (show p.kind = 2 by rw [HKD.out]; exact c3)
          clear c3
          go_wp2_with fail
          go_roundg (gk - 1)
          case measure => omega
          case rel => exact ⟨j + 1, by go_num, c2, by omega, Aside0.mk (by rw [HLJ.out]; exact mt_end_skip HPI.out HK2.out), HBJ⟩
        · have g3 : ((kd : Int) == 2) = false := by simp; omega
          have g3' : (kd == 2) = false := by simpa using c3
          have HK2 := Aside0.mk (show p.kind ≠ 2 by rw [HKD.out]; exact c3)
          clear c3
          go_wp2_with fail
          go_meet
          exact ⟨j, rfl, Aside0.mk (by rw [HLJ.out, mt_end_no HPI.out HK2.out]; exact decide_eq_false (by omega)), HBJ⟩
      · have g2 : decide ((j : Int) < (K : Int)) = false := decide_eq_false (by omega)
        have g2' : decide (j < K) = false := decide_eq_false c2
        go_wp2_with fail
        go_meet
        exact ⟨j, rfl, Aside0.mk (by rw [HLJ.out, mt_end_all (by rw [HK.out]; omega)]; exact decide_eq_true (by omega)), HBJ⟩
  case rest =>
  obtain ⟨j, rfl, HD, HBD⟩ := hcut
  cases RES with
  | true =>
    have hj : j = K := by simpa using HD.out
    subst hj
    go_wp2_with fail
    go_ret
    exact ⟨rfl, HBD.out⟩
  | false =>
    have hj : j ≠ K := by simpa using HD.out
    have g1 : ((j : Int) == (K : Int)) = false := by simp; omega
    have g1' : (j == K) = false := by simpa using hj
    have HJ := Aside0.mk hj
    clear hj
    go_wp2_with fail
    go_ret
    exact ⟨rfl, HBD.out⟩
end Go.Proofs.Ytplmdgimodgekaa
