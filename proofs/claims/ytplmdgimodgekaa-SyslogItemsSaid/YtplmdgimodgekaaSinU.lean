/- Units of time: their names. -/
import Derived.Test.YtplmdgimodgekaaDecN
import Derived.Test.YtplmdgimodgekaaAp
namespace Go.Proofs.Ytplmdgimodgekaa
open Go.RowKit Go.Proofs.YtplmdgimodgekaaW.PrintWords Go.Proofs.YtplmdgimodgekaaW.PrintLast Go.Proofs.YtplmdgimodgekaaW.PrintMore
attribute [local go_sem] max2_int min2_int max_two min_two max_three min_three max_four min_four   -- for this text's walks alone
set_option linter.unusedVariables false
set_option linter.unusedSimpArgs false

def unitP (l : List Int) : Int := if l = [117, 115] then 1 else if l = [109, 115] then 1000 else if l = [115] then 1000000 else if l = [115, 101, 99] then 1000000 else if l = [109] then 60000000 else if l = [109, 105, 110] then 60000000 else if l = [104] then 3600000000 else if l = [104, 111, 117, 114] then 3600000000 else if l = [100] then 86400000000 else if l = [100, 97, 121] then 86400000000 else if l = [119] then 604800000000 else if l = [119, 101, 101, 107] then 604800000000 else 0
def unNm (k : Nat) : List Int := ([[117, 115], [109, 115], [115], [115, 101, 99], [109], [109, 105, 110], [104], [104, 111, 117, 114], [100], [100, 97, 121], [119], [119, 101, 101, 107]] : List (List Int)).getD k []
def unV (k : Nat) : Int := ([1, 1000, 1000000, 1000000, 60000000, 60000000, 3600000000, 3600000000, 86400000000, 86400000000, 604800000000, 604800000000] : List Int).getD k 0
def unitQ (l : List Int) : Int := if l = [] then 1000000 else unitP l
theorem unit_nm : ∀ k : Fin 12, unitP (unNm k.val) = unV k.val ∧ isB (unNm k.val) ∧ 1 ≤ unV k.val ∧ unV k.val ≤ 604800000000 := by
  have h : ∀ k : Fin 12, unitP (unNm k.val) = unV k.val ∧ (unNm k.val).all (fun x => decide (0 ≤ x ∧ x ≤ 255)) = true ∧ 1 ≤ unV k.val ∧ unV k.val ≤ 604800000000 := by decide
  exact fun k => ⟨(h k).1, fun x hx => of_decide_eq_true (List.all_eq_true.1 (h k).2.1 x hx), (h k).2.2⟩
theorem unit_none {l : List Int} (h : ∀ k, k < 12 → unNm k ≠ l) : unitP l = 0 := by
  unfold unitP
  rw [if_neg (fun e => h 0 (by omega) e.symm), if_neg (fun e => h 1 (by omega) e.symm), if_neg (fun e => h 2 (by omega) e.symm), if_neg (fun e => h 3 (by omega) e.symm), if_neg (fun e => h 4 (by omega) e.symm), if_neg (fun e => h 5 (by omega) e.symm), if_neg (fun e => h 6 (by omega) e.symm), if_neg (fun e => h 7 (by omega) e.symm), if_neg (fun e => h 8 (by omega) e.symm), if_neg (fun e => h 9 (by omega) e.symm), if_neg (fun e => h 10 (by omega) e.symm), if_neg (fun e => h 11 (by omega) e.symm)]
theorem unit_bd (l : List Int) : 0 ≤ unitP l ∧ unitP l ≤ 604800000000 := by
  by_cases h : ∃ k, k < 12 ∧ unNm k = l
  · obtain ⟨k, hk, rfl⟩ := h
    have := unit_nm ⟨k, hk⟩
    simp only at this
    omega
  · rw [unit_none (fun k hk e => h ⟨k, hk, e⟩)]; omega
theorem lit_ne {l c : List Int} (hl : isB l) (hc : isB c) (h : c ≠ l) {C : List UInt8} (hC : C = c.map fun n => UInt8.ofNat n.toNat) : ((strOfNums l).toList == C) = false := by
  rw [hC, strOfNums_toList', beq_eq_false_iff_ne]
  exact fun e => h (map_inj hl hc e).symm

set_option maxHeartbeats 8000000 in
set_option maxRecDepth 100000 in
theorem unit_0 (w : World) : Calls Try.prog 71 #[.string (strOfNums [117, 115])] w fun e w' => e = .returned (.int .u64 1) ∧ w = w' := by
  rw [show strOfNums [117, 115] = (⟨#[117, 115]⟩ : ByteArray) from rfl]
  go_enter Try.func71, Try.ntmps71
  go_wp2_with fail
  go_ret
  exact ⟨rfl, rfl⟩
set_option maxHeartbeats 8000000 in
set_option maxRecDepth 100000 in
theorem unit_1 (w : World) : Calls Try.prog 71 #[.string (strOfNums [109, 115])] w fun e w' => e = .returned (.int .u64 1000) ∧ w = w' := by
  rw [show strOfNums [109, 115] = (⟨#[109, 115]⟩ : ByteArray) from rfl]
  go_enter Try.func71, Try.ntmps71
  go_wp2_with fail
  go_ret
  exact ⟨rfl, rfl⟩
set_option maxHeartbeats 8000000 in
set_option maxRecDepth 100000 in
theorem unit_2 (w : World) : Calls Try.prog 71 #[.string (strOfNums [115])] w fun e w' => e = .returned (.int .u64 1000000) ∧ w = w' := by
  rw [show strOfNums [115] = (⟨#[115]⟩ : ByteArray) from rfl]
  go_enter Try.func71, Try.ntmps71
  go_wp2_with fail
  go_ret
  exact ⟨rfl, rfl⟩
set_option maxHeartbeats 8000000 in
set_option maxRecDepth 100000 in
theorem unit_3 (w : World) : Calls Try.prog 71 #[.string (strOfNums [115, 101, 99])] w fun e w' => e = .returned (.int .u64 1000000) ∧ w = w' := by
  rw [show strOfNums [115, 101, 99] = (⟨#[115, 101, 99]⟩ : ByteArray) from rfl]
  go_enter Try.func71, Try.ntmps71
  go_wp2_with fail
  go_ret
  exact ⟨rfl, rfl⟩
set_option maxHeartbeats 8000000 in
set_option maxRecDepth 100000 in
theorem unit_4 (w : World) : Calls Try.prog 71 #[.string (strOfNums [109])] w fun e w' => e = .returned (.int .u64 60000000) ∧ w = w' := by
  rw [show strOfNums [109] = (⟨#[109]⟩ : ByteArray) from rfl]
  go_enter Try.func71, Try.ntmps71
  go_wp2_with fail
  go_ret
  exact ⟨rfl, rfl⟩
set_option maxHeartbeats 8000000 in
set_option maxRecDepth 100000 in
theorem unit_5 (w : World) : Calls Try.prog 71 #[.string (strOfNums [109, 105, 110])] w fun e w' => e = .returned (.int .u64 60000000) ∧ w = w' := by
  rw [show strOfNums [109, 105, 110] = (⟨#[109, 105, 110]⟩ : ByteArray) from rfl]
  go_enter Try.func71, Try.ntmps71
  go_wp2_with fail
  go_ret
  exact ⟨rfl, rfl⟩
set_option maxHeartbeats 8000000 in
set_option maxRecDepth 100000 in
theorem unit_6 (w : World) : Calls Try.prog 71 #[.string (strOfNums [104])] w fun e w' => e = .returned (.int .u64 3600000000) ∧ w = w' := by
  rw [show strOfNums [104] = (⟨#[104]⟩ : ByteArray) from rfl]
  go_enter Try.func71, Try.ntmps71
  go_wp2_with fail
  go_ret
  exact ⟨rfl, rfl⟩
set_option maxHeartbeats 8000000 in
set_option maxRecDepth 100000 in
theorem unit_7 (w : World) : Calls Try.prog 71 #[.string (strOfNums [104, 111, 117, 114])] w fun e w' => e = .returned (.int .u64 3600000000) ∧ w = w' := by
  rw [show strOfNums [104, 111, 117, 114] = (⟨#[104, 111, 117, 114]⟩ : ByteArray) from rfl]
  go_enter Try.func71, Try.ntmps71
  go_wp2_with fail
  go_ret
  exact ⟨rfl, rfl⟩
set_option maxHeartbeats 8000000 in
set_option maxRecDepth 100000 in
theorem unit_8 (w : World) : Calls Try.prog 71 #[.string (strOfNums [100])] w fun e w' => e = .returned (.int .u64 86400000000) ∧ w = w' := by
  rw [show strOfNums [100] = (⟨#[100]⟩ : ByteArray) from rfl]
  go_enter Try.func71, Try.ntmps71
  go_wp2_with fail
  go_ret
  exact ⟨rfl, rfl⟩
set_option maxHeartbeats 8000000 in
set_option maxRecDepth 100000 in
theorem unit_9 (w : World) : Calls Try.prog 71 #[.string (strOfNums [100, 97, 121])] w fun e w' => e = .returned (.int .u64 86400000000) ∧ w = w' := by
  rw [show strOfNums [100, 97, 121] = (⟨#[100, 97, 121]⟩ : ByteArray) from rfl]
  go_enter Try.func71, Try.ntmps71
  go_wp2_with fail
  go_ret
  exact ⟨rfl, rfl⟩
set_option maxHeartbeats 8000000 in
set_option maxRecDepth 100000 in
theorem unit_10 (w : World) : Calls Try.prog 71 #[.string (strOfNums [119])] w fun e w' => e = .returned (.int .u64 604800000000) ∧ w = w' := by
  rw [show strOfNums [119] = (⟨#[119]⟩ : ByteArray) from rfl]
  go_enter Try.func71, Try.ntmps71
  go_wp2_with fail
  go_ret
  exact ⟨rfl, rfl⟩
set_option maxHeartbeats 8000000 in
set_option maxRecDepth 100000 in
theorem unit_11 (w : World) : Calls Try.prog 71 #[.string (strOfNums [119, 101, 101, 107])] w fun e w' => e = .returned (.int .u64 604800000000) ∧ w = w' := by
  rw [show strOfNums [119, 101, 101, 107] = (⟨#[119, 101, 101, 107]⟩ : ByteArray) from rfl]
  go_enter Try.func71, Try.ntmps71
  go_wp2_with fail
  go_ret
  exact ⟨rfl, rfl⟩
set_option maxHeartbeats 8000000 in
set_option maxRecDepth 100000 in
theorem unit_12 (w : World) : Calls Try.prog 71 #[.string (strOfNums [])] w fun e w' => e = .returned (.int .u64 1000000) ∧ w = w' := by
  rw [show strOfNums [] = (⟨#[]⟩ : ByteArray) from rfl]
  go_enter Try.func71, Try.ntmps71
  go_wp2_with fail
  go_ret
  exact ⟨rfl, rfl⟩
set_option maxHeartbeats 8000000 in
set_option maxRecDepth 100000 in
theorem unit_no (l : List Int) (w : World) (hl : isB l) (h0 : l ≠ []) (h : ∀ k, k < 12 → unNm k ≠ l) : Calls Try.prog 71 #[.string (strOfNums l)] w fun e w' => e = .returned (.int .u64 0) ∧ w = w' := by
  have f0 := lit_ne hl (unit_nm ⟨0, by omega⟩).2.1 (h 0 (by omega)) (C := [117, 115]) rfl
  have f1 := lit_ne hl (unit_nm ⟨1, by omega⟩).2.1 (h 1 (by omega)) (C := [109, 115]) rfl
  have f2 := lit_ne hl (unit_nm ⟨2, by omega⟩).2.1 (h 2 (by omega)) (C := [115]) rfl
  have f3 := lit_ne hl (unit_nm ⟨3, by omega⟩).2.1 (h 3 (by omega)) (C := [115, 101, 99]) rfl
  have f4 := lit_ne hl (unit_nm ⟨4, by omega⟩).2.1 (h 4 (by omega)) (C := [109]) rfl
  have f5 := lit_ne hl (unit_nm ⟨5, by omega⟩).2.1 (h 5 (by omega)) (C := [109, 105, 110]) rfl
  have f6 := lit_ne hl (unit_nm ⟨6, by omega⟩).2.1 (h 6 (by omega)) (C := [104]) rfl
  have f7 := lit_ne hl (unit_nm ⟨7, by omega⟩).2.1 (h 7 (by omega)) (C := [104, 111, 117, 114]) rfl
  have f8 := lit_ne hl (unit_nm ⟨8, by omega⟩).2.1 (h 8 (by omega)) (C := [100]) rfl
  have f9 := lit_ne hl (unit_nm ⟨9, by omega⟩).2.1 (h 9 (by omega)) (C := [100, 97, 121]) rfl
  have f10 := lit_ne hl (unit_nm ⟨10, by omega⟩).2.1 (h 10 (by omega)) (C := [119]) rfl
  have f11 := lit_ne hl (unit_nm ⟨11, by omega⟩).2.1 (h 11 (by omega)) (C := [119, 101, 101, 107]) rfl
  have e0 : (strOfNums l).toList.isEmpty = false := by rw [strOfNums_toList']; cases l with | nil => exact absurd rfl h0 | cons => rfl
  have e1 : ((strOfNums l).toList == []) = false := by rw [strOfNums_toList']; cases l with | nil => exact absurd rfl h0 | cons => rfl
  obtain ⟨S, hS⟩ : ∃ S, strOfNums l = S := ⟨_, rfl⟩
  rw [hS] at f0 f1 f2 f3 f4 f5 f6 f7 f8 f9 f10 f11 e0 e1 ⊢
  clear hS h hl h0
  go_enter Try.func71, Try.ntmps71
  go_wp2_with fail
  go_ret
  exact ⟨rfl, rfl⟩

theorem unit_calls (l : List Int) (w : World) (hl : isB l) : Calls Try.prog 71 #[.string (strOfNums l)] w fun e w' => e = .returned (.int .u64 (unitQ l)) ∧ w = w' := by
  by_cases h0 : l = []
  · subst h0; exact unit_12 w
  · rw [unitQ, if_neg h0]
    by_cases h : ∃ k, k < 12 ∧ unNm k = l
    · obtain ⟨k, hk, rfl⟩ := h
      have : ∀ k : Fin 12, Calls Try.prog 71 #[.string (strOfNums (unNm k.val))] w fun e w' => e = .returned (.int .u64 (unitP (unNm k.val))) ∧ w = w' := by
        intro k
        match k with
        | ⟨0, _⟩ => exact unit_0 w
        | ⟨1, _⟩ => exact unit_1 w
        | ⟨2, _⟩ => exact unit_2 w
        | ⟨3, _⟩ => exact unit_3 w
        | ⟨4, _⟩ => exact unit_4 w
        | ⟨5, _⟩ => exact unit_5 w
        | ⟨6, _⟩ => exact unit_6 w
        | ⟨7, _⟩ => exact unit_7 w
        | ⟨8, _⟩ => exact unit_8 w
        | ⟨9, _⟩ => exact unit_9 w
        | ⟨10, _⟩ => exact unit_10 w
        | ⟨11, _⟩ => exact unit_11 w
      exact this ⟨k, hk⟩
    · rw [unit_none (fun k hk e => h ⟨k, hk, e⟩)]
      exact unit_no l w hl h0 (fun k hk e => h ⟨k, hk, e⟩)

theorem build12 (w : World) : (Instr.buildSlice 178 12 #[(0, .agg #[.string ⟨#[117, 115]⟩, .int .u64 1]), (1, .agg #[.string ⟨#[109, 115]⟩, .int .u64 1000]), (2, .agg #[.string ⟨#[115]⟩, .int .u64 1000000]), (3, .agg #[.string ⟨#[115, 101, 99]⟩, .int .u64 1000000]), (4, .agg #[.string ⟨#[109]⟩, .int .u64 60000000]), (5, .agg #[.string ⟨#[109, 105, 110]⟩, .int .u64 60000000]), (6, .agg #[.string ⟨#[104]⟩, .int .u64 3600000000]), (7, .agg #[.string ⟨#[104, 111, 117, 114]⟩, .int .u64 3600000000]), (8, .agg #[.string ⟨#[100]⟩, .int .u64 86400000000]), (9, .agg #[.string ⟨#[100, 97, 121]⟩, .int .u64 86400000000]), (10, .agg #[.string ⟨#[119]⟩, .int .u64 604800000000]), (11, .agg #[.string ⟨#[119, 101, 101, 107]⟩, .int .u64 604800000000])]).run Try.prog w = .ok (.slice (some ⟨w.heap.size, 0, none⟩) 12 12) (w.alloc (.cells #[.string ⟨#[117, 115]⟩, .int .u64 1, .string ⟨#[109, 115]⟩, .int .u64 1000, .string ⟨#[115]⟩, .int .u64 1000000, .string ⟨#[115, 101, 99]⟩, .int .u64 1000000, .string ⟨#[109]⟩, .int .u64 60000000, .string ⟨#[109, 105, 110]⟩, .int .u64 60000000, .string ⟨#[104]⟩, .int .u64 3600000000, .string ⟨#[104, 111, 117, 114]⟩, .int .u64 3600000000, .string ⟨#[100]⟩, .int .u64 86400000000, .string ⟨#[100, 97, 121]⟩, .int .u64 86400000000, .string ⟨#[119]⟩, .int .u64 604800000000, .string ⟨#[119, 101, 101, 107]⟩, .int .u64 604800000000] 181)) := by kernel_rfl
set_option maxHeartbeats 8000000 in
set_option maxRecDepth 100000 in
theorem ref_Units_calls (w : World) : Calls Try.prog 108 #[] w fun e w' => e = .returned (.slice (some ⟨w.heap.size, 0, none⟩) 12 12) ∧ w' = w.alloc (.cells #[.string ⟨#[117, 115]⟩, .int .u64 1, .string ⟨#[109, 115]⟩, .int .u64 1000, .string ⟨#[115]⟩, .int .u64 1000000, .string ⟨#[115, 101, 99]⟩, .int .u64 1000000, .string ⟨#[109]⟩, .int .u64 60000000, .string ⟨#[109, 105, 110]⟩, .int .u64 60000000, .string ⟨#[104]⟩, .int .u64 3600000000, .string ⟨#[104, 111, 117, 114]⟩, .int .u64 3600000000, .string ⟨#[100]⟩, .int .u64 86400000000, .string ⟨#[100, 97, 121]⟩, .int .u64 86400000000, .string ⟨#[119]⟩, .int .u64 604800000000, .string ⟨#[119, 101, 101, 107]⟩, .int .u64 604800000000] 181) := by
  go_enter Try.func108, Try.ntmps108
  go_wp2_with (first | (refine wpList_buildS rfl rfl (ps := #[(0, .agg #[.string ⟨#[117, 115]⟩, .int .u64 1]), (1, .agg #[.string ⟨#[109, 115]⟩, .int .u64 1000]), (2, .agg #[.string ⟨#[115]⟩, .int .u64 1000000]), (3, .agg #[.string ⟨#[115, 101, 99]⟩, .int .u64 1000000]), (4, .agg #[.string ⟨#[109]⟩, .int .u64 60000000]), (5, .agg #[.string ⟨#[109, 105, 110]⟩, .int .u64 60000000]), (6, .agg #[.string ⟨#[104]⟩, .int .u64 3600000000]), (7, .agg #[.string ⟨#[104, 111, 117, 114]⟩, .int .u64 3600000000]), (8, .agg #[.string ⟨#[100]⟩, .int .u64 86400000000]), (9, .agg #[.string ⟨#[100, 97, 121]⟩, .int .u64 86400000000]), (10, .agg #[.string ⟨#[119]⟩, .int .u64 604800000000]), (11, .agg #[.string ⟨#[119, 101, 101, 107]⟩, .int .u64 604800000000])]) (by simp only [List.map_toArray, List.map_cons, List.map_nil]; rfl) (build12 w) ?_))
  go_ret
  exact ⟨rfl, rfl⟩
theorem un_cells : ∀ k : Nat, k < 12 → (#[.string ⟨#[117, 115]⟩, .int .u64 1, .string ⟨#[109, 115]⟩, .int .u64 1000, .string ⟨#[115]⟩, .int .u64 1000000, .string ⟨#[115, 101, 99]⟩, .int .u64 1000000, .string ⟨#[109]⟩, .int .u64 60000000, .string ⟨#[109, 105, 110]⟩, .int .u64 60000000, .string ⟨#[104]⟩, .int .u64 3600000000, .string ⟨#[104, 111, 117, 114]⟩, .int .u64 3600000000, .string ⟨#[100]⟩, .int .u64 86400000000, .string ⟨#[100, 97, 121]⟩, .int .u64 86400000000, .string ⟨#[119]⟩, .int .u64 604800000000, .string ⟨#[119, 101, 101, 107]⟩, .int .u64 604800000000] : Array Value)[2 * k]? = some (.string (strOfNums (unNm k))) ∧ (#[.string ⟨#[117, 115]⟩, .int .u64 1, .string ⟨#[109, 115]⟩, .int .u64 1000, .string ⟨#[115]⟩, .int .u64 1000000, .string ⟨#[115, 101, 99]⟩, .int .u64 1000000, .string ⟨#[109]⟩, .int .u64 60000000, .string ⟨#[109, 105, 110]⟩, .int .u64 60000000, .string ⟨#[104]⟩, .int .u64 3600000000, .string ⟨#[104, 111, 117, 114]⟩, .int .u64 3600000000, .string ⟨#[100]⟩, .int .u64 86400000000, .string ⟨#[100, 97, 121]⟩, .int .u64 86400000000, .string ⟨#[119]⟩, .int .u64 604800000000, .string ⟨#[119, 101, 101, 107]⟩, .int .u64 604800000000] : Array Value)[2 * k + 1]? = some (.int .u64 (unV k)) := fun k hk => by
  have : ∀ k : Fin 12, (#[.string ⟨#[117, 115]⟩, .int .u64 1, .string ⟨#[109, 115]⟩, .int .u64 1000, .string ⟨#[115]⟩, .int .u64 1000000, .string ⟨#[115, 101, 99]⟩, .int .u64 1000000, .string ⟨#[109]⟩, .int .u64 60000000, .string ⟨#[109, 105, 110]⟩, .int .u64 60000000, .string ⟨#[104]⟩, .int .u64 3600000000, .string ⟨#[104, 111, 117, 114]⟩, .int .u64 3600000000, .string ⟨#[100]⟩, .int .u64 86400000000, .string ⟨#[100, 97, 121]⟩, .int .u64 86400000000, .string ⟨#[119]⟩, .int .u64 604800000000, .string ⟨#[119, 101, 101, 107]⟩, .int .u64 604800000000] : Array Value)[2 * k.val]? = some (.string (strOfNums (unNm k.val))) ∧ (#[.string ⟨#[117, 115]⟩, .int .u64 1, .string ⟨#[109, 115]⟩, .int .u64 1000, .string ⟨#[115]⟩, .int .u64 1000000, .string ⟨#[115, 101, 99]⟩, .int .u64 1000000, .string ⟨#[109]⟩, .int .u64 60000000, .string ⟨#[109, 105, 110]⟩, .int .u64 60000000, .string ⟨#[104]⟩, .int .u64 3600000000, .string ⟨#[104, 111, 117, 114]⟩, .int .u64 3600000000, .string ⟨#[100]⟩, .int .u64 86400000000, .string ⟨#[100, 97, 121]⟩, .int .u64 86400000000, .string ⟨#[119]⟩, .int .u64 604800000000, .string ⟨#[119, 101, 101, 107]⟩, .int .u64 604800000000] : Array Value)[2 * k.val + 1]? = some (.int .u64 (unV k.val)) := by
    intro k
    match k with
    | ⟨0, _⟩ => exact ⟨rfl, rfl⟩
    | ⟨1, _⟩ => exact ⟨rfl, rfl⟩
    | ⟨2, _⟩ => exact ⟨rfl, rfl⟩
    | ⟨3, _⟩ => exact ⟨rfl, rfl⟩
    | ⟨4, _⟩ => exact ⟨rfl, rfl⟩
    | ⟨5, _⟩ => exact ⟨rfl, rfl⟩
    | ⟨6, _⟩ => exact ⟨rfl, rfl⟩
    | ⟨7, _⟩ => exact ⟨rfl, rfl⟩
    | ⟨8, _⟩ => exact ⟨rfl, rfl⟩
    | ⟨9, _⟩ => exact ⟨rfl, rfl⟩
    | ⟨10, _⟩ => exact ⟨rfl, rfl⟩
    | ⟨11, _⟩ => exact ⟨rfl, rfl⟩
  exact this ⟨k, hk⟩
set_option maxHeartbeats 8000000 in
set_option maxRecDepth 100000 in
theorem ref_unit_calls (l : List Int) (w : World) (hl : isB l) : Calls Try.prog 73 #[.string (strOfNums l)] w fun e w' => e = .returned (.int .u64 (unitP l)) ∧ Below w.heap.size w w' := by
  have HL := Aside0.mk hl
  obtain ⟨S, hS⟩ : ∃ S, strOfNums l = S := ⟨_, rfl⟩
  rw [hS]
  have HS := Aside0.mk hS
  clear hl hS
  go_enter Try.func73, Try.ntmps73
  go_wp2_with fail
  refine (ref_Units_calls _).mono ?_
  rintro _ w1 ⟨rfl, hw⟩
  have HU := Aside0.mk (show w1.heap[w.heap.size]? = some (.cells #[.string ⟨#[117, 115]⟩, .int .u64 1, .string ⟨#[109, 115]⟩, .int .u64 1000, .string ⟨#[115]⟩, .int .u64 1000000, .string ⟨#[115, 101, 99]⟩, .int .u64 1000000, .string ⟨#[109]⟩, .int .u64 60000000, .string ⟨#[109, 105, 110]⟩, .int .u64 60000000, .string ⟨#[104]⟩, .int .u64 3600000000, .string ⟨#[104, 111, 117, 114]⟩, .int .u64 3600000000, .string ⟨#[100]⟩, .int .u64 86400000000, .string ⟨#[100, 97, 121]⟩, .int .u64 86400000000, .string ⟨#[119]⟩, .int .u64 604800000000, .string ⟨#[119, 101, 101, 107]⟩, .int .u64 604800000000] 181 (0, 0)) by rw [hw]; exact blk_new w _)
  have HB := Aside0.mk (show Below w.heap.size w w1 by rw [hw]; exact below_alloc (Below.refl _ _) _)
  clear hw
  obtain ⟨b, hb⟩ : ∃ b, w.heap.size = b := ⟨_, rfl⟩
  rw [hb] at HU
  have HBB := Aside0.mk hb
  rw [hb]
  clear hb
  go_wp2_with fail
  go_loop [4] (fun v4 => ∃ k : Nat, k ≤ 12 ∧ v4 = .int .i64 k ∧ Aside0 (∀ j, j < k → unNm j ≠ l)) (fun v4 => 12 - (intOf v4).toNat)
  case atStart => exact ⟨0, by omega, rfl, ⟨fun j h => by omega⟩⟩
  case round =>
    obtain ⟨k, hk, rfl, HK⟩ := hrel
    by_cases c1 : k < 12
    · have g1 := (blk_cell HU.out (2 * k)).trans (un_cells k c1).1
      have g2 := (blk_cell HU.out (2 * k + 1)).trans (un_cells k c1).2
      have g3 := g1
      have g4 := g2
      rw [Nat.mul_comm] at g3 g4
      have hkb := (unit_nm ⟨k, c1⟩).2.1
      have hq : ((strOfNums (unNm k)).toList == S.toList) = decide (unNm k = l) := by rw [← HS.out, same_iff hkb HL.out]
      have HV := Aside0.mk (unit_nm ⟨k, c1⟩).1
      obtain ⟨T, hT⟩ : ∃ T, strOfNums (unNm k) = T := ⟨_, rfl⟩
      obtain ⟨V, hV⟩ : ∃ V, unV k = V := ⟨_, rfl⟩
      rw [hT] at g1 g3 hq
      rw [hV] at g2 g4
      have HVV := Aside0.mk hV
      clear hT hV hkb
      by_cases c2 : unNm k = l
      · have HR := Aside0.mk (show unitP l = V by rw [← c2, ← HVV.out]; exact HV.out)
        rw [decide_eq_true c2] at hq
        clear c2
        go_wp2_with fail
        go_ret
        exact ⟨by rw [HR.out]; rfl, HB.out⟩
      · have HK2 := Aside0.mk (show ∀ j, j < k + 1 → unNm j ≠ l from fun j hj => by
          by_cases e : j = k
          · rw [e]; exact c2
          · exact HK.out j (by omega))
        rw [decide_eq_false c2] at hq
        clear c2
        go_wp2_with fail
        go_round
        case rel => exact ⟨k + 1, by omega, by go_num, HK2⟩
        case measure => simp [intOf] <;> omega
    · obtain rfl : k = 12 := by omega
      have HR := Aside0.mk (unit_none HK.out)
      go_wp2_with fail
      go_ret
      exact ⟨by rw [HR.out]; rfl, HB.out⟩
end Go.Proofs.Ytplmdgimodgekaa
