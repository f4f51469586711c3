/- SHA-256's small functions: turns, the numbers of rounds. -/
import Derived.Test.YtplmdgimodgekaaMix
namespace Go.Proofs.Ytplmdgimodgekaa
open Go.RowKit Go.Proofs.YtplmdgimodgekaaW.PrintWords Go.Proofs.YtplmdgimodgekaaW.PrintLast Go.Proofs.YtplmdgimodgekaaW.PrintMore
attribute [local go_sem] max2_int min2_int max_two min_two max_three min_three max_four min_four   -- for this text's walks alone
set_option linter.unusedVariables false
set_option linter.unusedSimpArgs false

def rr (a b x : Int) : Int := bits .or .u32 (IntKind.u32.wrap (x * a)) (x / b)
theorem or_comm_u32 (x y : Int) : bits .or .u32 x y = bits .or .u32 y x := by
  show IntKind.u32.wrap ((BitVec.ofInt 32 x ||| BitVec.ofInt 32 y).toNat : Nat) = IntKind.u32.wrap ((BitVec.ofInt 32 y ||| BitVec.ofInt 32 x).toNat : Nat)
  rw [BitVec.or_comm]

set_option maxHeartbeats 8000000 in
set_option maxRecDepth 100000 in
theorem rot32_2 (x : Int) (w : World) (x0 : 0 ≤ x) (x1 : x ≤ 4294967295) : Calls Try.prog 152 #[.int .u32 x, .int .i64 (-2)] w fun e w' => e = .returned (.int .u32 (rr 1073741824 4 x)) ∧ w = w' := by
  have ha : bits .and .u64 18446744073709551614 31 = 30 := by decide
  have hw : IntKind.u64.wrap (-2) = 18446744073709551614 := by decide
  go_enter Try.func152, Try.ntmps152
  go_wp2
  go_ret
  exact ⟨rfl, rfl⟩
set_option maxHeartbeats 8000000 in
set_option maxRecDepth 100000 in
theorem right_2 (x : Int) (w : World) (x0 : 0 ≤ x) (x1 : x ≤ 4294967295) : Calls Try.prog 151 #[.int .u32 x, .int .u64 2] w fun e w' => e = .returned (.int .u32 (rr 1073741824 4 x)) ∧ w = w' := by
  have HE := Aside0.mk (or_comm_u32 (x / 4) (IntKind.u32.wrap (x * 1073741824)))
  go_enter Try.func151, Try.ntmps151
  go_wp2
  go_ret
  exact ⟨by rw [rr, ← HE.out]; rfl, rfl⟩
set_option maxHeartbeats 8000000 in
set_option maxRecDepth 100000 in
theorem rot32_6 (x : Int) (w : World) (x0 : 0 ≤ x) (x1 : x ≤ 4294967295) : Calls Try.prog 152 #[.int .u32 x, .int .i64 (-6)] w fun e w' => e = .returned (.int .u32 (rr 67108864 64 x)) ∧ w = w' := by
  have ha : bits .and .u64 18446744073709551610 31 = 26 := by decide
  have hw : IntKind.u64.wrap (-6) = 18446744073709551610 := by decide
  go_enter Try.func152, Try.ntmps152
  go_wp2
  go_ret
  exact ⟨rfl, rfl⟩
set_option maxHeartbeats 8000000 in
set_option maxRecDepth 100000 in
theorem right_6 (x : Int) (w : World) (x0 : 0 ≤ x) (x1 : x ≤ 4294967295) : Calls Try.prog 151 #[.int .u32 x, .int .u64 6] w fun e w' => e = .returned (.int .u32 (rr 67108864 64 x)) ∧ w = w' := by
  have HE := Aside0.mk (or_comm_u32 (x / 64) (IntKind.u32.wrap (x * 67108864)))
  go_enter Try.func151, Try.ntmps151
  go_wp2
  go_ret
  exact ⟨by rw [rr, ← HE.out]; rfl, rfl⟩
set_option maxHeartbeats 8000000 in
set_option maxRecDepth 100000 in
theorem rot32_7 (x : Int) (w : World) (x0 : 0 ≤ x) (x1 : x ≤ 4294967295) : Calls Try.prog 152 #[.int .u32 x, .int .i64 (-7)] w fun e w' => e = .returned (.int .u32 (rr 33554432 128 x)) ∧ w = w' := by
  have ha : bits .and .u64 18446744073709551609 31 = 25 := by decide
  have hw : IntKind.u64.wrap (-7) = 18446744073709551609 := by decide
  go_enter Try.func152, Try.ntmps152
  go_wp2
  go_ret
  exact ⟨rfl, rfl⟩
set_option maxHeartbeats 8000000 in
set_option maxRecDepth 100000 in
theorem right_7 (x : Int) (w : World) (x0 : 0 ≤ x) (x1 : x ≤ 4294967295) : Calls Try.prog 151 #[.int .u32 x, .int .u64 7] w fun e w' => e = .returned (.int .u32 (rr 33554432 128 x)) ∧ w = w' := by
  have HE := Aside0.mk (or_comm_u32 (x / 128) (IntKind.u32.wrap (x * 33554432)))
  go_enter Try.func151, Try.ntmps151
  go_wp2
  go_ret
  exact ⟨by rw [rr, ← HE.out]; rfl, rfl⟩
set_option maxHeartbeats 8000000 in
set_option maxRecDepth 100000 in
theorem rot32_11 (x : Int) (w : World) (x0 : 0 ≤ x) (x1 : x ≤ 4294967295) : Calls Try.prog 152 #[.int .u32 x, .int .i64 (-11)] w fun e w' => e = .returned (.int .u32 (rr 2097152 2048 x)) ∧ w = w' := by
  have ha : bits .and .u64 18446744073709551605 31 = 21 := by decide
  have hw : IntKind.u64.wrap (-11) = 18446744073709551605 := by decide
  go_enter Try.func152, Try.ntmps152
  go_wp2
  go_ret
  exact ⟨rfl, rfl⟩
set_option maxHeartbeats 8000000 in
set_option maxRecDepth 100000 in
theorem right_11 (x : Int) (w : World) (x0 : 0 ≤ x) (x1 : x ≤ 4294967295) : Calls Try.prog 151 #[.int .u32 x, .int .u64 11] w fun e w' => e = .returned (.int .u32 (rr 2097152 2048 x)) ∧ w = w' := by
  have HE := Aside0.mk (or_comm_u32 (x / 2048) (IntKind.u32.wrap (x * 2097152)))
  go_enter Try.func151, Try.ntmps151
  go_wp2
  go_ret
  exact ⟨by rw [rr, ← HE.out]; rfl, rfl⟩
set_option maxHeartbeats 8000000 in
set_option maxRecDepth 100000 in
theorem rot32_13 (x : Int) (w : World) (x0 : 0 ≤ x) (x1 : x ≤ 4294967295) : Calls Try.prog 152 #[.int .u32 x, .int .i64 (-13)] w fun e w' => e = .returned (.int .u32 (rr 524288 8192 x)) ∧ w = w' := by
  have ha : bits .and .u64 18446744073709551603 31 = 19 := by decide
  have hw : IntKind.u64.wrap (-13) = 18446744073709551603 := by decide
  go_enter Try.func152, Try.ntmps152
  go_wp2
  go_ret
  exact ⟨rfl, rfl⟩
set_option maxHeartbeats 8000000 in
set_option maxRecDepth 100000 in
theorem right_13 (x : Int) (w : World) (x0 : 0 ≤ x) (x1 : x ≤ 4294967295) : Calls Try.prog 151 #[.int .u32 x, .int .u64 13] w fun e w' => e = .returned (.int .u32 (rr 524288 8192 x)) ∧ w = w' := by
  have HE := Aside0.mk (or_comm_u32 (x / 8192) (IntKind.u32.wrap (x * 524288)))
  go_enter Try.func151, Try.ntmps151
  go_wp2
  go_ret
  exact ⟨by rw [rr, ← HE.out]; rfl, rfl⟩
set_option maxHeartbeats 8000000 in
set_option maxRecDepth 100000 in
theorem rot32_17 (x : Int) (w : World) (x0 : 0 ≤ x) (x1 : x ≤ 4294967295) : Calls Try.prog 152 #[.int .u32 x, .int .i64 (-17)] w fun e w' => e = .returned (.int .u32 (rr 32768 131072 x)) ∧ w = w' := by
  have ha : bits .and .u64 18446744073709551599 31 = 15 := by decide
  have hw : IntKind.u64.wrap (-17) = 18446744073709551599 := by decide
  go_enter Try.func152, Try.ntmps152
  go_wp2
  go_ret
  exact ⟨rfl, rfl⟩
set_option maxHeartbeats 8000000 in
set_option maxRecDepth 100000 in
theorem right_17 (x : Int) (w : World) (x0 : 0 ≤ x) (x1 : x ≤ 4294967295) : Calls Try.prog 151 #[.int .u32 x, .int .u64 17] w fun e w' => e = .returned (.int .u32 (rr 32768 131072 x)) ∧ w = w' := by
  have HE := Aside0.mk (or_comm_u32 (x / 131072) (IntKind.u32.wrap (x * 32768)))
  go_enter Try.func151, Try.ntmps151
  go_wp2
  go_ret
  exact ⟨by rw [rr, ← HE.out]; rfl, rfl⟩
set_option maxHeartbeats 8000000 in
set_option maxRecDepth 100000 in
theorem rot32_18 (x : Int) (w : World) (x0 : 0 ≤ x) (x1 : x ≤ 4294967295) : Calls Try.prog 152 #[.int .u32 x, .int .i64 (-18)] w fun e w' => e = .returned (.int .u32 (rr 16384 262144 x)) ∧ w = w' := by
  have ha : bits .and .u64 18446744073709551598 31 = 14 := by decide
  have hw : IntKind.u64.wrap (-18) = 18446744073709551598 := by decide
  go_enter Try.func152, Try.ntmps152
  go_wp2
  go_ret
  exact ⟨rfl, rfl⟩
set_option maxHeartbeats 8000000 in
set_option maxRecDepth 100000 in
theorem right_18 (x : Int) (w : World) (x0 : 0 ≤ x) (x1 : x ≤ 4294967295) : Calls Try.prog 151 #[.int .u32 x, .int .u64 18] w fun e w' => e = .returned (.int .u32 (rr 16384 262144 x)) ∧ w = w' := by
  have HE := Aside0.mk (or_comm_u32 (x / 262144) (IntKind.u32.wrap (x * 16384)))
  go_enter Try.func151, Try.ntmps151
  go_wp2
  go_ret
  exact ⟨by rw [rr, ← HE.out]; rfl, rfl⟩
set_option maxHeartbeats 8000000 in
set_option maxRecDepth 100000 in
theorem rot32_19 (x : Int) (w : World) (x0 : 0 ≤ x) (x1 : x ≤ 4294967295) : Calls Try.prog 152 #[.int .u32 x, .int .i64 (-19)] w fun e w' => e = .returned (.int .u32 (rr 8192 524288 x)) ∧ w = w' := by
  have ha : bits .and .u64 18446744073709551597 31 = 13 := by decide
  have hw : IntKind.u64.wrap (-19) = 18446744073709551597 := by decide
  go_enter Try.func152, Try.ntmps152
  go_wp2
  go_ret
  exact ⟨rfl, rfl⟩
set_option maxHeartbeats 8000000 in
set_option maxRecDepth 100000 in
theorem right_19 (x : Int) (w : World) (x0 : 0 ≤ x) (x1 : x ≤ 4294967295) : Calls Try.prog 151 #[.int .u32 x, .int .u64 19] w fun e w' => e = .returned (.int .u32 (rr 8192 524288 x)) ∧ w = w' := by
  have HE := Aside0.mk (or_comm_u32 (x / 524288) (IntKind.u32.wrap (x * 8192)))
  go_enter Try.func151, Try.ntmps151
  go_wp2
  go_ret
  exact ⟨by rw [rr, ← HE.out]; rfl, rfl⟩
set_option maxHeartbeats 8000000 in
set_option maxRecDepth 100000 in
theorem rot32_22 (x : Int) (w : World) (x0 : 0 ≤ x) (x1 : x ≤ 4294967295) : Calls Try.prog 152 #[.int .u32 x, .int .i64 (-22)] w fun e w' => e = .returned (.int .u32 (rr 1024 4194304 x)) ∧ w = w' := by
  have ha : bits .and .u64 18446744073709551594 31 = 10 := by decide
  have hw : IntKind.u64.wrap (-22) = 18446744073709551594 := by decide
  go_enter Try.func152, Try.ntmps152
  go_wp2
  go_ret
  exact ⟨rfl, rfl⟩
set_option maxHeartbeats 8000000 in
set_option maxRecDepth 100000 in
theorem right_22 (x : Int) (w : World) (x0 : 0 ≤ x) (x1 : x ≤ 4294967295) : Calls Try.prog 151 #[.int .u32 x, .int .u64 22] w fun e w' => e = .returned (.int .u32 (rr 1024 4194304 x)) ∧ w = w' := by
  have HE := Aside0.mk (or_comm_u32 (x / 4194304) (IntKind.u32.wrap (x * 1024)))
  go_enter Try.func151, Try.ntmps151
  go_wp2
  go_ret
  exact ⟨by rw [rr, ← HE.out]; rfl, rfl⟩
set_option maxHeartbeats 8000000 in
set_option maxRecDepth 100000 in
theorem rot32_25 (x : Int) (w : World) (x0 : 0 ≤ x) (x1 : x ≤ 4294967295) : Calls Try.prog 152 #[.int .u32 x, .int .i64 (-25)] w fun e w' => e = .returned (.int .u32 (rr 128 33554432 x)) ∧ w = w' := by
  have ha : bits .and .u64 18446744073709551591 31 = 7 := by decide
  have hw : IntKind.u64.wrap (-25) = 18446744073709551591 := by decide
  go_enter Try.func152, Try.ntmps152
  go_wp2
  go_ret
  exact ⟨rfl, rfl⟩
set_option maxHeartbeats 8000000 in
set_option maxRecDepth 100000 in
theorem right_25 (x : Int) (w : World) (x0 : 0 ≤ x) (x1 : x ≤ 4294967295) : Calls Try.prog 151 #[.int .u32 x, .int .u64 25] w fun e w' => e = .returned (.int .u32 (rr 128 33554432 x)) ∧ w = w' := by
  have HE := Aside0.mk (or_comm_u32 (x / 33554432) (IntKind.u32.wrap (x * 128)))
  go_enter Try.func151, Try.ntmps151
  go_wp2
  go_ret
  exact ⟨by rw [rr, ← HE.out]; rfl, rfl⟩

end Go.Proofs.Ytplmdgimodgekaa
