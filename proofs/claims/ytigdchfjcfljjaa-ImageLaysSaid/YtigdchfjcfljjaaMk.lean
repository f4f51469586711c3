/- make: a row of zeros. -/
import Derived.Test.YtigdchfjcfljjaaFill
import Derived.Laws.MakeOwn
namespace Go.Proofs.Ytigdchfjcfljjaa
open Go.RowKit Go.Proofs.YtigdchfjcfljjaaW.PrintWords Go.Proofs.YtigdchfjcfljjaaW.PrintLast Go.Proofs.YtigdchfjcfljjaaW.PrintMore
set_option linter.unusedVariables false
theorem mk_zeros (n : Nat) (h : n ≤ 16000000) (W : World) : (Instr.makeSlice 22 (.int .i64 (n : Int)) (.int .i64 (n : Int))).run Try.prog W = .ok (.slice (some ⟨W.heap.size, 0, none⟩) n n) (W.alloc (.cells (nums .u8 (List.replicate n 0)).toArray 5)) := by
  have hi := infoU8
  cases e : Try.prog.info? 5 with
  | none => rw [e] at hi; cases hi
  | some i =>
    rw [e] at hi
    simp only [Option.map_some, Option.some.injEq, Prod.mk.injEq] at hi
    obtain ⟨h1, h2, h3⟩ := hi
    have hm := made_fill .u8 (fun _ => 0) n
    rw [show fillL (fun _ => 0) n 0 = List.replicate n 0 by simp [fillL]] at hm
    have := run_makeSlice (P := Try.prog) (w := W) 22 5 i (.int .u8 0) Try.underlying22 e h1 .i64 .i64 (n : Int) (n : Int) (by omega) (Int.le_refl _) (by rw [h2]; simp; omega) (by rw [h3]; omega) (by omega)
    rw [Int.toNat_natCast, h2, Nat.mul_one] at this
    rw [this, ← hm]
    rfl
end Go.Proofs.Ytigdchfjcfljjaa
