/- PackUnpacks: the printed walk, with its pure part. -/
import Derived.Test.YtiigjbihacoopaaPurePackUnpacks
namespace Go.Proofs.Ytiigjbihacoopaa
open Go.RowKit
theorem PackUnpacks_walk (a0 : Option Addr) (len0 cap0 : Nat) (z0 : List Int) (a1 : Int) (w : World) (w0 : (a0 = none ∧ len0 = 0 ∧ cap0 = 0 ∧ z0 = []) ∨ ∃ x, a0 = some x ∧ len0 ≤ cap0 ∧ cap0 ≤ maxLen ∧ z0.length = cap0 ∧ (∀ i, i < z0.length → w.cell? (x.add i) = some (.int .u8 (z0.getD i 0))) ∧ ∀ n ∈ z0, (Lit.int .u8 n).wf = true) (y0 : len0 * 1 ≤ 140737488351232) (w1 : (Lit.int .i64 a1).wf = true) :
    Calls Try.prog 4 #[.slice a0 len0 cap0, .int .i64 a1] w fun e w' => e = .returned (.bool true) ∧ Below w.heap.size w w' := PPackUnpacks.logbooklaw42_PackUnpacks.walk Pure.PackUnpacks a0 len0 cap0 z0 a1 w w0 y0 w1
end Go.Proofs.Ytiigjbihacoopaa
