/- Imports and small facts that all of my texts over this translation use. -/
import Derived.Test.YtplmdgimodgekaaProg
import Derived.Below
import Derived.Deep.Draws
import Derived.Deep.AppendLies
import Derived.Maps.AppendAt
import Derived.OwnWalk
import Derived.Laws.BytesArg
import Derived.Laws.MakeOwn
import Derived.Laws.OwnMore
import Derived.Deep.OwnRows
import Derived.Tactics
import Derived.Lib.ConvBytes
import Derived.Laws.Slices
import Derived.WalkKit
import Derived.KernelRfl
import Derived.RowKit3
import Derived.Deep.LoopGhost
import Derived.Deep.QuietTactic
import Derived.BigQuiet
import Derived.WideLaws
import Derived.Deep.DeepCutAuto
import Derived.Deep.CutBlock
import Derived.Deep.RegionHeld3
import Derived.Laws.Rows
import Derived.Lib.AppendStr
import Derived.ArgAppend
import Derived.Laws.IdiomCopy
import Derived.OrdersHeld
import Derived.Laws.BitsLemmas
import Derived.RowKit
import Derived.Test.YtplmdgimodgekaaWWords
import Derived.Test.YtplmdgimodgekaaWLast
import Derived.Test.YtplmdgimodgekaaWMore
import Derived.Test.YtplmdgimodgekaaWKept
import Derived.Test.YtplmdgimodgekaaWAt
import Derived.OpenShut
import Derived.Outline
namespace Go.Proofs.Ytplmdgimodgekaa
open Go.RowKit Go.Proofs.YtplmdgimodgekaaW.PrintWords Go.Proofs.YtplmdgimodgekaaW.PrintLast Go.Proofs.YtplmdgimodgekaaW.PrintMore
set_option linter.unusedVariables false
set_option linter.unusedSimpArgs false

theorem R_cap {α : Type} {enc : α → Value} {h1 : ∀ x, (enc x).oneCell' = true} (w : World) (base : Nat) (e : TypeId) (cs : Array Value) (n : Nat) (hb : base ≤ w.heap.size) (hc : cs.size = n) (hn : n ≤ 4096) :
    (Kd.scalar enc h1).R e (w.alloc (.cells cs e)) base (fun _ => True) (.slice (some ⟨w.heap.size, 0, none⟩) 0 n) [] := by
  refine ⟨fun _ _ => trivial, [], ⟨by simp, .inr ⟨w.heap.size, n, cs, by simp, hb, blk_new w _, by simp, by unfold maxLen; omega, ?_, by simp⟩⟩, Reps.none _ _⟩
  simp [Kd.scalar, hc]
theorem div_step (n : Int) (k : Nat) (y : Int) (h : n / 256 ^ k = y) : y / 256 = n / 256 ^ (k + 1) := by
  rw [← h, Int.ediv_ediv_of_nonneg (Int.pow_nonneg (by omega)), Int.pow_succ]
theorem infoU8 : (Try.prog.info? 5).map (fun i => (i.zero, i.size, i.bytes)) = some (some (.int .u8 0), 1, 1) := by kernel_rfl
theorem set_twice (a : Array Value) (i : Nat) (u v : Value) : (a.setIfInBounds i u).setIfInBounds i v = a.setIfInBounds i v := by
  apply Array.ext_getElem?
  intro j
  simp only [Array.getElem?_setIfInBounds, Array.size_setIfInBounds]
  split <;> simp_all
end Go.Proofs.Ytplmdgimodgekaa
