/- SlotTurns: for every input the law returns true, and each argument reads behind the call as it read before: no condition. -/
import Derived.Test.YtigdchfjcfljjaaRows
import Derived.Test.YtigdchfjcfljjaaSlotT
import Derived.WalkKit
import Derived.ProofKit
import Derived.OpenShut
import Derived.ShutString
import Derived.ChangeOld
import Derived.Below
import Derived.SizedLaws
import Derived.Test.YtigdchfjcfljjaaWSized
namespace Go.Proofs.Ytigdchfjcfljjaa.slotTurns
open Go.ChangeShapes Go.WideShapes Go.ChangeAt Go.RowKit
open Go.ChangeMaps (open_string shut_string)
set_option linter.unusedVariables false
theorem own : ownKnob Try.prog.godebug = none := by kernel_rfl
theorem laidOut : laidOutB Try.prog = true := by kernel_rfl
def IsRow (k : IntKind) (w : World) (a : Option Addr) (len cap : Nat) (zs : List Int) : Prop :=
  (a = none ∧ len = 0 ∧ cap = 0 ∧ zs = []) ∨
  ∃ x, a = some x ∧ len ≤ cap ∧ cap ≤ maxLen ∧ zs.length = cap ∧ (∀ i, i < zs.length → w.cell? (x.add i) = some (.int k (zs.getD i 0))) ∧ ∀ n ∈ zs, (Lit.int k n).wf = true
set_option maxRecDepth 100000 in
theorem lifted (os : Os) (started : os.Started) (H : Type) (enc : TypeId × Value → H) :
    ReturnsInHanded {} Try.checked os 4 .any (Rows.slotTurnsSpec.pre6 enc Try.prog Try.f4 Rows.slotTurnsRow.domain false) (Rows.slotTurnsSpec.post enc Try.prog Try.f4 false true false false) := by
  refine returnsInHanded_of_change_sized (C := Try.checked) own started (by kernel_rfl) Try.func4
    (ChangeSpec.witness6 (enc := enc) (C := Try.checked) false ⟨#[], #[.agg #[.int .u64 0, .int .u64 0, .int .u64 0, .int .u64 0, .int .u64 0, .int .u64 0], .agg #[.int .u64 0, .int .u64 0, .int .u64 0, .int .u64 0, .int .u64 0, .int .u64 0], .bool false], []⟩ 8 (by kernel_rfl) (by kernel_rfl) (by kernel_rfl) (by kernel_rfl)) ?_
  intro W base args ds gs before hval0 hW hcnd hsz0 _
  have hsz : (DataW.weightsEach Try.prog (Try.f4.params.toList ++ Rows.slotTurnsSpec.plain.varTypes Try.prog) (ds ++ gs)).all (· ≤ reachBytes) = true := hsz0
  have hval : ∀ (j : Nat) t v, Try.f4.params[j]? = some t → args[j]? = some v → Value.okWide Try.prog W .any base t v := hval0
  have hW' := hW
  obtain ⟨p, q, hA0, hV, rfl, hfz, hnd⟩ := hW
  have hA : DataW.TrodAll enc Try.prog W 0 (fun _ => true) true Try.f4.params.toList args.toList ds p := hA0
  rw [Try.params4] at hA hval hsz
  obtain ⟨v0, vs0, d0, ds0, p0, q0, hargs, rfl, rfl, h0, r0⟩ := trodAll_cons hA
  obtain ⟨v1, vs1, d1, ds1, p1, q1, rfl, rfl, rfl, h1, r1⟩ := trodAll_cons r0
  obtain ⟨v2, vs2, d2, ds2, p2, q2, rfl, rfl, rfl, h2, r2⟩ := trodAll_cons r1
  obtain ⟨rfl, rfl, rfl⟩ := trodAll_nil r2
  obtain rfl : args = #[v0, v1, v2] := by cases args; simp_all
  obtain ⟨rfl, rfl⟩ := trodVars_none hV
  have k0 := h0
  have lt0 : ∀ x ∈ p0, x.block < W.heap.size := by obtain ⟨m, hm⟩ := k0; exact DataW.trod_lt m _ _ _ hm
  have hv0 := (hval 0 34 v0 rfl rfl)
  obtain ⟨zs0, rfl, hz0, wz0⟩ := open_aggInts [.u64, .u64, .u64, .u64, .u64, .u64] Try.underlying34 (by kernel_rfl) (by kernel_rfl) hv0 h0
  obtain ⟨x00, x01, x02, x03, x04, x05, rfl⟩ := list6 hz0
  have wx00 := wz0 0 _ _ rfl rfl
  have wx01 := wz0 1 _ _ rfl rfl
  have wx02 := wz0 2 _ _ rfl rfl
  have wx03 := wz0 3 _ _ rfl rfl
  have wx04 := wz0 4 _ _ rfl rfl
  have wx05 := wz0 5 _ _ rfl rfl
  have k1 := h1
  have lt1 : ∀ x ∈ p1, x.block < W.heap.size := by obtain ⟨m, hm⟩ := k1; exact DataW.trod_lt m _ _ _ hm
  have hv1 := (hval 1 34 v1 rfl rfl)
  obtain ⟨zs1, rfl, hz1, wz1⟩ := open_aggInts [.u64, .u64, .u64, .u64, .u64, .u64] Try.underlying34 (by kernel_rfl) (by kernel_rfl) hv1 h1
  obtain ⟨x10, x11, x12, x13, x14, x15, rfl⟩ := list6 hz1
  have wx10 := wz1 0 _ _ rfl rfl
  have wx11 := wz1 1 _ _ rfl rfl
  have wx12 := wz1 2 _ _ rfl rfl
  have wx13 := wz1 3 _ _ rfl rfl
  have wx14 := wz1 4 _ _ rfl rfl
  have wx15 := wz1 5 _ _ rfl rfl
  obtain ⟨a2, rfl, rfl, rfl⟩ := open_bool Try.underlying4 (hval 2 4 v2 rfl rfl) h2
  clear hA0 hval0 hsz0 hsz
  refine (SlotTurns_walk x00 x01 x02 x03 x04 x05 x10 x11 x12 x13 x14 x15 a2 W wx00 wx01 wx02 wx03 wx04 wx05 wx10 wx11 wx12 wx13 wx14 wx15).mono fun e W' ⟨he, bel⟩ => ?_
  subst he
  exact ⟨_, rfl, _, _, _, [], _, [], hW', trodAll_mk1 (shut_bool Try.underlying4 _), (trodAll_cons_mk (Below.trod laidOut (by kernel_rfl) (of_decide_eq_true (by kernel_rfl)) k0 bel lt0) (trodAll_cons_mk (Below.trod laidOut (by kernel_rfl) (of_decide_eq_true (by kernel_rfl)) k1 bel lt1) (trodAll_cons_mk (shut_bool Try.underlying4 _) trodAll_mk0))), rfl, bel.frame _, fun h => by cases h⟩
theorem over : Rows.slotTurnsRow.holds Try.pinned (OpenSpec.ofChange Rows.slotTurnsSpec) :=
  OpenClaim.holds_of_wide 4 Try.f4 rfl rfl rfl rfl rfl rfl rfl ⟨rfl, rfl, rfl, rfl, rfl⟩ rfl rfl rfl rfl rfl (by kernel_rfl) Try.func4 (by kernel_rfl)
    (of_decide_eq_true (by kernel_rfl)) (by unfold Func.isWrapper; first | (rw [if_pos (by decide +kernel)]; kernel_rfl) | (rw [if_neg (by decide +kernel)]; exact ⟨rfl, rfl⟩))
    (fun os started H enc _ => lifted os started H enc)
theorem proved : Rows.SlotTurnsSaid := over
#print axioms proved
end Go.Proofs.Ytigdchfjcfljjaa.slotTurns
namespace Go.Proofs.Ytigdchfjcfljjaa
theorem slotTurns_holds : Rows.SlotTurnsSaid := slotTurns.proved
end Go.Proofs.Ytigdchfjcfljjaa
