/- The builtin copy as a step; splices of rows of numbers. -/
import Derived.Test.YtigdchfjcfljjaaKp
import Derived.Laws.CopyOwn
namespace Go.Proofs.Ytigdchfjcfljjaa
open Go.RowKit Go.Proofs.YtigdchfjcfljjaaW.PrintWords Go.Proofs.YtigdchfjcfljjaaW.PrintLast Go.Proofs.YtigdchfjcfljjaaW.PrintMore
set_option linter.unusedVariables false
theorem splice_nums (k : IntKind) (L : List Int) (off : Nat) (cs : List Int) : splice (nums k L) off (nums k cs) = nums k (splice L off cs) := by
  simp [splice, nums, List.map_take, List.map_drop]
theorem rd_slice {w : World} {k : IntKind} {v : Value} {xs : List Int} {n : Nat} (h : Rd w k v xs) (hn : xs.length = n) (h0 : 0 < n) : ∃ ad c, v = .slice (some ad) n c ∧ ∀ i, i < n → w.cell? (ad.add i) = some (.int k (xs.getD i 0)) := by
  obtain ⟨A, c, rfl, hc, hr⟩ := h
  subst hn
  obtain ⟨ad, rfl, hcell⟩ := hr.2.2 h0
  exact ⟨ad, c, rfl, hcell⟩
theorem kp_setRow (w : World) (g : Nat) (cs : Array Value) : Kp (fun k => k = g) w (w.setRow g cs) :=
  ⟨rfl, rfl, rfl, by simp [World.setRow], fun k hk hne => setRow_other w g k cs hne⟩
/-- copy: some numbers into a row of the call's own. -/
theorem copy_step {P : Program} {ops : Array Oper} {o : Oper} {a : Act} {w : World} {Kc : Act → World → Prop} {Q : Exit → Act → World → Prop} (hw : Region.wanted o (yielded ops a.tmps) = true) (d s : Operand) {dT sT : TypeId}
    (ho : o.op = .call { callee := .builtin .copy, args := #[d, s], argTypes := #[dT, sT] }) {elem : TypeId} (hu : P.underlying dT = some (.slice elem)) (hsz : (P.info? elem).map (·.size) = some 1)
    {g off dLen dCap : Nat} {ad : Addr} {n sLen sCap : Nat} (hd : a.eval d = .slice (some ⟨g, off, none⟩) dLen dCap) (hs : a.eval s = .slice (some ad) sLen sCap) {k : IntKind} (L cs : List Int) {t : TypeId} (hg : w.heap[g]? = some (.cells (nums k L).toArray t (0, 0)))
    (hc : cs.length = n) (hn : n = Nat.min sLen dLen) (hsrc : ∀ i, i < n → w.cell? (ad.add i) = some (.int k (cs.getD i 0))) (hfit : off + n ≤ L.length)
    (h : ∀ w', w'.heap[g]? = some (.cells (nums k (splice L off cs)).toArray t (0, 0)) → Kp (fun k => k = g) w w' → Kc (a.put o.dst (goInt n)) w') : if Region.wanted o (yielded ops a.tmps) = true then Oper.wp P o a w Kc Q else Kc (a.put o.dst undef) w := by
  rw [if_pos hw]
  have hrun := run_copy_row (P := P) w dT sT o.type elem g off dLen dCap ad sLen sCap (nums k L).toArray t (nums k cs) hu hsz hg (by simp [nums, hc, hn]) (fun j v hj => by
    simp only [nums, List.getElem?_map] at hj
    cases e : cs[j]? with
    | none => rw [e] at hj; cases hj
    | some x =>
      rw [e] at hj
      injection hj with hj
      have hjn : j < cs.length := (List.getElem?_eq_some_iff.1 e).1
      rw [hsrc j (by omega), List.getD_eq_getElem?_getD, e, ← hj]; rfl) (by simp [nums, hc]; exact hfit) (fun v hv => by simp only [nums, List.mem_map] at hv; obtain ⟨z, _, rfl⟩ := hv; rfl)
  unfold Oper.wp
  simp [execOp, ho, resolve, invoke, builtin, hd, hs, hrun, Result.andThen]
  have e : (nums k cs).length = n := by simp [nums, hc]
  rw [e]
  refine h (w.setRow g (List.take off (nums k L) ++ (nums k cs ++ List.drop (off + n) (nums k L))).toArray) ?_ (kp_setRow _ _ _)
  rw [← splice_nums]
  have := setRow_heap w g (nums k L).toArray ((nums k L).take off ++ (nums k cs ++ (nums k L).drop (off + n))).toArray t (0, 0) hg
  simpa [splice, e] using this
end Go.Proofs.Ytigdchfjcfljjaa
