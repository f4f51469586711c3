/- Structs of many cells in plain regions and in regions that draw: loads, stores, results (as in the texts of seals, for seats that have none). -/
import Derived.Test.YtplmdgimodgekaaKp
import Derived.Deep.MidRow
namespace Go.Proofs.Ytplmdgimodgekaa
open Go.RowKit Go.Proofs.YtplmdgimodgekaaW.PrintWords Go.Proofs.YtplmdgimodgekaaW.PrintLast Go.Proofs.YtplmdgimodgekaaW.PrintMore
set_option linter.unusedVariables false
set_option linter.unusedSimpArgs false
theorem there_blk {W : World} {b T : Nat} {cs : Array Value} (H : W.heap[b]? = some (.cells cs T (0, 0))) : W.there b 0 cs.size := fun j hj => by
  rw [Nat.zero_add]
  exact ⟨by rw [blk_cell H j]; simp [hj], blk_frozen H j⟩
theorem range_blk {W : World} {b T : Nat} {cs : List Value} (H : W.heap[b]? = some (.cells cs.toArray T (0, 0))) : W.rangeAt b 0 cs := fun j v hv => by
  rw [Nat.zero_add, blk_cell H j]; simpa using hv
theorem kp_cells {b : Nat} : ∀ (vs : List Value) (o : Nat) (W : World), Kp (fun k => k = b) W (W.setCells b o vs)
  | [], _, W => Kp.refl _ _
  | v :: r, o, W => by rw [World.setCells]; exact (Kp.set W ⟨b, o, none⟩ v).trans (kp_cells r (o + 1) _) (fun k hk => .inl hk)
theorem range_below {W W1 : World} {b o : Nat} {cs : List Value} (h : W.rangeAt b o cs) (hb : Below W.heap.size W W1) : W1.rangeAt b o cs := fun j v hv => pw_cell_below hb (h j v hv)
theorem store_mid_if {P : Program} {ops : Array Oper} {o : Oper} {a : Act} {W : World} {Q : Exit → Act → World → Prop} {Kc : Act → World → Prop} (hw : Region.wanted o (yielded ops a.tmps) = true) (ty : TypeId) (x y : Operand) (ho : o.op = .store ty x y)
    (b off : Nat) (cells : Array Value) (hx : a.eval x = .pointer (some ⟨b, off, none⟩)) (hy : a.eval y = .agg cells) (ht : W.there b off cells.size) (hi : (P.info? ty).map (·.size) = some cells.size) (h1 : cells.all (·.oneCell') = true) (hd : o.dst = none) (h : Kc a (W.setCells b off cells.toList)) :
    if Region.wanted o (yielded ops a.tmps) = true then Oper.wp P o a W Kc Q else Kc (a.put o.dst undef) W := by
  rw [if_pos hw]
  refine wp_store_mid ty x y ho b off cells hx hy ht hi h1 ?_
  rw [hd]
  exact h
theorem load_mid_if {P : Program} {ops : Array Oper} {o : Oper} {a : Act} {W : World} {Q : Exit → Act → World → Prop} {Kc : Act → World → Prop} (hw : Region.wanted o (yielded ops a.tmps) = true) (ty : TypeId) (x : Operand) (ho : o.op = .load ty x)
    (b off : Nat) (hx : a.eval x = .pointer (some ⟨b, off, none⟩)) (cs : List Value) (d : TypeDesc) (hc : W.rangeAt b off cs) (hu : P.underlying ty = some d) (hd : d.isRow = true) (hi : (P.info? ty).map (·.size) = some cs.length) (h : Kc (a.put o.dst (.agg cs.toArray)) W) :
    if Region.wanted o (yielded ops a.tmps) = true then Oper.wp P o a W Kc Q else Kc (a.put o.dst undef) W := by
  rw [if_pos hw]
  exact wp_load_mid ty x ho b off hx cs d hc hu hd hi h
theorem results_cell2 {P : Program} {fn : Func} {i j : Nat} {t : TypeId} {tmps : Array Value} {W : World} {b : Nat} {v u : Value} (hf : fn.results = #[.cell i t, .tmp j]) (ht : tmps.getD i undef = .pointer (some ⟨b, 0, none⟩)) (hu : tmps.getD j undef = u) (hl : (loadVar t ⟨b, 0, none⟩).run P W = .ok v W) : (results fn tmps).run P W = .ok (.tuple #[v, u]) W := by
  have h' : tmps[i]?.getD undef = .pointer (some ⟨b, 0, none⟩) := by simpa using ht
  have hu' : tmps[j]?.getD undef = u := by simpa using hu
  simp [results, hf, h', hu', asAddr, hl]
theorem results_cell {P : Program} {fn : Func} {i : Nat} {t : TypeId} {tmps : Array Value} {W : World} {b : Nat} {v : Value} (hf : fn.results = #[.cell i t]) (ht : tmps.getD i undef = .pointer (some ⟨b, 0, none⟩)) (hl : (loadVar t ⟨b, 0, none⟩).run P W = .ok v W) : (results fn tmps).run P W = .ok v W := by
  have h' : tmps[i]?.getD undef = .pointer (some ⟨b, 0, none⟩) := by simpa using ht
  simp [results, hf, h', asAddr, hl]
end Go.Proofs.Ytplmdgimodgekaa
