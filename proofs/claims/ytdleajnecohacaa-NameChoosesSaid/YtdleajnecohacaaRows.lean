/-
  No cell of these rows narrows 'for every input' (looked for: loops, veiled, ifaces, maps, wideKeys, modest, calm, conditions, laid).
  DERIVED. THE GIVEN ROWS OF THIS SEAT. 12 by the template 'for every input the law returns true; each argument reads behind the call as it read before'; 0 by the template 'total and deterministic' (their statements: YtdleajnecohacaaTotals.lean).
  GIVEN WITH THE SEED: the statements are not yours to turn. If you find one false, say at which input.
  Laid BY PROGRAM, IN A SANDBOX (cutbox-rows.mjs): the forced cells as the released guide's own fill.sh prints them over the translation 49afb119ec61d00a… (all of the seat's roots in one cut). By AI agents, Wed Nov 11 2026. No macro, syntax, notation, axiom, sorry.
-/
import Derived.Test.YtdleajnecohacaaChecked
import GoSem.Claim
import GoSem.ClaimJoined
import GoSem.ClaimMapViews
import Derived.JoinedTies
import Derived.KernelRfl
namespace Go.Proofs.Ytdleajnecohacaa
/- THE CELL 'sum', in the pinned program and in every row, IS THE sha256 OF THE DUMP (.gsa) THAT YtdleajnecohacaaProg.lean LOADS. Nothing in Lean hashes anything: it is a label: what it is worth is what the hold of that sum in a sandbox is worth. -/
noncomputable def Try.pinned : Pinned := { name := "ytdleajnecohacaa", sum := "49afb119ec61d00a201d6e964caca3b159a29fc4733d172cfd57db0c65a07a7d", checked := Try.checked }
namespace Rows
def none {H : Type} : Left H := { results := [], args := [] }

/-- 'logbooklaw10.HeadWrites': WHATEVER THE INPUT: true; the input reads as it did. -/
def headWritesSpec : ChangeSpec := { name := "headWrites", fn := fun _ => fun
  | [d1, d2] => { results := [.lit (.bool true)], args := [d1, d2] }
  | _ => none }
def headWritesRow : OpenClaim := { program := "ytdleajnecohacaa", sum := "49afb119ec61d00a201d6e964caca3b159a29fc4733d172cfd57db0c65a07a7d", func := "logbook/logbooklaw10.HeadWrites", spec := "headWrites", apart := false }
def HeadWritesSaid : Prop := headWritesRow.holds Try.pinned (OpenSpec.ofChange headWritesSpec)

/-- ITS FALSE NEIGHBOUR: 'it returns false'. Refute it at one input. -/
def headWritesWrong : ChangeSpec := { name := "headWrites", fn := fun _ => fun
  | [d1, d2] => { results := [.lit (.bool false)], args := [d1, d2] }
  | _ => none }
def HeadWritesWrongFalsely : Prop := headWritesRow.holds Try.pinned (OpenSpec.ofChange headWritesWrong)

/-- 'logbooklaw10.HeadReads': WHATEVER THE INPUT: true; the input reads as it did. -/
def headReadsSpec : ChangeSpec := { name := "headReads", fn := fun _ => fun
  | [d] => { results := [.lit (.bool true)], args := [d] }
  | _ => none }
def headReadsRow : OpenClaim := { program := "ytdleajnecohacaa", sum := "49afb119ec61d00a201d6e964caca3b159a29fc4733d172cfd57db0c65a07a7d", func := "logbook/logbooklaw10.HeadReads", spec := "headReads", apart := false }
def HeadReadsSaid : Prop := headReadsRow.holds Try.pinned (OpenSpec.ofChange headReadsSpec)

/-- ITS FALSE NEIGHBOUR: 'it returns false'. Refute it at one input. -/
def headReadsWrong : ChangeSpec := { name := "headReads", fn := fun _ => fun
  | [d] => { results := [.lit (.bool false)], args := [d] }
  | _ => none }
def HeadReadsWrongFalsely : Prop := headReadsRow.holds Try.pinned (OpenSpec.ofChange headReadsWrong)

/-- 'logbooklaw10.HeadBack': WHATEVER THE INPUT: true; the input reads as it did. -/
def headBackSpec : ChangeSpec := { name := "headBack", fn := fun _ => fun
  | [d1, d2] => { results := [.lit (.bool true)], args := [d1, d2] }
  | _ => none }
def headBackRow : OpenClaim := { program := "ytdleajnecohacaa", sum := "49afb119ec61d00a201d6e964caca3b159a29fc4733d172cfd57db0c65a07a7d", func := "logbook/logbooklaw10.HeadBack", spec := "headBack", apart := false }
def HeadBackSaid : Prop := headBackRow.holds Try.pinned (OpenSpec.ofChange headBackSpec)

/-- ITS FALSE NEIGHBOUR: 'it returns false'. Refute it at one input. -/
def headBackWrong : ChangeSpec := { name := "headBack", fn := fun _ => fun
  | [d1, d2] => { results := [.lit (.bool false)], args := [d1, d2] }
  | _ => none }
def HeadBackWrongFalsely : Prop := headBackRow.holds Try.pinned (OpenSpec.ofChange headBackWrong)

/-- 'logbooklaw09.ObjWrites': WHATEVER THE INPUT: true; the input reads as it did. -/
def objWritesSpec : ChangeSpec := { name := "objWrites", fn := fun _ => fun
  | [d1, d2, d3] => { results := [.lit (.bool true)], args := [d1, d2, d3] }
  | _ => none }
def objWritesRow : OpenClaim := { program := "ytdleajnecohacaa", sum := "49afb119ec61d00a201d6e964caca3b159a29fc4733d172cfd57db0c65a07a7d", func := "logbook/logbooklaw09.ObjWrites", spec := "objWrites", apart := false }
def ObjWritesSaid : Prop := objWritesRow.holds Try.pinned (OpenSpec.ofChange objWritesSpec)

/-- ITS FALSE NEIGHBOUR: 'it returns false'. Refute it at one input. -/
def objWritesWrong : ChangeSpec := { name := "objWrites", fn := fun _ => fun
  | [d1, d2, d3] => { results := [.lit (.bool false)], args := [d1, d2, d3] }
  | _ => none }
def ObjWritesWrongFalsely : Prop := objWritesRow.holds Try.pinned (OpenSpec.ofChange objWritesWrong)

/-- 'logbooklaw09.ObjSames': WHATEVER THE INPUT: true; the input reads as it did. -/
def objSamesSpec : ChangeSpec := { name := "objSames", fn := fun _ => fun
  | [d1, d2] => { results := [.lit (.bool true)], args := [d1, d2] }
  | _ => none }
def objSamesRow : OpenClaim := { program := "ytdleajnecohacaa", sum := "49afb119ec61d00a201d6e964caca3b159a29fc4733d172cfd57db0c65a07a7d", func := "logbook/logbooklaw09.ObjSames", spec := "objSames", apart := false }
def ObjSamesSaid : Prop := objSamesRow.holds Try.pinned (OpenSpec.ofChange objSamesSpec)

/-- ITS FALSE NEIGHBOUR: 'it returns false'. Refute it at one input. -/
def objSamesWrong : ChangeSpec := { name := "objSames", fn := fun _ => fun
  | [d1, d2] => { results := [.lit (.bool false)], args := [d1, d2] }
  | _ => none }
def ObjSamesWrongFalsely : Prop := objSamesRow.holds Try.pinned (OpenSpec.ofChange objSamesWrong)

/-- 'logbooklaw09.ObjReads': WHATEVER THE INPUT: true; the input reads as it did. -/
def objReadsSpec : ChangeSpec := { name := "objReads", fn := fun _ => fun
  | [d1, d2] => { results := [.lit (.bool true)], args := [d1, d2] }
  | _ => none }
def objReadsRow : OpenClaim := { program := "ytdleajnecohacaa", sum := "49afb119ec61d00a201d6e964caca3b159a29fc4733d172cfd57db0c65a07a7d", func := "logbook/logbooklaw09.ObjReads", spec := "objReads", unfollowed := true, recurses := true, apart := false }
def ObjReadsSaid : Prop := objReadsRow.holds Try.pinned (OpenSpec.ofChange objReadsSpec)

/-- ITS FALSE NEIGHBOUR: 'it returns false'. Refute it at one input. -/
def objReadsWrong : ChangeSpec := { name := "objReads", fn := fun _ => fun
  | [d1, d2] => { results := [.lit (.bool false)], args := [d1, d2] }
  | _ => none }
def ObjReadsWrongFalsely : Prop := objReadsRow.holds Try.pinned (OpenSpec.ofChange objReadsWrong)

/-- 'logbooklaw09.ObjBack': WHATEVER THE INPUT: true; the input reads as it did. -/
def objBackSpec : ChangeSpec := { name := "objBack", fn := fun _ => fun
  | [d1, d2, d3] => { results := [.lit (.bool true)], args := [d1, d2, d3] }
  | _ => none }
def objBackRow : OpenClaim := { program := "ytdleajnecohacaa", sum := "49afb119ec61d00a201d6e964caca3b159a29fc4733d172cfd57db0c65a07a7d", func := "logbook/logbooklaw09.ObjBack", spec := "objBack", unfollowed := true, recurses := true, apart := false }
def ObjBackSaid : Prop := objBackRow.holds Try.pinned (OpenSpec.ofChange objBackSpec)

/-- ITS FALSE NEIGHBOUR: 'it returns false'. Refute it at one input. -/
def objBackWrong : ChangeSpec := { name := "objBack", fn := fun _ => fun
  | [d1, d2, d3] => { results := [.lit (.bool false)], args := [d1, d2, d3] }
  | _ => none }
def ObjBackWrongFalsely : Prop := objBackRow.holds Try.pinned (OpenSpec.ofChange objBackWrong)

/-- 'logbooklaw11.SlotWrites': WHATEVER THE INPUT: true; the input reads as it did. -/
def slotWritesSpec : ChangeSpec := { name := "slotWrites", fn := fun _ => fun
  | [d] => { results := [.lit (.bool true)], args := [d] }
  | _ => none }
def slotWritesRow : OpenClaim := { program := "ytdleajnecohacaa", sum := "49afb119ec61d00a201d6e964caca3b159a29fc4733d172cfd57db0c65a07a7d", func := "logbook/logbooklaw11.SlotWrites", spec := "slotWrites", apart := false }
def SlotWritesSaid : Prop := slotWritesRow.holds Try.pinned (OpenSpec.ofChange slotWritesSpec)

/-- ITS FALSE NEIGHBOUR: 'it returns false'. Refute it at one input. -/
def slotWritesWrong : ChangeSpec := { name := "slotWrites", fn := fun _ => fun
  | [d] => { results := [.lit (.bool false)], args := [d] }
  | _ => none }
def SlotWritesWrongFalsely : Prop := slotWritesRow.holds Try.pinned (OpenSpec.ofChange slotWritesWrong)

/-- 'logbooklaw11.SlotReads': WHATEVER THE INPUT: true; the input reads as it did. -/
def slotReadsSpec : ChangeSpec := { name := "slotReads", fn := fun _ => fun
  | [d] => { results := [.lit (.bool true)], args := [d] }
  | _ => none }
def slotReadsRow : OpenClaim := { program := "ytdleajnecohacaa", sum := "49afb119ec61d00a201d6e964caca3b159a29fc4733d172cfd57db0c65a07a7d", func := "logbook/logbooklaw11.SlotReads", spec := "slotReads", apart := false }
def SlotReadsSaid : Prop := slotReadsRow.holds Try.pinned (OpenSpec.ofChange slotReadsSpec)

/-- ITS FALSE NEIGHBOUR: 'it returns false'. Refute it at one input. -/
def slotReadsWrong : ChangeSpec := { name := "slotReads", fn := fun _ => fun
  | [d] => { results := [.lit (.bool false)], args := [d] }
  | _ => none }
def SlotReadsWrongFalsely : Prop := slotReadsRow.holds Try.pinned (OpenSpec.ofChange slotReadsWrong)

/-- 'logbooklaw11.SlotTurns': WHATEVER THE INPUT: true; the input reads as it did. -/
def slotTurnsSpec : ChangeSpec := { name := "slotTurns", fn := fun _ => fun
  | [d1, d2, d3] => { results := [.lit (.bool true)], args := [d1, d2, d3] }
  | _ => none }
def slotTurnsRow : OpenClaim := { program := "ytdleajnecohacaa", sum := "49afb119ec61d00a201d6e964caca3b159a29fc4733d172cfd57db0c65a07a7d", func := "logbook/logbooklaw11.SlotTurns", spec := "slotTurns", apart := false }
def SlotTurnsSaid : Prop := slotTurnsRow.holds Try.pinned (OpenSpec.ofChange slotTurnsSpec)

/-- ITS FALSE NEIGHBOUR: 'it returns false'. Refute it at one input. -/
def slotTurnsWrong : ChangeSpec := { name := "slotTurns", fn := fun _ => fun
  | [d1, d2, d3] => { results := [.lit (.bool false)], args := [d1, d2, d3] }
  | _ => none }
def SlotTurnsWrongFalsely : Prop := slotTurnsRow.holds Try.pinned (OpenSpec.ofChange slotTurnsWrong)

/-- 'logbooklaw22.NameParses': WHATEVER THE INPUT: true; the input reads as it did. -/
def nameParsesSpec : ChangeSpec := { name := "nameParses", fn := fun _ => fun
  | [d1, d2, d3] => { results := [.lit (.bool true)], args := [d1, d2, d3] }
  | _ => none }
def nameParsesRow : OpenClaim := { program := "ytdleajnecohacaa", sum := "49afb119ec61d00a201d6e964caca3b159a29fc4733d172cfd57db0c65a07a7d", func := "logbook/logbooklaw22.NameParses", spec := "nameParses", inPlace := ["internal/bytealg.IndexByteString", "internal/bytealg.IndexString"], named := ["internal/bytealg.MaxLen"], apart := false }
def NameParsesSaid : Prop := nameParsesRow.holds Try.pinned (OpenSpec.ofChange nameParsesSpec)

/-- ITS FALSE NEIGHBOUR: 'it returns false'. Refute it at one input. -/
def nameParsesWrong : ChangeSpec := { name := "nameParses", fn := fun _ => fun
  | [d1, d2, d3] => { results := [.lit (.bool false)], args := [d1, d2, d3] }
  | _ => none }
def NameParsesWrongFalsely : Prop := nameParsesRow.holds Try.pinned (OpenSpec.ofChange nameParsesWrong)

/-- 'logbooklaw22.NameChooses': WHATEVER THE INPUT: true; the input reads as it did. -/
def nameChoosesSpec : ChangeSpec := { name := "nameChooses", fn := fun _ => fun
  | [d1, d2] => { results := [.lit (.bool true)], args := [d1, d2] }
  | _ => none }
def nameChoosesRow : OpenClaim := { program := "ytdleajnecohacaa", sum := "49afb119ec61d00a201d6e964caca3b159a29fc4733d172cfd57db0c65a07a7d", func := "logbook/logbooklaw22.NameChooses", spec := "nameChooses", inPlace := ["internal/bytealg.IndexByteString", "internal/bytealg.IndexString"], named := ["internal/bytealg.MaxLen"], apart := false }
def NameChoosesSaid : Prop := nameChoosesRow.holds Try.pinned (OpenSpec.ofChange nameChoosesSpec)

/-- ITS FALSE NEIGHBOUR: 'it returns false'. Refute it at one input. -/
def nameChoosesWrong : ChangeSpec := { name := "nameChooses", fn := fun _ => fun
  | [d1, d2] => { results := [.lit (.bool false)], args := [d1, d2] }
  | _ => none }
def NameChoosesWrongFalsely : Prop := nameChoosesRow.holds Try.pinned (OpenSpec.ofChange nameChoosesWrong)

/- THE SECOND FORM. 'bulk': how many values and letters a reading holds, each counted each time it is reached (what is shared counts as often as it is met; a slice's spare places count too). A statement '..UptoSaid' is the law's where the arguments, and the package variables that the reading takes, are together of bulk at most 1048576: NARROWER than '..Said'. Prove '..Said' where nothing that the law and all that it calls make is longer than what came in: it says more and counts as full. Else prove '..UptoSaid'. A law counts once. -/
mutual
def uptoBulk {H : Type} : DataW H → Nat
  | .lit (.string bytes) => bytes.length + 1
  | .lit _ => 1
  | .nil => 1
  | .ptr d => uptoBulk d + 1
  | .slice elems spare => uptoBulkAll elems + uptoBulkAll spare + 1
  | .agg parts => uptoBulkAll parts + 1
  | .iface _ d => uptoBulk d + 1
  | .map entries => uptoBulkEntries entries + 1
  | .held _ => 1
def uptoBulkAll {H : Type} : List (DataW H) → Nat
  | [] => 0
  | d :: r => uptoBulk d + uptoBulkAll r
def uptoBulkEntries {H : Type} : List (Lit × DataW H) → Nat
  | [] => 0
  | x :: r => uptoBulkEntry x + uptoBulkEntries r
def uptoBulkEntry {H : Type} : Lit × DataW H → Nat
  | (.string bytes, d) => bytes.length + uptoBulk d + 1
  | (_, d) => uptoBulk d + 1
 end
def uptoSmall : (H : Type) → List (DataW H) → Bool := fun _ ds => decide (uptoBulkAll ds ≤ 1048576)
def OpenSpec.upto (s : _root_.Go.ChangeSpec) : _root_.Go.OpenSpec := { _root_.Go.OpenSpec.ofChange s with cond := some uptoSmall }

/-- 'logbooklaw10.HeadWrites', WHERE WHAT IT READS IS OF BULK AT MOST 1048576: true; the input reads as it did. -/
def headWritesUptoRow : OpenClaim := { program := "ytdleajnecohacaa", sum := "49afb119ec61d00a201d6e964caca3b159a29fc4733d172cfd57db0c65a07a7d", func := "logbook/logbooklaw10.HeadWrites", spec := "headWrites", apart := false, narrowed := true }
def HeadWritesUptoSaid : Prop := headWritesUptoRow.holds Try.pinned (OpenSpec.upto headWritesSpec)

/-- 'logbooklaw10.HeadReads', WHERE WHAT IT READS IS OF BULK AT MOST 1048576: true; the input reads as it did. -/
def headReadsUptoRow : OpenClaim := { program := "ytdleajnecohacaa", sum := "49afb119ec61d00a201d6e964caca3b159a29fc4733d172cfd57db0c65a07a7d", func := "logbook/logbooklaw10.HeadReads", spec := "headReads", apart := false, narrowed := true }
def HeadReadsUptoSaid : Prop := headReadsUptoRow.holds Try.pinned (OpenSpec.upto headReadsSpec)

/-- 'logbooklaw10.HeadBack', WHERE WHAT IT READS IS OF BULK AT MOST 1048576: true; the input reads as it did. -/
def headBackUptoRow : OpenClaim := { program := "ytdleajnecohacaa", sum := "49afb119ec61d00a201d6e964caca3b159a29fc4733d172cfd57db0c65a07a7d", func := "logbook/logbooklaw10.HeadBack", spec := "headBack", apart := false, narrowed := true }
def HeadBackUptoSaid : Prop := headBackUptoRow.holds Try.pinned (OpenSpec.upto headBackSpec)

/-- 'logbooklaw09.ObjWrites', WHERE WHAT IT READS IS OF BULK AT MOST 1048576: true; the input reads as it did. -/
def objWritesUptoRow : OpenClaim := { program := "ytdleajnecohacaa", sum := "49afb119ec61d00a201d6e964caca3b159a29fc4733d172cfd57db0c65a07a7d", func := "logbook/logbooklaw09.ObjWrites", spec := "objWrites", apart := false, narrowed := true }
def ObjWritesUptoSaid : Prop := objWritesUptoRow.holds Try.pinned (OpenSpec.upto objWritesSpec)

/-- 'logbooklaw09.ObjSames', WHERE WHAT IT READS IS OF BULK AT MOST 1048576: true; the input reads as it did. -/
def objSamesUptoRow : OpenClaim := { program := "ytdleajnecohacaa", sum := "49afb119ec61d00a201d6e964caca3b159a29fc4733d172cfd57db0c65a07a7d", func := "logbook/logbooklaw09.ObjSames", spec := "objSames", apart := false, narrowed := true }
def ObjSamesUptoSaid : Prop := objSamesUptoRow.holds Try.pinned (OpenSpec.upto objSamesSpec)

/-- 'logbooklaw09.ObjReads', WHERE WHAT IT READS IS OF BULK AT MOST 1048576: true; the input reads as it did. -/
def objReadsUptoRow : OpenClaim := { program := "ytdleajnecohacaa", sum := "49afb119ec61d00a201d6e964caca3b159a29fc4733d172cfd57db0c65a07a7d", func := "logbook/logbooklaw09.ObjReads", spec := "objReads", unfollowed := true, recurses := true, apart := false, narrowed := true }
def ObjReadsUptoSaid : Prop := objReadsUptoRow.holds Try.pinned (OpenSpec.upto objReadsSpec)

/-- 'logbooklaw09.ObjBack', WHERE WHAT IT READS IS OF BULK AT MOST 1048576: true; the input reads as it did. -/
def objBackUptoRow : OpenClaim := { program := "ytdleajnecohacaa", sum := "49afb119ec61d00a201d6e964caca3b159a29fc4733d172cfd57db0c65a07a7d", func := "logbook/logbooklaw09.ObjBack", spec := "objBack", unfollowed := true, recurses := true, apart := false, narrowed := true }
def ObjBackUptoSaid : Prop := objBackUptoRow.holds Try.pinned (OpenSpec.upto objBackSpec)

/-- 'logbooklaw11.SlotWrites', WHERE WHAT IT READS IS OF BULK AT MOST 1048576: true; the input reads as it did. -/
def slotWritesUptoRow : OpenClaim := { program := "ytdleajnecohacaa", sum := "49afb119ec61d00a201d6e964caca3b159a29fc4733d172cfd57db0c65a07a7d", func := "logbook/logbooklaw11.SlotWrites", spec := "slotWrites", apart := false, narrowed := true }
def SlotWritesUptoSaid : Prop := slotWritesUptoRow.holds Try.pinned (OpenSpec.upto slotWritesSpec)

/-- 'logbooklaw11.SlotReads', WHERE WHAT IT READS IS OF BULK AT MOST 1048576: true; the input reads as it did. -/
def slotReadsUptoRow : OpenClaim := { program := "ytdleajnecohacaa", sum := "49afb119ec61d00a201d6e964caca3b159a29fc4733d172cfd57db0c65a07a7d", func := "logbook/logbooklaw11.SlotReads", spec := "slotReads", apart := false, narrowed := true }
def SlotReadsUptoSaid : Prop := slotReadsUptoRow.holds Try.pinned (OpenSpec.upto slotReadsSpec)

/-- 'logbooklaw11.SlotTurns', WHERE WHAT IT READS IS OF BULK AT MOST 1048576: true; the input reads as it did. -/
def slotTurnsUptoRow : OpenClaim := { program := "ytdleajnecohacaa", sum := "49afb119ec61d00a201d6e964caca3b159a29fc4733d172cfd57db0c65a07a7d", func := "logbook/logbooklaw11.SlotTurns", spec := "slotTurns", apart := false, narrowed := true }
def SlotTurnsUptoSaid : Prop := slotTurnsUptoRow.holds Try.pinned (OpenSpec.upto slotTurnsSpec)

/-- 'logbooklaw22.NameParses', WHERE WHAT IT READS IS OF BULK AT MOST 1048576: true; the input reads as it did. -/
def nameParsesUptoRow : OpenClaim := { program := "ytdleajnecohacaa", sum := "49afb119ec61d00a201d6e964caca3b159a29fc4733d172cfd57db0c65a07a7d", func := "logbook/logbooklaw22.NameParses", spec := "nameParses", inPlace := ["internal/bytealg.IndexByteString", "internal/bytealg.IndexString"], named := ["internal/bytealg.MaxLen"], apart := false, narrowed := true }
def NameParsesUptoSaid : Prop := nameParsesUptoRow.holds Try.pinned (OpenSpec.upto nameParsesSpec)

/-- 'logbooklaw22.NameChooses', WHERE WHAT IT READS IS OF BULK AT MOST 1048576: true; the input reads as it did. -/
def nameChoosesUptoRow : OpenClaim := { program := "ytdleajnecohacaa", sum := "49afb119ec61d00a201d6e964caca3b159a29fc4733d172cfd57db0c65a07a7d", func := "logbook/logbooklaw22.NameChooses", spec := "nameChooses", inPlace := ["internal/bytealg.IndexByteString", "internal/bytealg.IndexString"], named := ["internal/bytealg.MaxLen"], apart := false, narrowed := true }
def NameChoosesUptoSaid : Prop := nameChoosesUptoRow.holds Try.pinned (OpenSpec.upto nameChoosesSpec)

end Rows
end Go.Proofs.Ytdleajnecohacaa
