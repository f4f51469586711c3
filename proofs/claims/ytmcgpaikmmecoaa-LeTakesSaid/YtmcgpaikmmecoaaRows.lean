/-
  No cell of these rows narrows 'for every input' (looked for: loops, veiled, ifaces, maps, wideKeys, modest, calm, conditions, laid).
  DERIVED. THE GIVEN ROWS OF THIS SEAT. 9 by the template 'for every input the law returns true; each argument reads behind the call as it read before'; 0 by the template 'total and deterministic' (their statements: YtmcgpaikmmecoaaTotals.lean).
  GIVEN WITH THE SEED: the statements are not yours to turn. If you find one false, say at which input.
  Laid BY PROGRAM, IN A SANDBOX (cutbox-rows.mjs): the forced cells as the released guide's own fill.sh prints them over the translation 0af4994c4597fbe9… (all of the seat's roots in one cut). By AI agents, Wed Nov 11 2026. No macro, syntax, notation, axiom, sorry.
-/
import Derived.Test.YtmcgpaikmmecoaaChecked
import GoSem.Claim
import GoSem.ClaimJoined
import GoSem.ClaimMapViews
import Derived.JoinedTies
import Derived.KernelRfl
namespace Go.Proofs.Ytmcgpaikmmecoaa
/- THE CELL 'sum', in the pinned program and in every row, IS THE sha256 OF THE DUMP (.gsa) THAT YtmcgpaikmmecoaaProg.lean LOADS. Nothing in Lean hashes anything: it is a label: what it is worth is what the hold of that sum in a sandbox is worth. -/
noncomputable def Try.pinned : Pinned := { name := "ytmcgpaikmmecoaa", sum := "0af4994c4597fbe9fe387577821a57d4ae22d5b19764634c2fd007bb54bb87d1", checked := Try.checked }
namespace Rows
def none {H : Type} : Left H := { results := [], args := [] }

/-- 'logbooklaw22.NameOrders': WHATEVER THE INPUT: true; the input reads as it did. -/
def nameOrdersSpec : ChangeSpec := { name := "nameOrders", fn := fun _ => fun
  | [d1, d2, d3] => { results := [.lit (.bool true)], args := [d1, d2, d3] }
  | _ => none }
def nameOrdersRow : OpenClaim := { program := "ytmcgpaikmmecoaa", sum := "0af4994c4597fbe9fe387577821a57d4ae22d5b19764634c2fd007bb54bb87d1", func := "logbook/logbooklaw22.NameOrders", spec := "nameOrders", apart := false }
def NameOrdersSaid : Prop := nameOrdersRow.holds Try.pinned (OpenSpec.ofChange nameOrdersSpec)

/-- ITS FALSE NEIGHBOUR: 'it returns false'. Refute it at one input. -/
def nameOrdersWrong : ChangeSpec := { name := "nameOrders", fn := fun _ => fun
  | [d1, d2, d3] => { results := [.lit (.bool false)], args := [d1, d2, d3] }
  | _ => none }
def NameOrdersWrongFalsely : Prop := nameOrdersRow.holds Try.pinned (OpenSpec.ofChange nameOrdersWrong)

/-- 'logbooklaw01.LeWrites': WHATEVER THE INPUT: true; the input reads as it did. -/
def leWritesSpec : ChangeSpec := { name := "leWrites", fn := fun _ => fun
  | [d1, d2, d3] => { results := [.lit (.bool true)], args := [d1, d2, d3] }
  | _ => none }
def leWritesRow : OpenClaim := { program := "ytmcgpaikmmecoaa", sum := "0af4994c4597fbe9fe387577821a57d4ae22d5b19764634c2fd007bb54bb87d1", func := "logbook/logbooklaw01.LeWrites", spec := "leWrites", apart := false }
def LeWritesSaid : Prop := leWritesRow.holds Try.pinned (OpenSpec.ofChange leWritesSpec)

/-- ITS FALSE NEIGHBOUR: 'it returns false'. Refute it at one input. -/
def leWritesWrong : ChangeSpec := { name := "leWrites", fn := fun _ => fun
  | [d1, d2, d3] => { results := [.lit (.bool false)], args := [d1, d2, d3] }
  | _ => none }
def LeWritesWrongFalsely : Prop := leWritesRow.holds Try.pinned (OpenSpec.ofChange leWritesWrong)

/-- 'logbooklaw01.LeNumbers': WHATEVER THE INPUT: true; the input reads as it did. -/
def leNumbersSpec : ChangeSpec := { name := "leNumbers", fn := fun _ => fun
  | [d1, d2, d3] => { results := [.lit (.bool true)], args := [d1, d2, d3] }
  | _ => none }
def leNumbersRow : OpenClaim := { program := "ytmcgpaikmmecoaa", sum := "0af4994c4597fbe9fe387577821a57d4ae22d5b19764634c2fd007bb54bb87d1", func := "logbook/logbooklaw01.LeNumbers", spec := "leNumbers", apart := false }
def LeNumbersSaid : Prop := leNumbersRow.holds Try.pinned (OpenSpec.ofChange leNumbersSpec)

/-- ITS FALSE NEIGHBOUR: 'it returns false'. Refute it at one input. -/
def leNumbersWrong : ChangeSpec := { name := "leNumbers", fn := fun _ => fun
  | [d1, d2, d3] => { results := [.lit (.bool false)], args := [d1, d2, d3] }
  | _ => none }
def LeNumbersWrongFalsely : Prop := leNumbersRow.holds Try.pinned (OpenSpec.ofChange leNumbersWrong)

/-- 'logbooklaw22.NameNumbers': WHATEVER THE INPUT: true; the input reads as it did. -/
def nameNumbersSpec : ChangeSpec := { name := "nameNumbers", fn := fun _ => fun
  | [d1, d2] => { results := [.lit (.bool true)], args := [d1, d2] }
  | _ => none }
def nameNumbersRow : OpenClaim := { program := "ytmcgpaikmmecoaa", sum := "0af4994c4597fbe9fe387577821a57d4ae22d5b19764634c2fd007bb54bb87d1", func := "logbook/logbooklaw22.NameNumbers", spec := "nameNumbers", apart := false }
def NameNumbersSaid : Prop := nameNumbersRow.holds Try.pinned (OpenSpec.ofChange nameNumbersSpec)

/-- ITS FALSE NEIGHBOUR: 'it returns false'. Refute it at one input. -/
def nameNumbersWrong : ChangeSpec := { name := "nameNumbers", fn := fun _ => fun
  | [d1, d2] => { results := [.lit (.bool false)], args := [d1, d2] }
  | _ => none }
def NameNumbersWrongFalsely : Prop := nameNumbersRow.holds Try.pinned (OpenSpec.ofChange nameNumbersWrong)

/-- 'logbooklaw01.LePuts': WHATEVER THE INPUT: true; the input reads as it did. -/
def lePutsSpec : ChangeSpec := { name := "lePuts", fn := fun _ => fun
  | [d] => { results := [.lit (.bool true)], args := [d] }
  | _ => none }
def lePutsRow : OpenClaim := { program := "ytmcgpaikmmecoaa", sum := "0af4994c4597fbe9fe387577821a57d4ae22d5b19764634c2fd007bb54bb87d1", func := "logbook/logbooklaw01.LePuts", spec := "lePuts", apart := false }
def LePutsSaid : Prop := lePutsRow.holds Try.pinned (OpenSpec.ofChange lePutsSpec)

/-- ITS FALSE NEIGHBOUR: 'it returns false'. Refute it at one input. -/
def lePutsWrong : ChangeSpec := { name := "lePuts", fn := fun _ => fun
  | [d] => { results := [.lit (.bool false)], args := [d] }
  | _ => none }
def LePutsWrongFalsely : Prop := lePutsRow.holds Try.pinned (OpenSpec.ofChange lePutsWrong)

/-- 'logbooklaw01.LeTakes': WHATEVER THE INPUT: true; the input reads as it did. -/
def leTakesSpec : ChangeSpec := { name := "leTakes", fn := fun _ => fun
  | [d1, d2, d3] => { results := [.lit (.bool true)], args := [d1, d2, d3] }
  | _ => none }
def leTakesRow : OpenClaim := { program := "ytmcgpaikmmecoaa", sum := "0af4994c4597fbe9fe387577821a57d4ae22d5b19764634c2fd007bb54bb87d1", func := "logbook/logbooklaw01.LeTakes", spec := "leTakes", apart := false }
def LeTakesSaid : Prop := leTakesRow.holds Try.pinned (OpenSpec.ofChange leTakesSpec)

/-- ITS FALSE NEIGHBOUR: 'it returns false'. Refute it at one input. -/
def leTakesWrong : ChangeSpec := { name := "leTakes", fn := fun _ => fun
  | [d1, d2, d3] => { results := [.lit (.bool false)], args := [d1, d2, d3] }
  | _ => none }
def LeTakesWrongFalsely : Prop := leTakesRow.holds Try.pinned (OpenSpec.ofChange leTakesWrong)

/-- 'logbooklaw01.LeBack': WHATEVER THE INPUT: true; the input reads as it did. -/
def leBackSpec : ChangeSpec := { name := "leBack", fn := fun _ => fun
  | [d1, d2, d3] => { results := [.lit (.bool true)], args := [d1, d2, d3] }
  | _ => none }
def leBackRow : OpenClaim := { program := "ytmcgpaikmmecoaa", sum := "0af4994c4597fbe9fe387577821a57d4ae22d5b19764634c2fd007bb54bb87d1", func := "logbook/logbooklaw01.LeBack", spec := "leBack", apart := false }
def LeBackSaid : Prop := leBackRow.holds Try.pinned (OpenSpec.ofChange leBackSpec)

/-- ITS FALSE NEIGHBOUR: 'it returns false'. Refute it at one input. -/
def leBackWrong : ChangeSpec := { name := "leBack", fn := fun _ => fun
  | [d1, d2, d3] => { results := [.lit (.bool false)], args := [d1, d2, d3] }
  | _ => none }
def LeBackWrongFalsely : Prop := leBackRow.holds Try.pinned (OpenSpec.ofChange leBackWrong)

/-- 'logbooklaw22.NameParses': WHATEVER THE INPUT: true; the input reads as it did. -/
def nameParsesSpec : ChangeSpec := { name := "nameParses", fn := fun _ => fun
  | [d1, d2, d3] => { results := [.lit (.bool true)], args := [d1, d2, d3] }
  | _ => none }
def nameParsesRow : OpenClaim := { program := "ytmcgpaikmmecoaa", sum := "0af4994c4597fbe9fe387577821a57d4ae22d5b19764634c2fd007bb54bb87d1", func := "logbook/logbooklaw22.NameParses", spec := "nameParses", inPlace := ["internal/bytealg.IndexByteString", "internal/bytealg.IndexString"], named := ["internal/bytealg.MaxLen"], apart := false }
def NameParsesSaid : Prop := nameParsesRow.holds Try.pinned (OpenSpec.ofChange nameParsesSpec)

/-- ITS FALSE NEIGHBOUR: 'it returns false'. Refute it at one input. -/
def nameParsesWrong : ChangeSpec := { name := "nameParses", fn := fun _ => fun
  | [d1, d2, d3] => { results := [.lit (.bool false)], args := [d1, d2, d3] }
  | _ => none }
def NameParsesWrongFalsely : Prop := nameParsesRow.holds Try.pinned (OpenSpec.ofChange nameParsesWrong)

/-- 'logbooklaw22.NameChooses': WHATEVER THE INPUT: true; the input reads as it did. -/
def nameChoosesSpec : ChangeSpec := { name := "nameChooses", fn := fun _ => fun
  | [d1, d2] => { results := [.lit (.bool true)], args := [d1, d2] }
  | _ => none }
def nameChoosesRow : OpenClaim := { program := "ytmcgpaikmmecoaa", sum := "0af4994c4597fbe9fe387577821a57d4ae22d5b19764634c2fd007bb54bb87d1", func := "logbook/logbooklaw22.NameChooses", spec := "nameChooses", inPlace := ["internal/bytealg.IndexByteString", "internal/bytealg.IndexString"], named := ["internal/bytealg.MaxLen"], apart := false }
def NameChoosesSaid : Prop := nameChoosesRow.holds Try.pinned (OpenSpec.ofChange nameChoosesSpec)

/-- ITS FALSE NEIGHBOUR: 'it returns false'. Refute it at one input. -/
def nameChoosesWrong : ChangeSpec := { name := "nameChooses", fn := fun _ => fun
  | [d1, d2] => { results := [.lit (.bool false)], args := [d1, d2] }
  | _ => none }
def NameChoosesWrongFalsely : Prop := nameChoosesRow.holds Try.pinned (OpenSpec.ofChange nameChoosesWrong)

/- THE SECOND FORM. 'bulk': how many values and letters a reading holds, each counted each time it is reached (what is shared counts as often as it is met; a slice's spare places count too). A statement '..UptoSaid' is the law's where the arguments, and the package variables that the reading takes, are together of bulk at most 1048576: NARROWER than '..Said'. Prove '..Said' where nothing that the law and all that it calls make is longer than what came in: it says more and counts as full. Else prove '..UptoSaid'. A law counts once. -/
mutual
def uptoBulk {H : Type} : DataW H → Nat
  | .lit (.string bytes) => bytes.length + 1
  | .lit _ => 1
  | .nil => 1
  | .ptr d => uptoBulk d + 1
  | .slice elems spare => uptoBulkAll elems + uptoBulkAll spare + 1
  | .agg parts => uptoBulkAll parts + 1
  | .iface _ d => uptoBulk d + 1
  | .map entries => uptoBulkEntries entries + 1
  | .held _ => 1
def uptoBulkAll {H : Type} : List (DataW H) → Nat
  | [] => 0
  | d :: r => uptoBulk d + uptoBulkAll r
def uptoBulkEntries {H : Type} : List (Lit × DataW H) → Nat
  | [] => 0
  | x :: r => uptoBulkEntry x + uptoBulkEntries r
def uptoBulkEntry {H : Type} : Lit × DataW H → Nat
  | (.string bytes, d) => bytes.length + uptoBulk d + 1
  | (_, d) => uptoBulk d + 1
 end
def uptoSmall : (H : Type) → List (DataW H) → Bool := fun _ ds => decide (uptoBulkAll ds ≤ 1048576)
def OpenSpec.upto (s : _root_.Go.ChangeSpec) : _root_.Go.OpenSpec := { _root_.Go.OpenSpec.ofChange s with cond := some uptoSmall }

/-- 'logbooklaw22.NameOrders', WHERE WHAT IT READS IS OF BULK AT MOST 1048576: true; the input reads as it did. -/
def nameOrdersUptoRow : OpenClaim := { program := "ytmcgpaikmmecoaa", sum := "0af4994c4597fbe9fe387577821a57d4ae22d5b19764634c2fd007bb54bb87d1", func := "logbook/logbooklaw22.NameOrders", spec := "nameOrders", apart := false, narrowed := true }
def NameOrdersUptoSaid : Prop := nameOrdersUptoRow.holds Try.pinned (OpenSpec.upto nameOrdersSpec)

/-- 'logbooklaw01.LeWrites', WHERE WHAT IT READS IS OF BULK AT MOST 1048576: true; the input reads as it did. -/
def leWritesUptoRow : OpenClaim := { program := "ytmcgpaikmmecoaa", sum := "0af4994c4597fbe9fe387577821a57d4ae22d5b19764634c2fd007bb54bb87d1", func := "logbook/logbooklaw01.LeWrites", spec := "leWrites", apart := false, narrowed := true }
def LeWritesUptoSaid : Prop := leWritesUptoRow.holds Try.pinned (OpenSpec.upto leWritesSpec)

/-- 'logbooklaw01.LeNumbers', WHERE WHAT IT READS IS OF BULK AT MOST 1048576: true; the input reads as it did. -/
def leNumbersUptoRow : OpenClaim := { program := "ytmcgpaikmmecoaa", sum := "0af4994c4597fbe9fe387577821a57d4ae22d5b19764634c2fd007bb54bb87d1", func := "logbook/logbooklaw01.LeNumbers", spec := "leNumbers", apart := false, narrowed := true }
def LeNumbersUptoSaid : Prop := leNumbersUptoRow.holds Try.pinned (OpenSpec.upto leNumbersSpec)

/-- 'logbooklaw22.NameNumbers', WHERE WHAT IT READS IS OF BULK AT MOST 1048576: true; the input reads as it did. -/
def nameNumbersUptoRow : OpenClaim := { program := "ytmcgpaikmmecoaa", sum := "0af4994c4597fbe9fe387577821a57d4ae22d5b19764634c2fd007bb54bb87d1", func := "logbook/logbooklaw22.NameNumbers", spec := "nameNumbers", apart := false, narrowed := true }
def NameNumbersUptoSaid : Prop := nameNumbersUptoRow.holds Try.pinned (OpenSpec.upto nameNumbersSpec)

/-- 'logbooklaw01.LePuts', WHERE WHAT IT READS IS OF BULK AT MOST 1048576: true; the input reads as it did. -/
def lePutsUptoRow : OpenClaim := { program := "ytmcgpaikmmecoaa", sum := "0af4994c4597fbe9fe387577821a57d4ae22d5b19764634c2fd007bb54bb87d1", func := "logbook/logbooklaw01.LePuts", spec := "lePuts", apart := false, narrowed := true }
def LePutsUptoSaid : Prop := lePutsUptoRow.holds Try.pinned (OpenSpec.upto lePutsSpec)

/-- 'logbooklaw01.LeTakes', WHERE WHAT IT READS IS OF BULK AT MOST 1048576: true; the input reads as it did. -/
def leTakesUptoRow : OpenClaim := { program := "ytmcgpaikmmecoaa", sum := "0af4994c4597fbe9fe387577821a57d4ae22d5b19764634c2fd007bb54bb87d1", func := "logbook/logbooklaw01.LeTakes", spec := "leTakes", apart := false, narrowed := true }
def LeTakesUptoSaid : Prop := leTakesUptoRow.holds Try.pinned (OpenSpec.upto leTakesSpec)

/-- 'logbooklaw01.LeBack', WHERE WHAT IT READS IS OF BULK AT MOST 1048576: true; the input reads as it did. -/
def leBackUptoRow : OpenClaim := { program := "ytmcgpaikmmecoaa", sum := "0af4994c4597fbe9fe387577821a57d4ae22d5b19764634c2fd007bb54bb87d1", func := "logbook/logbooklaw01.LeBack", spec := "leBack", apart := false, narrowed := true }
def LeBackUptoSaid : Prop := leBackUptoRow.holds Try.pinned (OpenSpec.upto leBackSpec)

/-- 'logbooklaw22.NameParses', WHERE WHAT IT READS IS OF BULK AT MOST 1048576: true; the input reads as it did. -/
def nameParsesUptoRow : OpenClaim := { program := "ytmcgpaikmmecoaa", sum := "0af4994c4597fbe9fe387577821a57d4ae22d5b19764634c2fd007bb54bb87d1", func := "logbook/logbooklaw22.NameParses", spec := "nameParses", inPlace := ["internal/bytealg.IndexByteString", "internal/bytealg.IndexString"], named := ["internal/bytealg.MaxLen"], apart := false, narrowed := true }
def NameParsesUptoSaid : Prop := nameParsesUptoRow.holds Try.pinned (OpenSpec.upto nameParsesSpec)

/-- 'logbooklaw22.NameChooses', WHERE WHAT IT READS IS OF BULK AT MOST 1048576: true; the input reads as it did. -/
def nameChoosesUptoRow : OpenClaim := { program := "ytmcgpaikmmecoaa", sum := "0af4994c4597fbe9fe387577821a57d4ae22d5b19764634c2fd007bb54bb87d1", func := "logbook/logbooklaw22.NameChooses", spec := "nameChooses", inPlace := ["internal/bytealg.IndexByteString", "internal/bytealg.IndexString"], named := ["internal/bytealg.MaxLen"], apart := false, narrowed := true }
def NameChoosesUptoSaid : Prop := nameChoosesUptoRow.holds Try.pinned (OpenSpec.upto nameChoosesSpec)

end Rows
end Go.Proofs.Ytmcgpaikmmecoaa
