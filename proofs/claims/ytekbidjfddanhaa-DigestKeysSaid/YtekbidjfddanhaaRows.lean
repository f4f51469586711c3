/-
  No cell of these rows narrows 'for every input' (looked for: loops, veiled, ifaces, maps, wideKeys, modest, calm, conditions, laid).
  DERIVED. THE GIVEN ROWS OF THIS SEAT. 12 by the template 'for every input the law returns true; each argument reads behind the call as it read before'; 0 by the template 'total and deterministic' (their statements: YtekbidjfddanhaaTotals.lean).
  GIVEN WITH THE SEED: the statements are not yours to turn. If you find one false, say at which input.
  Laid BY PROGRAM, IN A SANDBOX (cutbox-rows.mjs): the forced cells as the released guide's own fill.sh prints them over the translation 7d8e2ec37a10fd6e… (all of the seat's roots in one cut). By AI agents, Wed Nov 11 2026. No macro, syntax, notation, axiom, sorry.
-/
import Derived.Test.YtekbidjfddanhaaChecked
import GoSem.Claim
import GoSem.ClaimJoined
import GoSem.ClaimMapViews
import Derived.JoinedTies
import Derived.KernelRfl
namespace Go.Proofs.Ytekbidjfddanhaa
/- THE CELL 'sum', in the pinned program and in every row, IS THE sha256 OF THE DUMP (.gsa) THAT YtekbidjfddanhaaProg.lean LOADS. Nothing in Lean hashes anything: it is a label: what it is worth is what the hold of that sum in a sandbox is worth. -/
noncomputable def Try.pinned : Pinned := { name := "ytekbidjfddanhaa", sum := "7d8e2ec37a10fd6e7d08340e895d62a0163695405c0beaf52827333ffe1e15fa", checked := Try.checked }
namespace Rows
def none {H : Type} : Left H := { results := [], args := [] }

/-- 'logbooklaw34.CivilMonths': WHATEVER THE INPUT: true; the input reads as it did. -/
def civilMonthsSpec : ChangeSpec := { name := "civilMonths", fn := fun _ => fun
  | [d1, d2] => { results := [.lit (.bool true)], args := [d1, d2] }
  | _ => none }
def civilMonthsRow : OpenClaim := { program := "ytekbidjfddanhaa", sum := "7d8e2ec37a10fd6e7d08340e895d62a0163695405c0beaf52827333ffe1e15fa", func := "logbook/logbooklaw34.CivilMonths", spec := "civilMonths", apart := false }
def CivilMonthsSaid : Prop := civilMonthsRow.holds Try.pinned (OpenSpec.ofChange civilMonthsSpec)

/-- ITS FALSE NEIGHBOUR: 'it returns false'. Refute it at one input. -/
def civilMonthsWrong : ChangeSpec := { name := "civilMonths", fn := fun _ => fun
  | [d1, d2] => { results := [.lit (.bool false)], args := [d1, d2] }
  | _ => none }
def CivilMonthsWrongFalsely : Prop := civilMonthsRow.holds Try.pinned (OpenSpec.ofChange civilMonthsWrong)

/-- 'logbooklaw34.CivilTells': WHATEVER THE INPUT: true; the input reads as it did. -/
def civilTellsSpec : ChangeSpec := { name := "civilTells", fn := fun _ => fun
  | [d] => { results := [.lit (.bool true)], args := [d] }
  | _ => none }
def civilTellsRow : OpenClaim := { program := "ytekbidjfddanhaa", sum := "7d8e2ec37a10fd6e7d08340e895d62a0163695405c0beaf52827333ffe1e15fa", func := "logbook/logbooklaw34.CivilTells", spec := "civilTells", unfollowed := true, recurses := true, apart := false }
def CivilTellsSaid : Prop := civilTellsRow.holds Try.pinned (OpenSpec.ofChange civilTellsSpec)

/-- ITS FALSE NEIGHBOUR: 'it returns false'. Refute it at one input. -/
def civilTellsWrong : ChangeSpec := { name := "civilTells", fn := fun _ => fun
  | [d] => { results := [.lit (.bool false)], args := [d] }
  | _ => none }
def CivilTellsWrongFalsely : Prop := civilTellsRow.holds Try.pinned (OpenSpec.ofChange civilTellsWrong)

/-- 'logbooklaw34.CivilCounts': WHATEVER THE INPUT: true; the input reads as it did. -/
def civilCountsSpec : ChangeSpec := { name := "civilCounts", fn := fun _ => fun
  | [d] => { results := [.lit (.bool true)], args := [d] }
  | _ => none }
def civilCountsRow : OpenClaim := { program := "ytekbidjfddanhaa", sum := "7d8e2ec37a10fd6e7d08340e895d62a0163695405c0beaf52827333ffe1e15fa", func := "logbook/logbooklaw34.CivilCounts", spec := "civilCounts", unfollowed := true, recurses := true, apart := false }
def CivilCountsSaid : Prop := civilCountsRow.holds Try.pinned (OpenSpec.ofChange civilCountsSpec)

/-- ITS FALSE NEIGHBOUR: 'it returns false'. Refute it at one input. -/
def civilCountsWrong : ChangeSpec := { name := "civilCounts", fn := fun _ => fun
  | [d] => { results := [.lit (.bool false)], args := [d] }
  | _ => none }
def CivilCountsWrongFalsely : Prop := civilCountsRow.holds Try.pinned (OpenSpec.ofChange civilCountsWrong)

/-- 'logbooklaw34.CivilOrders': WHATEVER THE INPUT: true; the input reads as it did. -/
def civilOrdersSpec : ChangeSpec := { name := "civilOrders", fn := fun _ => fun
  | [d1, d2] => { results := [.lit (.bool true)], args := [d1, d2] }
  | _ => none }
def civilOrdersRow : OpenClaim := { program := "ytekbidjfddanhaa", sum := "7d8e2ec37a10fd6e7d08340e895d62a0163695405c0beaf52827333ffe1e15fa", func := "logbook/logbooklaw34.CivilOrders", spec := "civilOrders", unfollowed := true, recurses := true, apart := false }
def CivilOrdersSaid : Prop := civilOrdersRow.holds Try.pinned (OpenSpec.ofChange civilOrdersSpec)

/-- ITS FALSE NEIGHBOUR: 'it returns false'. Refute it at one input. -/
def civilOrdersWrong : ChangeSpec := { name := "civilOrders", fn := fun _ => fun
  | [d1, d2] => { results := [.lit (.bool false)], args := [d1, d2] }
  | _ => none }
def CivilOrdersWrongFalsely : Prop := civilOrdersRow.holds Try.pinned (OpenSpec.ofChange civilOrdersWrong)

/-- 'logbooklaw34.CivilReads': WHATEVER THE INPUT: true; the input reads as it did. -/
def civilReadsSpec : ChangeSpec := { name := "civilReads", fn := fun _ => fun
  | [d] => { results := [.lit (.bool true)], args := [d] }
  | _ => none }
def civilReadsRow : OpenClaim := { program := "ytekbidjfddanhaa", sum := "7d8e2ec37a10fd6e7d08340e895d62a0163695405c0beaf52827333ffe1e15fa", func := "logbook/logbooklaw34.CivilReads", spec := "civilReads", unfollowed := true, recurses := true, apart := false }
def CivilReadsSaid : Prop := civilReadsRow.holds Try.pinned (OpenSpec.ofChange civilReadsSpec)

/-- ITS FALSE NEIGHBOUR: 'it returns false'. Refute it at one input. -/
def civilReadsWrong : ChangeSpec := { name := "civilReads", fn := fun _ => fun
  | [d] => { results := [.lit (.bool false)], args := [d] }
  | _ => none }
def CivilReadsWrongFalsely : Prop := civilReadsRow.holds Try.pinned (OpenSpec.ofChange civilReadsWrong)

/-- 'logbooklaw34.CivilTexts': WHATEVER THE INPUT: true; the input reads as it did. -/
def civilTextsSpec : ChangeSpec := { name := "civilTexts", fn := fun _ => fun
  | [d1, d2] => { results := [.lit (.bool true)], args := [d1, d2] }
  | _ => none }
def civilTextsRow : OpenClaim := { program := "ytekbidjfddanhaa", sum := "7d8e2ec37a10fd6e7d08340e895d62a0163695405c0beaf52827333ffe1e15fa", func := "logbook/logbooklaw34.CivilTexts", spec := "civilTexts", unfollowed := true, recurses := true, apart := false }
def CivilTextsSaid : Prop := civilTextsRow.holds Try.pinned (OpenSpec.ofChange civilTextsSpec)

/-- ITS FALSE NEIGHBOUR: 'it returns false'. Refute it at one input. -/
def civilTextsWrong : ChangeSpec := { name := "civilTexts", fn := fun _ => fun
  | [d1, d2] => { results := [.lit (.bool false)], args := [d1, d2] }
  | _ => none }
def CivilTextsWrongFalsely : Prop := civilTextsRow.holds Try.pinned (OpenSpec.ofChange civilTextsWrong)

/-- 'logbooklaw42.PackBack': WHATEVER THE INPUT: true; the input reads as it did. -/
def packBackSpec : ChangeSpec := { name := "packBack", fn := fun _ => fun
  | [d] => { results := [.lit (.bool true)], args := [d] }
  | _ => none }
def packBackRow : OpenClaim := { program := "ytekbidjfddanhaa", sum := "7d8e2ec37a10fd6e7d08340e895d62a0163695405c0beaf52827333ffe1e15fa", func := "logbook/logbooklaw42.PackBack", spec := "packBack", apart := false }
def PackBackSaid : Prop := packBackRow.holds Try.pinned (OpenSpec.ofChange packBackSpec)

/-- ITS FALSE NEIGHBOUR: 'it returns false'. Refute it at one input. -/
def packBackWrong : ChangeSpec := { name := "packBack", fn := fun _ => fun
  | [d] => { results := [.lit (.bool false)], args := [d] }
  | _ => none }
def PackBackWrongFalsely : Prop := packBackRow.holds Try.pinned (OpenSpec.ofChange packBackWrong)

/-- 'logbooklaw02.MixParts': WHATEVER THE INPUT: true; the input reads as it did. -/
def mixPartsSpec : ChangeSpec := { name := "mixParts", fn := fun _ => fun
  | [d1, d2] => { results := [.lit (.bool true)], args := [d1, d2] }
  | _ => none }
def mixPartsRow : OpenClaim := { program := "ytekbidjfddanhaa", sum := "7d8e2ec37a10fd6e7d08340e895d62a0163695405c0beaf52827333ffe1e15fa", func := "logbook/logbooklaw02.MixParts", spec := "mixParts", apart := false }
def MixPartsSaid : Prop := mixPartsRow.holds Try.pinned (OpenSpec.ofChange mixPartsSpec)

/-- ITS FALSE NEIGHBOUR: 'it returns false'. Refute it at one input. -/
def mixPartsWrong : ChangeSpec := { name := "mixParts", fn := fun _ => fun
  | [d1, d2] => { results := [.lit (.bool false)], args := [d1, d2] }
  | _ => none }
def MixPartsWrongFalsely : Prop := mixPartsRow.holds Try.pinned (OpenSpec.ofChange mixPartsWrong)

/-- 'logbooklaw44.DigestSums': WHATEVER THE INPUT: true; the input reads as it did. -/
def digestSumsSpec : ChangeSpec := { name := "digestSums", fn := fun _ => fun
  | [d] => { results := [.lit (.bool true)], args := [d] }
  | _ => none }
def digestSumsRow : OpenClaim := { program := "ytekbidjfddanhaa", sum := "7d8e2ec37a10fd6e7d08340e895d62a0163695405c0beaf52827333ffe1e15fa", func := "logbook/logbooklaw44.DigestSums", spec := "digestSums", apart := false }
def DigestSumsSaid : Prop := digestSumsRow.holds Try.pinned (OpenSpec.ofChange digestSumsSpec)

/-- ITS FALSE NEIGHBOUR: 'it returns false'. Refute it at one input. -/
def digestSumsWrong : ChangeSpec := { name := "digestSums", fn := fun _ => fun
  | [d] => { results := [.lit (.bool false)], args := [d] }
  | _ => none }
def DigestSumsWrongFalsely : Prop := digestSumsRow.holds Try.pinned (OpenSpec.ofChange digestSumsWrong)

/-- 'logbooklaw44.DigestParts': WHATEVER THE INPUT: true; the input reads as it did. -/
def digestPartsSpec : ChangeSpec := { name := "digestParts", fn := fun _ => fun
  | [d] => { results := [.lit (.bool true)], args := [d] }
  | _ => none }
def digestPartsRow : OpenClaim := { program := "ytekbidjfddanhaa", sum := "7d8e2ec37a10fd6e7d08340e895d62a0163695405c0beaf52827333ffe1e15fa", func := "logbook/logbooklaw44.DigestParts", spec := "digestParts", apart := false }
def DigestPartsSaid : Prop := digestPartsRow.holds Try.pinned (OpenSpec.ofChange digestPartsSpec)

/-- ITS FALSE NEIGHBOUR: 'it returns false'. Refute it at one input. -/
def digestPartsWrong : ChangeSpec := { name := "digestParts", fn := fun _ => fun
  | [d] => { results := [.lit (.bool false)], args := [d] }
  | _ => none }
def DigestPartsWrongFalsely : Prop := digestPartsRow.holds Try.pinned (OpenSpec.ofChange digestPartsWrong)

/-- 'logbooklaw44.DigestHex': WHATEVER THE INPUT: true; the input reads as it did. -/
def digestHexSpec : ChangeSpec := { name := "digestHex", fn := fun _ => fun
  | [d] => { results := [.lit (.bool true)], args := [d] }
  | _ => none }
def digestHexRow : OpenClaim := { program := "ytekbidjfddanhaa", sum := "7d8e2ec37a10fd6e7d08340e895d62a0163695405c0beaf52827333ffe1e15fa", func := "logbook/logbooklaw44.DigestHex", spec := "digestHex", apart := false }
def DigestHexSaid : Prop := digestHexRow.holds Try.pinned (OpenSpec.ofChange digestHexSpec)

/-- ITS FALSE NEIGHBOUR: 'it returns false'. Refute it at one input. -/
def digestHexWrong : ChangeSpec := { name := "digestHex", fn := fun _ => fun
  | [d] => { results := [.lit (.bool false)], args := [d] }
  | _ => none }
def DigestHexWrongFalsely : Prop := digestHexRow.holds Try.pinned (OpenSpec.ofChange digestHexWrong)

/-- 'logbooklaw44.DigestKeys': WHATEVER THE INPUT: true; the input reads as it did. -/
def digestKeysSpec : ChangeSpec := { name := "digestKeys", fn := fun _ => fun
  | [d1, d2] => { results := [.lit (.bool true)], args := [d1, d2] }
  | _ => none }
def digestKeysRow : OpenClaim := { program := "ytekbidjfddanhaa", sum := "7d8e2ec37a10fd6e7d08340e895d62a0163695405c0beaf52827333ffe1e15fa", func := "logbook/logbooklaw44.DigestKeys", spec := "digestKeys", apart := false }
def DigestKeysSaid : Prop := digestKeysRow.holds Try.pinned (OpenSpec.ofChange digestKeysSpec)

/-- ITS FALSE NEIGHBOUR: 'it returns false'. Refute it at one input. -/
def digestKeysWrong : ChangeSpec := { name := "digestKeys", fn := fun _ => fun
  | [d1, d2] => { results := [.lit (.bool false)], args := [d1, d2] }
  | _ => none }
def DigestKeysWrongFalsely : Prop := digestKeysRow.holds Try.pinned (OpenSpec.ofChange digestKeysWrong)

/- THE SECOND FORM. 'bulk': how many values and letters a reading holds, each counted each time it is reached (what is shared counts as often as it is met; a slice's spare places count too). A statement '..UptoSaid' is the law's where the arguments, and the package variables that the reading takes, are together of bulk at most 1048576: NARROWER than '..Said'. Prove '..Said' where nothing that the law and all that it calls make is longer than what came in: it says more and counts as full. Else prove '..UptoSaid'. A law counts once. -/
mutual
def uptoBulk {H : Type} : DataW H → Nat
  | .lit (.string bytes) => bytes.length + 1
  | .lit _ => 1
  | .nil => 1
  | .ptr d => uptoBulk d + 1
  | .slice elems spare => uptoBulkAll elems + uptoBulkAll spare + 1
  | .agg parts => uptoBulkAll parts + 1
  | .iface _ d => uptoBulk d + 1
  | .map entries => uptoBulkEntries entries + 1
  | .held _ => 1
def uptoBulkAll {H : Type} : List (DataW H) → Nat
  | [] => 0
  | d :: r => uptoBulk d + uptoBulkAll r
def uptoBulkEntries {H : Type} : List (Lit × DataW H) → Nat
  | [] => 0
  | x :: r => uptoBulkEntry x + uptoBulkEntries r
def uptoBulkEntry {H : Type} : Lit × DataW H → Nat
  | (.string bytes, d) => bytes.length + uptoBulk d + 1
  | (_, d) => uptoBulk d + 1
 end
def uptoSmall : (H : Type) → List (DataW H) → Bool := fun _ ds => decide (uptoBulkAll ds ≤ 1048576)
def OpenSpec.upto (s : _root_.Go.ChangeSpec) : _root_.Go.OpenSpec := { _root_.Go.OpenSpec.ofChange s with cond := some uptoSmall }

/-- 'logbooklaw34.CivilMonths', WHERE WHAT IT READS IS OF BULK AT MOST 1048576: true; the input reads as it did. -/
def civilMonthsUptoRow : OpenClaim := { program := "ytekbidjfddanhaa", sum := "7d8e2ec37a10fd6e7d08340e895d62a0163695405c0beaf52827333ffe1e15fa", func := "logbook/logbooklaw34.CivilMonths", spec := "civilMonths", apart := false, narrowed := true }
def CivilMonthsUptoSaid : Prop := civilMonthsUptoRow.holds Try.pinned (OpenSpec.upto civilMonthsSpec)

/-- 'logbooklaw34.CivilTells', WHERE WHAT IT READS IS OF BULK AT MOST 1048576: true; the input reads as it did. -/
def civilTellsUptoRow : OpenClaim := { program := "ytekbidjfddanhaa", sum := "7d8e2ec37a10fd6e7d08340e895d62a0163695405c0beaf52827333ffe1e15fa", func := "logbook/logbooklaw34.CivilTells", spec := "civilTells", unfollowed := true, recurses := true, apart := false, narrowed := true }
def CivilTellsUptoSaid : Prop := civilTellsUptoRow.holds Try.pinned (OpenSpec.upto civilTellsSpec)

/-- 'logbooklaw34.CivilCounts', WHERE WHAT IT READS IS OF BULK AT MOST 1048576: true; the input reads as it did. -/
def civilCountsUptoRow : OpenClaim := { program := "ytekbidjfddanhaa", sum := "7d8e2ec37a10fd6e7d08340e895d62a0163695405c0beaf52827333ffe1e15fa", func := "logbook/logbooklaw34.CivilCounts", spec := "civilCounts", unfollowed := true, recurses := true, apart := false, narrowed := true }
def CivilCountsUptoSaid : Prop := civilCountsUptoRow.holds Try.pinned (OpenSpec.upto civilCountsSpec)

/-- 'logbooklaw34.CivilOrders', WHERE WHAT IT READS IS OF BULK AT MOST 1048576: true; the input reads as it did. -/
def civilOrdersUptoRow : OpenClaim := { program := "ytekbidjfddanhaa", sum := "7d8e2ec37a10fd6e7d08340e895d62a0163695405c0beaf52827333ffe1e15fa", func := "logbook/logbooklaw34.CivilOrders", spec := "civilOrders", unfollowed := true, recurses := true, apart := false, narrowed := true }
def CivilOrdersUptoSaid : Prop := civilOrdersUptoRow.holds Try.pinned (OpenSpec.upto civilOrdersSpec)

/-- 'logbooklaw34.CivilReads', WHERE WHAT IT READS IS OF BULK AT MOST 1048576: true; the input reads as it did. -/
def civilReadsUptoRow : OpenClaim := { program := "ytekbidjfddanhaa", sum := "7d8e2ec37a10fd6e7d08340e895d62a0163695405c0beaf52827333ffe1e15fa", func := "logbook/logbooklaw34.CivilReads", spec := "civilReads", unfollowed := true, recurses := true, apart := false, narrowed := true }
def CivilReadsUptoSaid : Prop := civilReadsUptoRow.holds Try.pinned (OpenSpec.upto civilReadsSpec)

/-- 'logbooklaw34.CivilTexts', WHERE WHAT IT READS IS OF BULK AT MOST 1048576: true; the input reads as it did. -/
def civilTextsUptoRow : OpenClaim := { program := "ytekbidjfddanhaa", sum := "7d8e2ec37a10fd6e7d08340e895d62a0163695405c0beaf52827333ffe1e15fa", func := "logbook/logbooklaw34.CivilTexts", spec := "civilTexts", unfollowed := true, recurses := true, apart := false, narrowed := true }
def CivilTextsUptoSaid : Prop := civilTextsUptoRow.holds Try.pinned (OpenSpec.upto civilTextsSpec)

/-- 'logbooklaw42.PackBack', WHERE WHAT IT READS IS OF BULK AT MOST 1048576: true; the input reads as it did. -/
def packBackUptoRow : OpenClaim := { program := "ytekbidjfddanhaa", sum := "7d8e2ec37a10fd6e7d08340e895d62a0163695405c0beaf52827333ffe1e15fa", func := "logbook/logbooklaw42.PackBack", spec := "packBack", apart := false, narrowed := true }
def PackBackUptoSaid : Prop := packBackUptoRow.holds Try.pinned (OpenSpec.upto packBackSpec)

/-- 'logbooklaw02.MixParts', WHERE WHAT IT READS IS OF BULK AT MOST 1048576: true; the input reads as it did. -/
def mixPartsUptoRow : OpenClaim := { program := "ytekbidjfddanhaa", sum := "7d8e2ec37a10fd6e7d08340e895d62a0163695405c0beaf52827333ffe1e15fa", func := "logbook/logbooklaw02.MixParts", spec := "mixParts", apart := false, narrowed := true }
def MixPartsUptoSaid : Prop := mixPartsUptoRow.holds Try.pinned (OpenSpec.upto mixPartsSpec)

/-- 'logbooklaw44.DigestSums', WHERE WHAT IT READS IS OF BULK AT MOST 1048576: true; the input reads as it did. -/
def digestSumsUptoRow : OpenClaim := { program := "ytekbidjfddanhaa", sum := "7d8e2ec37a10fd6e7d08340e895d62a0163695405c0beaf52827333ffe1e15fa", func := "logbook/logbooklaw44.DigestSums", spec := "digestSums", apart := false, narrowed := true }
def DigestSumsUptoSaid : Prop := digestSumsUptoRow.holds Try.pinned (OpenSpec.upto digestSumsSpec)

/-- 'logbooklaw44.DigestParts', WHERE WHAT IT READS IS OF BULK AT MOST 1048576: true; the input reads as it did. -/
def digestPartsUptoRow : OpenClaim := { program := "ytekbidjfddanhaa", sum := "7d8e2ec37a10fd6e7d08340e895d62a0163695405c0beaf52827333ffe1e15fa", func := "logbook/logbooklaw44.DigestParts", spec := "digestParts", apart := false, narrowed := true }
def DigestPartsUptoSaid : Prop := digestPartsUptoRow.holds Try.pinned (OpenSpec.upto digestPartsSpec)

/-- 'logbooklaw44.DigestHex', WHERE WHAT IT READS IS OF BULK AT MOST 1048576: true; the input reads as it did. -/
def digestHexUptoRow : OpenClaim := { program := "ytekbidjfddanhaa", sum := "7d8e2ec37a10fd6e7d08340e895d62a0163695405c0beaf52827333ffe1e15fa", func := "logbook/logbooklaw44.DigestHex", spec := "digestHex", apart := false, narrowed := true }
def DigestHexUptoSaid : Prop := digestHexUptoRow.holds Try.pinned (OpenSpec.upto digestHexSpec)

/-- 'logbooklaw44.DigestKeys', WHERE WHAT IT READS IS OF BULK AT MOST 1048576: true; the input reads as it did. -/
def digestKeysUptoRow : OpenClaim := { program := "ytekbidjfddanhaa", sum := "7d8e2ec37a10fd6e7d08340e895d62a0163695405c0beaf52827333ffe1e15fa", func := "logbook/logbooklaw44.DigestKeys", spec := "digestKeys", apart := false, narrowed := true }
def DigestKeysUptoSaid : Prop := digestKeysUptoRow.holds Try.pinned (OpenSpec.upto digestKeysSpec)

end Rows
end Go.Proofs.Ytekbidjfddanhaa
