/-
  No cell of these rows narrows 'for every input' (looked for: loops, veiled, ifaces, maps, wideKeys, modest, calm, conditions, laid).
  DERIVED. THE GIVEN ROWS OF THIS SEAT. 12 by the template 'for every input the law returns true; each argument reads behind the call as it read before'; 0 by the template 'total and deterministic' (their statements: YtplmdgimodgekaaTotals.lean).
  GIVEN WITH THE SEED: the statements are not yours to turn. If you find one false, say at which input.
  Laid BY PROGRAM, IN A SANDBOX (cutbox-rows.mjs): the forced cells as the released guide's own fill.sh prints them over the translation 0b0f7606157a411d… (all of the seat's roots in one cut). By AI agents, Wed Nov 11 2026. No macro, syntax, notation, axiom, sorry.
-/
import Derived.Test.YtplmdgimodgekaaChecked
import GoSem.Claim
import GoSem.ClaimJoined
import GoSem.ClaimMapViews
import Derived.JoinedTies
import Derived.KernelRfl
namespace Go.Proofs.Ytplmdgimodgekaa
/- THE CELL 'sum', in the pinned program and in every row, IS THE sha256 OF THE DUMP (.gsa) THAT YtplmdgimodgekaaProg.lean LOADS. Nothing in Lean hashes anything: it is a label: what it is worth is what the hold of that sum in a sandbox is worth. -/
noncomputable def Try.pinned : Pinned := { name := "ytplmdgimodgekaa", sum := "0b0f7606157a411d0e05912993a51e8ada60ab7ab3408719e4366b19d23e49ad", checked := Try.checked }
namespace Rows
def none {H : Type} : Left H := { results := [], args := [] }

/-- 'logbooklaw39.PatternMatches': WHATEVER THE INPUT: true; the input reads as it did. -/
def patternMatchesSpec : ChangeSpec := { name := "patternMatches", fn := fun _ => fun
  | [d1, d2, d3] => { results := [.lit (.bool true)], args := [d1, d2, d3] }
  | _ => none }
def patternMatchesRow : OpenClaim := { program := "ytplmdgimodgekaa", sum := "0b0f7606157a411d0e05912993a51e8ada60ab7ab3408719e4366b19d23e49ad", func := "logbook/logbooklaw39.PatternMatches", spec := "patternMatches", apart := false }
def PatternMatchesSaid : Prop := patternMatchesRow.holds Try.pinned (OpenSpec.ofChange patternMatchesSpec)

/-- ITS FALSE NEIGHBOUR: 'it returns false'. Refute it at one input. -/
def patternMatchesWrong : ChangeSpec := { name := "patternMatches", fn := fun _ => fun
  | [d1, d2, d3] => { results := [.lit (.bool false)], args := [d1, d2, d3] }
  | _ => none }
def PatternMatchesWrongFalsely : Prop := patternMatchesRow.holds Try.pinned (OpenSpec.ofChange patternMatchesWrong)

/-- 'logbooklaw39.PatternJoins': WHATEVER THE INPUT: true; the input reads as it did. -/
def patternJoinsSpec : ChangeSpec := { name := "patternJoins", fn := fun _ => fun
  | [d1, d2, d3, d4] => { results := [.lit (.bool true)], args := [d1, d2, d3, d4] }
  | _ => none }
def patternJoinsRow : OpenClaim := { program := "ytplmdgimodgekaa", sum := "0b0f7606157a411d0e05912993a51e8ada60ab7ab3408719e4366b19d23e49ad", func := "logbook/logbooklaw39.PatternJoins", spec := "patternJoins", apart := false }
def PatternJoinsSaid : Prop := patternJoinsRow.holds Try.pinned (OpenSpec.ofChange patternJoinsSpec)

/-- ITS FALSE NEIGHBOUR: 'it returns false'. Refute it at one input. -/
def patternJoinsWrong : ChangeSpec := { name := "patternJoins", fn := fun _ => fun
  | [d1, d2, d3, d4] => { results := [.lit (.bool false)], args := [d1, d2, d3, d4] }
  | _ => none }
def PatternJoinsWrongFalsely : Prop := patternJoinsRow.holds Try.pinned (OpenSpec.ofChange patternJoinsWrong)

/-- 'logbooklaw39.PatternQuotes': WHATEVER THE INPUT: true; the input reads as it did. -/
def patternQuotesSpec : ChangeSpec := { name := "patternQuotes", fn := fun _ => fun
  | [d1, d2] => { results := [.lit (.bool true)], args := [d1, d2] }
  | _ => none }
def patternQuotesRow : OpenClaim := { program := "ytplmdgimodgekaa", sum := "0b0f7606157a411d0e05912993a51e8ada60ab7ab3408719e4366b19d23e49ad", func := "logbook/logbooklaw39.PatternQuotes", spec := "patternQuotes", inPlace := ["internal/bytealg.IndexByteString", "internal/abi.NoEscape"], apart := false }
def PatternQuotesSaid : Prop := patternQuotesRow.holds Try.pinned (OpenSpec.ofChange patternQuotesSpec)

/-- ITS FALSE NEIGHBOUR: 'it returns false'. Refute it at one input. -/
def patternQuotesWrong : ChangeSpec := { name := "patternQuotes", fn := fun _ => fun
  | [d1, d2] => { results := [.lit (.bool false)], args := [d1, d2] }
  | _ => none }
def PatternQuotesWrongFalsely : Prop := patternQuotesRow.holds Try.pinned (OpenSpec.ofChange patternQuotesWrong)

/-- 'logbooklaw45.SealTags': WHATEVER THE INPUT: true; the input reads as it did. -/
def sealTagsSpec : ChangeSpec := { name := "sealTags", fn := fun _ => fun
  | [d1, d2] => { results := [.lit (.bool true)], args := [d1, d2] }
  | _ => none }
def sealTagsRow : OpenClaim := { program := "ytplmdgimodgekaa", sum := "0b0f7606157a411d0e05912993a51e8ada60ab7ab3408719e4366b19d23e49ad", func := "logbook/logbooklaw45.SealTags", spec := "sealTags", apart := false }
def SealTagsSaid : Prop := sealTagsRow.holds Try.pinned (OpenSpec.ofChange sealTagsSpec)

/-- ITS FALSE NEIGHBOUR: 'it returns false'. Refute it at one input. -/
def sealTagsWrong : ChangeSpec := { name := "sealTags", fn := fun _ => fun
  | [d1, d2] => { results := [.lit (.bool false)], args := [d1, d2] }
  | _ => none }
def SealTagsWrongFalsely : Prop := sealTagsRow.holds Try.pinned (OpenSpec.ofChange sealTagsWrong)

/-- 'logbooklaw35.SinceSpans': WHATEVER THE INPUT: true; the input reads as it did. -/
def sinceSpansSpec : ChangeSpec := { name := "sinceSpans", fn := fun _ => fun
  | [d] => { results := [.lit (.bool true)], args := [d] }
  | _ => none }
def sinceSpansRow : OpenClaim := { program := "ytplmdgimodgekaa", sum := "0b0f7606157a411d0e05912993a51e8ada60ab7ab3408719e4366b19d23e49ad", func := "logbook/logbooklaw35.SinceSpans", spec := "sinceSpans", unfollowed := true, recurses := true, apart := false }
def SinceSpansSaid : Prop := sinceSpansRow.holds Try.pinned (OpenSpec.ofChange sinceSpansSpec)

/-- ITS FALSE NEIGHBOUR: 'it returns false'. Refute it at one input. -/
def sinceSpansWrong : ChangeSpec := { name := "sinceSpans", fn := fun _ => fun
  | [d] => { results := [.lit (.bool false)], args := [d] }
  | _ => none }
def SinceSpansWrongFalsely : Prop := sinceSpansRow.holds Try.pinned (OpenSpec.ofChange sinceSpansWrong)

/-- 'logbooklaw35.SinceParses': WHATEVER THE INPUT: true; the input reads as it did. -/
def sinceParsesSpec : ChangeSpec := { name := "sinceParses", fn := fun _ => fun
  | [d1, d2] => { results := [.lit (.bool true)], args := [d1, d2] }
  | _ => none }
def sinceParsesRow : OpenClaim := { program := "ytplmdgimodgekaa", sum := "0b0f7606157a411d0e05912993a51e8ada60ab7ab3408719e4366b19d23e49ad", func := "logbook/logbooklaw35.SinceParses", spec := "sinceParses", unfollowed := true, recurses := true, apart := false }
def SinceParsesSaid : Prop := sinceParsesRow.holds Try.pinned (OpenSpec.ofChange sinceParsesSpec)

/-- ITS FALSE NEIGHBOUR: 'it returns false'. Refute it at one input. -/
def sinceParsesWrong : ChangeSpec := { name := "sinceParses", fn := fun _ => fun
  | [d1, d2] => { results := [.lit (.bool false)], args := [d1, d2] }
  | _ => none }
def SinceParsesWrongFalsely : Prop := sinceParsesRow.holds Try.pinned (OpenSpec.ofChange sinceParsesWrong)

/-- 'logbooklaw36.SyslogItems': WHATEVER THE INPUT: true; the input reads as it did. -/
def syslogItemsSpec : ChangeSpec := { name := "syslogItems", fn := fun _ => fun
  | [d] => { results := [.lit (.bool true)], args := [d] }
  | _ => none }
def syslogItemsRow : OpenClaim := { program := "ytplmdgimodgekaa", sum := "0b0f7606157a411d0e05912993a51e8ada60ab7ab3408719e4366b19d23e49ad", func := "logbook/logbooklaw36.SyslogItems", spec := "syslogItems", inPlace := ["internal/bytealg.IndexByteString", "internal/bytealg.IndexString"], recurses := true, named := ["internal/bytealg.MaxLen"], apart := false }
def SyslogItemsSaid : Prop := syslogItemsRow.holds Try.pinned (OpenSpec.ofChange syslogItemsSpec)

/-- ITS FALSE NEIGHBOUR: 'it returns false'. Refute it at one input. -/
def syslogItemsWrong : ChangeSpec := { name := "syslogItems", fn := fun _ => fun
  | [d] => { results := [.lit (.bool false)], args := [d] }
  | _ => none }
def SyslogItemsWrongFalsely : Prop := syslogItemsRow.holds Try.pinned (OpenSpec.ofChange syslogItemsWrong)

/-- 'logbooklaw36.SyslogReads': WHATEVER THE INPUT: true; the input reads as it did. -/
def syslogReadsSpec : ChangeSpec := { name := "syslogReads", fn := fun _ => fun
  | [d] => { results := [.lit (.bool true)], args := [d] }
  | _ => none }
def syslogReadsRow : OpenClaim := { program := "ytplmdgimodgekaa", sum := "0b0f7606157a411d0e05912993a51e8ada60ab7ab3408719e4366b19d23e49ad", func := "logbook/logbooklaw36.SyslogReads", spec := "syslogReads", inPlace := ["internal/bytealg.IndexByteString", "internal/bytealg.IndexString"], recurses := true, named := ["internal/bytealg.MaxLen"], apart := false }
def SyslogReadsSaid : Prop := syslogReadsRow.holds Try.pinned (OpenSpec.ofChange syslogReadsSpec)

/-- ITS FALSE NEIGHBOUR: 'it returns false'. Refute it at one input. -/
def syslogReadsWrong : ChangeSpec := { name := "syslogReads", fn := fun _ => fun
  | [d] => { results := [.lit (.bool false)], args := [d] }
  | _ => none }
def SyslogReadsWrongFalsely : Prop := syslogReadsRow.holds Try.pinned (OpenSpec.ofChange syslogReadsWrong)

/-- 'logbooklaw36.SyslogWrites': WHATEVER THE INPUT: true; the input reads as it did. -/
def syslogWritesSpec : ChangeSpec := { name := "syslogWrites", fn := fun _ => fun
  | [d] => { results := [.lit (.bool true)], args := [d] }
  | _ => none }
def syslogWritesRow : OpenClaim := { program := "ytplmdgimodgekaa", sum := "0b0f7606157a411d0e05912993a51e8ada60ab7ab3408719e4366b19d23e49ad", func := "logbook/logbooklaw36.SyslogWrites", spec := "syslogWrites", inPlace := ["internal/bytealg.IndexByteString", "internal/bytealg.IndexString"], recurses := true, named := ["internal/bytealg.MaxLen"], apart := false }
def SyslogWritesSaid : Prop := syslogWritesRow.holds Try.pinned (OpenSpec.ofChange syslogWritesSpec)

/-- ITS FALSE NEIGHBOUR: 'it returns false'. Refute it at one input. -/
def syslogWritesWrong : ChangeSpec := { name := "syslogWrites", fn := fun _ => fun
  | [d] => { results := [.lit (.bool false)], args := [d] }
  | _ => none }
def SyslogWritesWrongFalsely : Prop := syslogWritesRow.holds Try.pinned (OpenSpec.ofChange syslogWritesWrong)

/-- 'logbooklaw35.SinceWrites': WHATEVER THE INPUT: true; the input reads as it did. -/
def sinceWritesSpec : ChangeSpec := { name := "sinceWrites", fn := fun _ => fun
  | [d] => { results := [.lit (.bool true)], args := [d] }
  | _ => none }
def sinceWritesRow : OpenClaim := { program := "ytplmdgimodgekaa", sum := "0b0f7606157a411d0e05912993a51e8ada60ab7ab3408719e4366b19d23e49ad", func := "logbook/logbooklaw35.SinceWrites", spec := "sinceWrites", inPlace := ["internal/abi.NoEscape"], unfollowed := true, recurses := true, apart := false }
def SinceWritesSaid : Prop := sinceWritesRow.holds Try.pinned (OpenSpec.ofChange sinceWritesSpec)

/-- ITS FALSE NEIGHBOUR: 'it returns false'. Refute it at one input. -/
def sinceWritesWrong : ChangeSpec := { name := "sinceWrites", fn := fun _ => fun
  | [d] => { results := [.lit (.bool false)], args := [d] }
  | _ => none }
def SinceWritesWrongFalsely : Prop := sinceWritesRow.holds Try.pinned (OpenSpec.ofChange sinceWritesWrong)

/-- 'logbooklaw45.SealChecks': WHATEVER THE INPUT: true; the input reads as it did. -/
def sealChecksSpec : ChangeSpec := { name := "sealChecks", fn := fun _ => fun
  | [d1, d2, d3, d4, d5] => { results := [.lit (.bool true)], args := [d1, d2, d3, d4, d5] }
  | _ => none }
def sealChecksRow : OpenClaim := { program := "ytplmdgimodgekaa", sum := "0b0f7606157a411d0e05912993a51e8ada60ab7ab3408719e4366b19d23e49ad", func := "logbook/logbooklaw45.SealChecks", spec := "sealChecks", apart := false }
def SealChecksSaid : Prop := sealChecksRow.holds Try.pinned (OpenSpec.ofChange sealChecksSpec)

/-- ITS FALSE NEIGHBOUR: 'it returns false'. Refute it at one input. -/
def sealChecksWrong : ChangeSpec := { name := "sealChecks", fn := fun _ => fun
  | [d1, d2, d3, d4, d5] => { results := [.lit (.bool false)], args := [d1, d2, d3, d4, d5] }
  | _ => none }
def SealChecksWrongFalsely : Prop := sealChecksRow.holds Try.pinned (OpenSpec.ofChange sealChecksWrong)

/-- 'logbooklaw45.SealBytes': WHATEVER THE INPUT: true; the input reads as it did. -/
def sealBytesSpec : ChangeSpec := { name := "sealBytes", fn := fun _ => fun
  | [d] => { results := [.lit (.bool true)], args := [d] }
  | _ => none }
def sealBytesRow : OpenClaim := { program := "ytplmdgimodgekaa", sum := "0b0f7606157a411d0e05912993a51e8ada60ab7ab3408719e4366b19d23e49ad", func := "logbook/logbooklaw45.SealBytes", spec := "sealBytes", apart := false }
def SealBytesSaid : Prop := sealBytesRow.holds Try.pinned (OpenSpec.ofChange sealBytesSpec)

/-- ITS FALSE NEIGHBOUR: 'it returns false'. Refute it at one input. -/
def sealBytesWrong : ChangeSpec := { name := "sealBytes", fn := fun _ => fun
  | [d] => { results := [.lit (.bool false)], args := [d] }
  | _ => none }
def SealBytesWrongFalsely : Prop := sealBytesRow.holds Try.pinned (OpenSpec.ofChange sealBytesWrong)

/- THE SECOND FORM. 'bulk': how many values and letters a reading holds, each counted each time it is reached (what is shared counts as often as it is met; a slice's spare places count too). A statement '..UptoSaid' is the law's where the arguments, and the package variables that the reading takes, are together of bulk at most 1048576: NARROWER than '..Said'. Prove '..Said' where nothing that the law and all that it calls make is longer than what came in: it says more and counts as full. Else prove '..UptoSaid'. A law counts once. -/
mutual
def uptoBulk {H : Type} : DataW H → Nat
  | .lit (.string bytes) => bytes.length + 1
  | .lit _ => 1
  | .nil => 1
  | .ptr d => uptoBulk d + 1
  | .slice elems spare => uptoBulkAll elems + uptoBulkAll spare + 1
  | .agg parts => uptoBulkAll parts + 1
  | .iface _ d => uptoBulk d + 1
  | .map entries => uptoBulkEntries entries + 1
  | .held _ => 1
def uptoBulkAll {H : Type} : List (DataW H) → Nat
  | [] => 0
  | d :: r => uptoBulk d + uptoBulkAll r
def uptoBulkEntries {H : Type} : List (Lit × DataW H) → Nat
  | [] => 0
  | x :: r => uptoBulkEntry x + uptoBulkEntries r
def uptoBulkEntry {H : Type} : Lit × DataW H → Nat
  | (.string bytes, d) => bytes.length + uptoBulk d + 1
  | (_, d) => uptoBulk d + 1
 end
def uptoSmall : (H : Type) → List (DataW H) → Bool := fun _ ds => decide (uptoBulkAll ds ≤ 1048576)
def OpenSpec.upto (s : _root_.Go.ChangeSpec) : _root_.Go.OpenSpec := { _root_.Go.OpenSpec.ofChange s with cond := some uptoSmall }

/-- 'logbooklaw39.PatternMatches', WHERE WHAT IT READS IS OF BULK AT MOST 1048576: true; the input reads as it did. -/
def patternMatchesUptoRow : OpenClaim := { program := "ytplmdgimodgekaa", sum := "0b0f7606157a411d0e05912993a51e8ada60ab7ab3408719e4366b19d23e49ad", func := "logbook/logbooklaw39.PatternMatches", spec := "patternMatches", apart := false, narrowed := true }
def PatternMatchesUptoSaid : Prop := patternMatchesUptoRow.holds Try.pinned (OpenSpec.upto patternMatchesSpec)

/-- 'logbooklaw39.PatternJoins', WHERE WHAT IT READS IS OF BULK AT MOST 1048576: true; the input reads as it did. -/
def patternJoinsUptoRow : OpenClaim := { program := "ytplmdgimodgekaa", sum := "0b0f7606157a411d0e05912993a51e8ada60ab7ab3408719e4366b19d23e49ad", func := "logbook/logbooklaw39.PatternJoins", spec := "patternJoins", apart := false, narrowed := true }
def PatternJoinsUptoSaid : Prop := patternJoinsUptoRow.holds Try.pinned (OpenSpec.upto patternJoinsSpec)

/-- 'logbooklaw39.PatternQuotes', WHERE WHAT IT READS IS OF BULK AT MOST 1048576: true; the input reads as it did. -/
def patternQuotesUptoRow : OpenClaim := { program := "ytplmdgimodgekaa", sum := "0b0f7606157a411d0e05912993a51e8ada60ab7ab3408719e4366b19d23e49ad", func := "logbook/logbooklaw39.PatternQuotes", spec := "patternQuotes", inPlace := ["internal/bytealg.IndexByteString", "internal/abi.NoEscape"], apart := false, narrowed := true }
def PatternQuotesUptoSaid : Prop := patternQuotesUptoRow.holds Try.pinned (OpenSpec.upto patternQuotesSpec)

/-- 'logbooklaw45.SealTags', WHERE WHAT IT READS IS OF BULK AT MOST 1048576: true; the input reads as it did. -/
def sealTagsUptoRow : OpenClaim := { program := "ytplmdgimodgekaa", sum := "0b0f7606157a411d0e05912993a51e8ada60ab7ab3408719e4366b19d23e49ad", func := "logbook/logbooklaw45.SealTags", spec := "sealTags", apart := false, narrowed := true }
def SealTagsUptoSaid : Prop := sealTagsUptoRow.holds Try.pinned (OpenSpec.upto sealTagsSpec)

/-- 'logbooklaw35.SinceSpans', WHERE WHAT IT READS IS OF BULK AT MOST 1048576: true; the input reads as it did. -/
def sinceSpansUptoRow : OpenClaim := { program := "ytplmdgimodgekaa", sum := "0b0f7606157a411d0e05912993a51e8ada60ab7ab3408719e4366b19d23e49ad", func := "logbook/logbooklaw35.SinceSpans", spec := "sinceSpans", unfollowed := true, recurses := true, apart := false, narrowed := true }
def SinceSpansUptoSaid : Prop := sinceSpansUptoRow.holds Try.pinned (OpenSpec.upto sinceSpansSpec)

/-- 'logbooklaw35.SinceParses', WHERE WHAT IT READS IS OF BULK AT MOST 1048576: true; the input reads as it did. -/
def sinceParsesUptoRow : OpenClaim := { program := "ytplmdgimodgekaa", sum := "0b0f7606157a411d0e05912993a51e8ada60ab7ab3408719e4366b19d23e49ad", func := "logbook/logbooklaw35.SinceParses", spec := "sinceParses", unfollowed := true, recurses := true, apart := false, narrowed := true }
def SinceParsesUptoSaid : Prop := sinceParsesUptoRow.holds Try.pinned (OpenSpec.upto sinceParsesSpec)

/-- 'logbooklaw36.SyslogItems', WHERE WHAT IT READS IS OF BULK AT MOST 1048576: true; the input reads as it did. -/
def syslogItemsUptoRow : OpenClaim := { program := "ytplmdgimodgekaa", sum := "0b0f7606157a411d0e05912993a51e8ada60ab7ab3408719e4366b19d23e49ad", func := "logbook/logbooklaw36.SyslogItems", spec := "syslogItems", inPlace := ["internal/bytealg.IndexByteString", "internal/bytealg.IndexString"], recurses := true, named := ["internal/bytealg.MaxLen"], apart := false, narrowed := true }
def SyslogItemsUptoSaid : Prop := syslogItemsUptoRow.holds Try.pinned (OpenSpec.upto syslogItemsSpec)

/-- 'logbooklaw36.SyslogReads', WHERE WHAT IT READS IS OF BULK AT MOST 1048576: true; the input reads as it did. -/
def syslogReadsUptoRow : OpenClaim := { program := "ytplmdgimodgekaa", sum := "0b0f7606157a411d0e05912993a51e8ada60ab7ab3408719e4366b19d23e49ad", func := "logbook/logbooklaw36.SyslogReads", spec := "syslogReads", inPlace := ["internal/bytealg.IndexByteString", "internal/bytealg.IndexString"], recurses := true, named := ["internal/bytealg.MaxLen"], apart := false, narrowed := true }
def SyslogReadsUptoSaid : Prop := syslogReadsUptoRow.holds Try.pinned (OpenSpec.upto syslogReadsSpec)

/-- 'logbooklaw36.SyslogWrites', WHERE WHAT IT READS IS OF BULK AT MOST 1048576: true; the input reads as it did. -/
def syslogWritesUptoRow : OpenClaim := { program := "ytplmdgimodgekaa", sum := "0b0f7606157a411d0e05912993a51e8ada60ab7ab3408719e4366b19d23e49ad", func := "logbook/logbooklaw36.SyslogWrites", spec := "syslogWrites", inPlace := ["internal/bytealg.IndexByteString", "internal/bytealg.IndexString"], recurses := true, named := ["internal/bytealg.MaxLen"], apart := false, narrowed := true }
def SyslogWritesUptoSaid : Prop := syslogWritesUptoRow.holds Try.pinned (OpenSpec.upto syslogWritesSpec)

/-- 'logbooklaw35.SinceWrites', WHERE WHAT IT READS IS OF BULK AT MOST 1048576: true; the input reads as it did. -/
def sinceWritesUptoRow : OpenClaim := { program := "ytplmdgimodgekaa", sum := "0b0f7606157a411d0e05912993a51e8ada60ab7ab3408719e4366b19d23e49ad", func := "logbook/logbooklaw35.SinceWrites", spec := "sinceWrites", inPlace := ["internal/abi.NoEscape"], unfollowed := true, recurses := true, apart := false, narrowed := true }
def SinceWritesUptoSaid : Prop := sinceWritesUptoRow.holds Try.pinned (OpenSpec.upto sinceWritesSpec)

/-- 'logbooklaw45.SealChecks', WHERE WHAT IT READS IS OF BULK AT MOST 1048576: true; the input reads as it did. -/
def sealChecksUptoRow : OpenClaim := { program := "ytplmdgimodgekaa", sum := "0b0f7606157a411d0e05912993a51e8ada60ab7ab3408719e4366b19d23e49ad", func := "logbook/logbooklaw45.SealChecks", spec := "sealChecks", apart := false, narrowed := true }
def SealChecksUptoSaid : Prop := sealChecksUptoRow.holds Try.pinned (OpenSpec.upto sealChecksSpec)

/-- 'logbooklaw45.SealBytes', WHERE WHAT IT READS IS OF BULK AT MOST 1048576: true; the input reads as it did. -/
def sealBytesUptoRow : OpenClaim := { program := "ytplmdgimodgekaa", sum := "0b0f7606157a411d0e05912993a51e8ada60ab7ab3408719e4366b19d23e49ad", func := "logbook/logbooklaw45.SealBytes", spec := "sealBytes", apart := false, narrowed := true }
def SealBytesUptoSaid : Prop := sealBytesUptoRow.holds Try.pinned (OpenSpec.upto sealBytesSpec)

end Rows
end Go.Proofs.Ytplmdgimodgekaa
