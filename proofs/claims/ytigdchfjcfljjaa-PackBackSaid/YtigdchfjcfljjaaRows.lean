/-
  No cell of these rows narrows 'for every input' (looked for: loops, veiled, ifaces, maps, wideKeys, modest, calm, conditions, laid).
  DERIVED. THE GIVEN ROWS OF THIS SEAT. 12 by the template 'for every input the law returns true; each argument reads behind the call as it read before'; 0 by the template 'total and deterministic' (their statements: YtigdchfjcfljjaaTotals.lean).
  GIVEN WITH THE SEED: the statements are not yours to turn. If you find one false, say at which input.
  Laid BY PROGRAM, IN A SANDBOX (cutbox-rows.mjs): the forced cells as the released guide's own fill.sh prints them over the translation 286e48bd8ace6326… (all of the seat's roots in one cut). By AI agents, Wed Nov 11 2026. No macro, syntax, notation, axiom, sorry.
-/
import Derived.Test.YtigdchfjcfljjaaChecked
import GoSem.Claim
import GoSem.ClaimJoined
import GoSem.ClaimMapViews
import Derived.JoinedTies
import Derived.KernelRfl
namespace Go.Proofs.Ytigdchfjcfljjaa
/- THE CELL 'sum', in the pinned program and in every row, IS THE sha256 OF THE DUMP (.gsa) THAT YtigdchfjcfljjaaProg.lean LOADS. Nothing in Lean hashes anything: it is a label: what it is worth is what the hold of that sum in a sandbox is worth. -/
noncomputable def Try.pinned : Pinned := { name := "ytigdchfjcfljjaa", sum := "286e48bd8ace632697ba67c9a19e7445fd5e6cf8704756831b9a1312e4552f9a", checked := Try.checked }
namespace Rows
def none {H : Type} : Left H := { results := [], args := [] }

/-- 'logbooklaw42.PackBack': WHATEVER THE INPUT: true; the input reads as it did. -/
def packBackSpec : ChangeSpec := { name := "packBack", fn := fun _ => fun
  | [d] => { results := [.lit (.bool true)], args := [d] }
  | _ => none }
def packBackRow : OpenClaim := { program := "ytigdchfjcfljjaa", sum := "286e48bd8ace632697ba67c9a19e7445fd5e6cf8704756831b9a1312e4552f9a", func := "logbook/logbooklaw42.PackBack", spec := "packBack", apart := false }
def PackBackSaid : Prop := packBackRow.holds Try.pinned (OpenSpec.ofChange packBackSpec)

/-- ITS FALSE NEIGHBOUR: 'it returns false'. Refute it at one input. -/
def packBackWrong : ChangeSpec := { name := "packBack", fn := fun _ => fun
  | [d] => { results := [.lit (.bool false)], args := [d] }
  | _ => none }
def PackBackWrongFalsely : Prop := packBackRow.holds Try.pinned (OpenSpec.ofChange packBackWrong)

/-- 'logbooklaw11.SlotTurns': WHATEVER THE INPUT: true; the input reads as it did. -/
def slotTurnsSpec : ChangeSpec := { name := "slotTurns", fn := fun _ => fun
  | [d1, d2, d3] => { results := [.lit (.bool true)], args := [d1, d2, d3] }
  | _ => none }
def slotTurnsRow : OpenClaim := { program := "ytigdchfjcfljjaa", sum := "286e48bd8ace632697ba67c9a19e7445fd5e6cf8704756831b9a1312e4552f9a", func := "logbook/logbooklaw11.SlotTurns", spec := "slotTurns", apart := false }
def SlotTurnsSaid : Prop := slotTurnsRow.holds Try.pinned (OpenSpec.ofChange slotTurnsSpec)

/-- ITS FALSE NEIGHBOUR: 'it returns false'. Refute it at one input. -/
def slotTurnsWrong : ChangeSpec := { name := "slotTurns", fn := fun _ => fun
  | [d1, d2, d3] => { results := [.lit (.bool false)], args := [d1, d2, d3] }
  | _ => none }
def SlotTurnsWrongFalsely : Prop := slotTurnsRow.holds Try.pinned (OpenSpec.ofChange slotTurnsWrong)

/-- 'logbooklaw09.ObjBack': WHATEVER THE INPUT: true; the input reads as it did. -/
def objBackSpec : ChangeSpec := { name := "objBack", fn := fun _ => fun
  | [d1, d2, d3] => { results := [.lit (.bool true)], args := [d1, d2, d3] }
  | _ => none }
def objBackRow : OpenClaim := { program := "ytigdchfjcfljjaa", sum := "286e48bd8ace632697ba67c9a19e7445fd5e6cf8704756831b9a1312e4552f9a", func := "logbook/logbooklaw09.ObjBack", spec := "objBack", unfollowed := true, recurses := true, apart := false }
def ObjBackSaid : Prop := objBackRow.holds Try.pinned (OpenSpec.ofChange objBackSpec)

/-- ITS FALSE NEIGHBOUR: 'it returns false'. Refute it at one input. -/
def objBackWrong : ChangeSpec := { name := "objBack", fn := fun _ => fun
  | [d1, d2, d3] => { results := [.lit (.bool false)], args := [d1, d2, d3] }
  | _ => none }
def ObjBackWrongFalsely : Prop := objBackRow.holds Try.pinned (OpenSpec.ofChange objBackWrong)

/-- 'logbooklaw12.ImageLoads': WHATEVER THE INPUT: true; the input reads as it did. -/
def imageLoadsSpec : ChangeSpec := { name := "imageLoads", fn := fun _ => fun
  | [d1, d2, d3, d4] => { results := [.lit (.bool true)], args := [d1, d2, d3, d4] }
  | _ => none }
def imageLoadsRow : OpenClaim := { program := "ytigdchfjcfljjaa", sum := "286e48bd8ace632697ba67c9a19e7445fd5e6cf8704756831b9a1312e4552f9a", func := "logbook/logbooklaw12.ImageLoads", spec := "imageLoads", apart := false }
def ImageLoadsSaid : Prop := imageLoadsRow.holds Try.pinned (OpenSpec.ofChange imageLoadsSpec)

/-- ITS FALSE NEIGHBOUR: 'it returns false'. Refute it at one input. -/
def imageLoadsWrong : ChangeSpec := { name := "imageLoads", fn := fun _ => fun
  | [d1, d2, d3, d4] => { results := [.lit (.bool false)], args := [d1, d2, d3, d4] }
  | _ => none }
def ImageLoadsWrongFalsely : Prop := imageLoadsRow.holds Try.pinned (OpenSpec.ofChange imageLoadsWrong)

/-- 'logbooklaw12.ImageLays': WHATEVER THE INPUT: true; the input reads as it did. -/
def imageLaysSpec : ChangeSpec := { name := "imageLays", fn := fun _ => fun
  | [d1, d2] => { results := [.lit (.bool true)], args := [d1, d2] }
  | _ => none }
def imageLaysRow : OpenClaim := { program := "ytigdchfjcfljjaa", sum := "286e48bd8ace632697ba67c9a19e7445fd5e6cf8704756831b9a1312e4552f9a", func := "logbook/logbooklaw12.ImageLays", spec := "imageLays", apart := false }
def ImageLaysSaid : Prop := imageLaysRow.holds Try.pinned (OpenSpec.ofChange imageLaysSpec)

/-- ITS FALSE NEIGHBOUR: 'it returns false'. Refute it at one input. -/
def imageLaysWrong : ChangeSpec := { name := "imageLays", fn := fun _ => fun
  | [d1, d2] => { results := [.lit (.bool false)], args := [d1, d2] }
  | _ => none }
def ImageLaysWrongFalsely : Prop := imageLaysRow.holds Try.pinned (OpenSpec.ofChange imageLaysWrong)

/-- 'logbooklaw12.ImagePlays': WHATEVER THE INPUT: true; the input reads as it did. -/
def imagePlaysSpec : ChangeSpec := { name := "imagePlays", fn := fun _ => fun
  | [d1, d2, d3, d4, d5] => { results := [.lit (.bool true)], args := [d1, d2, d3, d4, d5] }
  | _ => none }
def imagePlaysRow : OpenClaim := { program := "ytigdchfjcfljjaa", sum := "286e48bd8ace632697ba67c9a19e7445fd5e6cf8704756831b9a1312e4552f9a", func := "logbook/logbooklaw12.ImagePlays", spec := "imagePlays", unfollowed := true, recurses := true, apart := false }
def ImagePlaysSaid : Prop := imagePlaysRow.holds Try.pinned (OpenSpec.ofChange imagePlaysSpec)

/-- ITS FALSE NEIGHBOUR: 'it returns false'. Refute it at one input. -/
def imagePlaysWrong : ChangeSpec := { name := "imagePlays", fn := fun _ => fun
  | [d1, d2, d3, d4, d5] => { results := [.lit (.bool false)], args := [d1, d2, d3, d4, d5] }
  | _ => none }
def ImagePlaysWrongFalsely : Prop := imagePlaysRow.holds Try.pinned (OpenSpec.ofChange imagePlaysWrong)

/-- 'logbooklaw14.ChainAppends': WHATEVER THE INPUT: true; the input reads as it did. -/
def chainAppendsSpec : ChangeSpec := { name := "chainAppends", fn := fun _ => fun
  | [d1, d2, d3] => { results := [.lit (.bool true)], args := [d1, d2, d3] }
  | _ => none }
def chainAppendsRow : OpenClaim := { program := "ytigdchfjcfljjaa", sum := "286e48bd8ace632697ba67c9a19e7445fd5e6cf8704756831b9a1312e4552f9a", func := "logbook/logbooklaw14.ChainAppends", spec := "chainAppends", unfollowed := true, recurses := true, apart := false }
def ChainAppendsSaid : Prop := chainAppendsRow.holds Try.pinned (OpenSpec.ofChange chainAppendsSpec)

/-- ITS FALSE NEIGHBOUR: 'it returns false'. Refute it at one input. -/
def chainAppendsWrong : ChangeSpec := { name := "chainAppends", fn := fun _ => fun
  | [d1, d2, d3] => { results := [.lit (.bool false)], args := [d1, d2, d3] }
  | _ => none }
def ChainAppendsWrongFalsely : Prop := chainAppendsRow.holds Try.pinned (OpenSpec.ofChange chainAppendsWrong)

/-- 'logbooklaw14.ChainTells': WHATEVER THE INPUT: true; the input reads as it did. -/
def chainTellsSpec : ChangeSpec := { name := "chainTells", fn := fun _ => fun
  | [d1, d2, d3] => { results := [.lit (.bool true)], args := [d1, d2, d3] }
  | _ => none }
def chainTellsRow : OpenClaim := { program := "ytigdchfjcfljjaa", sum := "286e48bd8ace632697ba67c9a19e7445fd5e6cf8704756831b9a1312e4552f9a", func := "logbook/logbooklaw14.ChainTells", spec := "chainTells", unfollowed := true, recurses := true, apart := false }
def ChainTellsSaid : Prop := chainTellsRow.holds Try.pinned (OpenSpec.ofChange chainTellsSpec)

/-- ITS FALSE NEIGHBOUR: 'it returns false'. Refute it at one input. -/
def chainTellsWrong : ChangeSpec := { name := "chainTells", fn := fun _ => fun
  | [d1, d2, d3] => { results := [.lit (.bool false)], args := [d1, d2, d3] }
  | _ => none }
def ChainTellsWrongFalsely : Prop := chainTellsRow.holds Try.pinned (OpenSpec.ofChange chainTellsWrong)

/-- 'logbooklaw13.TableBuckets': WHATEVER THE INPUT: true; the input reads as it did. -/
def tableBucketsSpec : ChangeSpec := { name := "tableBuckets", fn := fun _ => fun
  | [d1, d2, d3] => { results := [.lit (.bool true)], args := [d1, d2, d3] }
  | _ => none }
def tableBucketsRow : OpenClaim := { program := "ytigdchfjcfljjaa", sum := "286e48bd8ace632697ba67c9a19e7445fd5e6cf8704756831b9a1312e4552f9a", func := "logbook/logbooklaw13.TableBuckets", spec := "tableBuckets", unfollowed := true, recurses := true, apart := false }
def TableBucketsSaid : Prop := tableBucketsRow.holds Try.pinned (OpenSpec.ofChange tableBucketsSpec)

/-- ITS FALSE NEIGHBOUR: 'it returns false'. Refute it at one input. -/
def tableBucketsWrong : ChangeSpec := { name := "tableBuckets", fn := fun _ => fun
  | [d1, d2, d3] => { results := [.lit (.bool false)], args := [d1, d2, d3] }
  | _ => none }
def TableBucketsWrongFalsely : Prop := tableBucketsRow.holds Try.pinned (OpenSpec.ofChange tableBucketsWrong)

/-- 'logbooklaw13.TableFollows': WHATEVER THE INPUT: true; the input reads as it did. -/
def tableFollowsSpec : ChangeSpec := { name := "tableFollows", fn := fun _ => fun
  | [d1, d2, d3] => { results := [.lit (.bool true)], args := [d1, d2, d3] }
  | _ => none }
def tableFollowsRow : OpenClaim := { program := "ytigdchfjcfljjaa", sum := "286e48bd8ace632697ba67c9a19e7445fd5e6cf8704756831b9a1312e4552f9a", func := "logbook/logbooklaw13.TableFollows", spec := "tableFollows", unfollowed := true, recurses := true, apart := false }
def TableFollowsSaid : Prop := tableFollowsRow.holds Try.pinned (OpenSpec.ofChange tableFollowsSpec)

/-- ITS FALSE NEIGHBOUR: 'it returns false'. Refute it at one input. -/
def tableFollowsWrong : ChangeSpec := { name := "tableFollows", fn := fun _ => fun
  | [d1, d2, d3] => { results := [.lit (.bool false)], args := [d1, d2, d3] }
  | _ => none }
def TableFollowsWrongFalsely : Prop := tableFollowsRow.holds Try.pinned (OpenSpec.ofChange tableFollowsWrong)

/-- 'logbooklaw13.TableAdds': WHATEVER THE INPUT: true; the input reads as it did. -/
def tableAddsSpec : ChangeSpec := { name := "tableAdds", fn := fun _ => fun
  | [d1, d2, d3, d4, d5, d6] => { results := [.lit (.bool true)], args := [d1, d2, d3, d4, d5, d6] }
  | _ => none }
def tableAddsRow : OpenClaim := { program := "ytigdchfjcfljjaa", sum := "286e48bd8ace632697ba67c9a19e7445fd5e6cf8704756831b9a1312e4552f9a", func := "logbook/logbooklaw13.TableAdds", spec := "tableAdds", unfollowed := true, recurses := true, apart := false }
def TableAddsSaid : Prop := tableAddsRow.holds Try.pinned (OpenSpec.ofChange tableAddsSpec)

/-- ITS FALSE NEIGHBOUR: 'it returns false'. Refute it at one input. -/
def tableAddsWrong : ChangeSpec := { name := "tableAdds", fn := fun _ => fun
  | [d1, d2, d3, d4, d5, d6] => { results := [.lit (.bool false)], args := [d1, d2, d3, d4, d5, d6] }
  | _ => none }
def TableAddsWrongFalsely : Prop := tableAddsRow.holds Try.pinned (OpenSpec.ofChange tableAddsWrong)

/-- 'logbooklaw14.ChainBroken': WHATEVER THE INPUT: true; the input reads as it did. -/
def chainBrokenSpec : ChangeSpec := { name := "chainBroken", fn := fun _ => fun
  | [d1, d2, d3] => { results := [.lit (.bool true)], args := [d1, d2, d3] }
  | _ => none }
def chainBrokenRow : OpenClaim := { program := "ytigdchfjcfljjaa", sum := "286e48bd8ace632697ba67c9a19e7445fd5e6cf8704756831b9a1312e4552f9a", func := "logbook/logbooklaw14.ChainBroken", spec := "chainBroken", unfollowed := true, recurses := true, apart := false }
def ChainBrokenSaid : Prop := chainBrokenRow.holds Try.pinned (OpenSpec.ofChange chainBrokenSpec)

/-- ITS FALSE NEIGHBOUR: 'it returns false'. Refute it at one input. -/
def chainBrokenWrong : ChangeSpec := { name := "chainBroken", fn := fun _ => fun
  | [d1, d2, d3] => { results := [.lit (.bool false)], args := [d1, d2, d3] }
  | _ => none }
def ChainBrokenWrongFalsely : Prop := chainBrokenRow.holds Try.pinned (OpenSpec.ofChange chainBrokenWrong)

/- THE SECOND FORM. 'bulk': how many values and letters a reading holds, each counted each time it is reached (what is shared counts as often as it is met; a slice's spare places count too). A statement '..UptoSaid' is the law's where the arguments, and the package variables that the reading takes, are together of bulk at most 1048576: NARROWER than '..Said'. Prove '..Said' where nothing that the law and all that it calls make is longer than what came in: it says more and counts as full. Else prove '..UptoSaid'. A law counts once. -/
mutual
def uptoBulk {H : Type} : DataW H → Nat
  | .lit (.string bytes) => bytes.length + 1
  | .lit _ => 1
  | .nil => 1
  | .ptr d => uptoBulk d + 1
  | .slice elems spare => uptoBulkAll elems + uptoBulkAll spare + 1
  | .agg parts => uptoBulkAll parts + 1
  | .iface _ d => uptoBulk d + 1
  | .map entries => uptoBulkEntries entries + 1
  | .held _ => 1
def uptoBulkAll {H : Type} : List (DataW H) → Nat
  | [] => 0
  | d :: r => uptoBulk d + uptoBulkAll r
def uptoBulkEntries {H : Type} : List (Lit × DataW H) → Nat
  | [] => 0
  | x :: r => uptoBulkEntry x + uptoBulkEntries r
def uptoBulkEntry {H : Type} : Lit × DataW H → Nat
  | (.string bytes, d) => bytes.length + uptoBulk d + 1
  | (_, d) => uptoBulk d + 1
 end
def uptoSmall : (H : Type) → List (DataW H) → Bool := fun _ ds => decide (uptoBulkAll ds ≤ 1048576)
def OpenSpec.upto (s : _root_.Go.ChangeSpec) : _root_.Go.OpenSpec := { _root_.Go.OpenSpec.ofChange s with cond := some uptoSmall }

/-- 'logbooklaw42.PackBack', WHERE WHAT IT READS IS OF BULK AT MOST 1048576: true; the input reads as it did. -/
def packBackUptoRow : OpenClaim := { program := "ytigdchfjcfljjaa", sum := "286e48bd8ace632697ba67c9a19e7445fd5e6cf8704756831b9a1312e4552f9a", func := "logbook/logbooklaw42.PackBack", spec := "packBack", apart := false, narrowed := true }
def PackBackUptoSaid : Prop := packBackUptoRow.holds Try.pinned (OpenSpec.upto packBackSpec)

/-- 'logbooklaw11.SlotTurns', WHERE WHAT IT READS IS OF BULK AT MOST 1048576: true; the input reads as it did. -/
def slotTurnsUptoRow : OpenClaim := { program := "ytigdchfjcfljjaa", sum := "286e48bd8ace632697ba67c9a19e7445fd5e6cf8704756831b9a1312e4552f9a", func := "logbook/logbooklaw11.SlotTurns", spec := "slotTurns", apart := false, narrowed := true }
def SlotTurnsUptoSaid : Prop := slotTurnsUptoRow.holds Try.pinned (OpenSpec.upto slotTurnsSpec)

/-- 'logbooklaw09.ObjBack', WHERE WHAT IT READS IS OF BULK AT MOST 1048576: true; the input reads as it did. -/
def objBackUptoRow : OpenClaim := { program := "ytigdchfjcfljjaa", sum := "286e48bd8ace632697ba67c9a19e7445fd5e6cf8704756831b9a1312e4552f9a", func := "logbook/logbooklaw09.ObjBack", spec := "objBack", unfollowed := true, recurses := true, apart := false, narrowed := true }
def ObjBackUptoSaid : Prop := objBackUptoRow.holds Try.pinned (OpenSpec.upto objBackSpec)

/-- 'logbooklaw12.ImageLoads', WHERE WHAT IT READS IS OF BULK AT MOST 1048576: true; the input reads as it did. -/
def imageLoadsUptoRow : OpenClaim := { program := "ytigdchfjcfljjaa", sum := "286e48bd8ace632697ba67c9a19e7445fd5e6cf8704756831b9a1312e4552f9a", func := "logbook/logbooklaw12.ImageLoads", spec := "imageLoads", apart := false, narrowed := true }
def ImageLoadsUptoSaid : Prop := imageLoadsUptoRow.holds Try.pinned (OpenSpec.upto imageLoadsSpec)

/-- 'logbooklaw12.ImageLays', WHERE WHAT IT READS IS OF BULK AT MOST 1048576: true; the input reads as it did. -/
def imageLaysUptoRow : OpenClaim := { program := "ytigdchfjcfljjaa", sum := "286e48bd8ace632697ba67c9a19e7445fd5e6cf8704756831b9a1312e4552f9a", func := "logbook/logbooklaw12.ImageLays", spec := "imageLays", apart := false, narrowed := true }
def ImageLaysUptoSaid : Prop := imageLaysUptoRow.holds Try.pinned (OpenSpec.upto imageLaysSpec)

/-- 'logbooklaw12.ImagePlays', WHERE WHAT IT READS IS OF BULK AT MOST 1048576: true; the input reads as it did. -/
def imagePlaysUptoRow : OpenClaim := { program := "ytigdchfjcfljjaa", sum := "286e48bd8ace632697ba67c9a19e7445fd5e6cf8704756831b9a1312e4552f9a", func := "logbook/logbooklaw12.ImagePlays", spec := "imagePlays", unfollowed := true, recurses := true, apart := false, narrowed := true }
def ImagePlaysUptoSaid : Prop := imagePlaysUptoRow.holds Try.pinned (OpenSpec.upto imagePlaysSpec)

/-- 'logbooklaw14.ChainAppends', WHERE WHAT IT READS IS OF BULK AT MOST 1048576: true; the input reads as it did. -/
def chainAppendsUptoRow : OpenClaim := { program := "ytigdchfjcfljjaa", sum := "286e48bd8ace632697ba67c9a19e7445fd5e6cf8704756831b9a1312e4552f9a", func := "logbook/logbooklaw14.ChainAppends", spec := "chainAppends", unfollowed := true, recurses := true, apart := false, narrowed := true }
def ChainAppendsUptoSaid : Prop := chainAppendsUptoRow.holds Try.pinned (OpenSpec.upto chainAppendsSpec)

/-- 'logbooklaw14.ChainTells', WHERE WHAT IT READS IS OF BULK AT MOST 1048576: true; the input reads as it did. -/
def chainTellsUptoRow : OpenClaim := { program := "ytigdchfjcfljjaa", sum := "286e48bd8ace632697ba67c9a19e7445fd5e6cf8704756831b9a1312e4552f9a", func := "logbook/logbooklaw14.ChainTells", spec := "chainTells", unfollowed := true, recurses := true, apart := false, narrowed := true }
def ChainTellsUptoSaid : Prop := chainTellsUptoRow.holds Try.pinned (OpenSpec.upto chainTellsSpec)

/-- 'logbooklaw13.TableBuckets', WHERE WHAT IT READS IS OF BULK AT MOST 1048576: true; the input reads as it did. -/
def tableBucketsUptoRow : OpenClaim := { program := "ytigdchfjcfljjaa", sum := "286e48bd8ace632697ba67c9a19e7445fd5e6cf8704756831b9a1312e4552f9a", func := "logbook/logbooklaw13.TableBuckets", spec := "tableBuckets", unfollowed := true, recurses := true, apart := false, narrowed := true }
def TableBucketsUptoSaid : Prop := tableBucketsUptoRow.holds Try.pinned (OpenSpec.upto tableBucketsSpec)

/-- 'logbooklaw13.TableFollows', WHERE WHAT IT READS IS OF BULK AT MOST 1048576: true; the input reads as it did. -/
def tableFollowsUptoRow : OpenClaim := { program := "ytigdchfjcfljjaa", sum := "286e48bd8ace632697ba67c9a19e7445fd5e6cf8704756831b9a1312e4552f9a", func := "logbook/logbooklaw13.TableFollows", spec := "tableFollows", unfollowed := true, recurses := true, apart := false, narrowed := true }
def TableFollowsUptoSaid : Prop := tableFollowsUptoRow.holds Try.pinned (OpenSpec.upto tableFollowsSpec)

/-- 'logbooklaw13.TableAdds', WHERE WHAT IT READS IS OF BULK AT MOST 1048576: true; the input reads as it did. -/
def tableAddsUptoRow : OpenClaim := { program := "ytigdchfjcfljjaa", sum := "286e48bd8ace632697ba67c9a19e7445fd5e6cf8704756831b9a1312e4552f9a", func := "logbook/logbooklaw13.TableAdds", spec := "tableAdds", unfollowed := true, recurses := true, apart := false, narrowed := true }
def TableAddsUptoSaid : Prop := tableAddsUptoRow.holds Try.pinned (OpenSpec.upto tableAddsSpec)

/-- 'logbooklaw14.ChainBroken', WHERE WHAT IT READS IS OF BULK AT MOST 1048576: true; the input reads as it did. -/
def chainBrokenUptoRow : OpenClaim := { program := "ytigdchfjcfljjaa", sum := "286e48bd8ace632697ba67c9a19e7445fd5e6cf8704756831b9a1312e4552f9a", func := "logbook/logbooklaw14.ChainBroken", spec := "chainBroken", unfollowed := true, recurses := true, apart := false, narrowed := true }
def ChainBrokenUptoSaid : Prop := chainBrokenUptoRow.holds Try.pinned (OpenSpec.upto chainBrokenSpec)

end Rows
end Go.Proofs.Ytigdchfjcfljjaa
