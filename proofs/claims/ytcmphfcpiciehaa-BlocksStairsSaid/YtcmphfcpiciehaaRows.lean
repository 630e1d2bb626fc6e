/-
  No cell of these rows narrows 'for every input' (looked for: loops, veiled, ifaces, maps, wideKeys, modest, calm, conditions, laid).
  DERIVED. THE GIVEN ROWS OF THIS SEAT. 12 by the template 'for every input the law returns true; each argument reads behind the call as it read before'; 0 by the template 'total and deterministic' (their statements: YtcmphfcpiciehaaTotals.lean).
  GIVEN WITH THE SEED: the statements are not yours to turn. If you find one false, say at which input.
  Laid BY PROGRAM, IN A SANDBOX (cutbox-rows.mjs): the forced cells as the released guide's own fill.sh prints them over the translation 4be0786f3171bbc0… (all of the seat's roots in one cut). By AI agents, Wed Nov 11 2026. No macro, syntax, notation, axiom, sorry.
-/
import Derived.Test.YtcmphfcpiciehaaChecked
import GoSem.Claim
import GoSem.ClaimJoined
import GoSem.ClaimMapViews
import Derived.JoinedTies
import Derived.KernelRfl
namespace Go.Proofs.Ytcmphfcpiciehaa
/- THE CELL 'sum', in the pinned program and in every row, IS THE sha256 OF THE DUMP (.gsa) THAT YtcmphfcpiciehaaProg.lean LOADS. Nothing in Lean hashes anything: it is a label: what it is worth is what the hold of that sum in a sandbox is worth. -/
noncomputable def Try.pinned : Pinned := { name := "ytcmphfcpiciehaa", sum := "4be0786f3171bbc02d6176d2b2c7451bee6d92df3958c06134f6da8a737b6553", checked := Try.checked }
namespace Rows
def none {H : Type} : Left H := { results := [], args := [] }

/-- 'clochelaw04.BlocksQuotients': WHATEVER THE INPUT: true; the input reads as it did. -/
def blocksQuotientsSpec : ChangeSpec := { name := "blocksQuotients", fn := fun _ => fun
  | [d1, d2, d3, d4] => { results := [.lit (.bool true)], args := [d1, d2, d3, d4] }
  | _ => none }
def blocksQuotientsRow : OpenClaim := { program := "ytcmphfcpiciehaa", sum := "4be0786f3171bbc02d6176d2b2c7451bee6d92df3958c06134f6da8a737b6553", func := "cloche/clochelaw04.BlocksQuotients", spec := "blocksQuotients", unfollowed := true, recurses := true, apart := false }
def BlocksQuotientsSaid : Prop := blocksQuotientsRow.holds Try.pinned (OpenSpec.ofChange blocksQuotientsSpec)

/-- ITS FALSE NEIGHBOUR: 'it returns false'. Refute it at one input. -/
def blocksQuotientsWrong : ChangeSpec := { name := "blocksQuotients", fn := fun _ => fun
  | [d1, d2, d3, d4] => { results := [.lit (.bool false)], args := [d1, d2, d3, d4] }
  | _ => none }
def BlocksQuotientsWrongFalsely : Prop := blocksQuotientsRow.holds Try.pinned (OpenSpec.ofChange blocksQuotientsWrong)

/-- 'clochelaw04.BlocksWays': WHATEVER THE INPUT: true; the input reads as it did. -/
def blocksWaysSpec : ChangeSpec := { name := "blocksWays", fn := fun _ => fun
  | [d] => { results := [.lit (.bool true)], args := [d] }
  | _ => none }
def blocksWaysRow : OpenClaim := { program := "ytcmphfcpiciehaa", sum := "4be0786f3171bbc02d6176d2b2c7451bee6d92df3958c06134f6da8a737b6553", func := "cloche/clochelaw04.BlocksWays", spec := "blocksWays", unfollowed := true, recurses := true, apart := false }
def BlocksWaysSaid : Prop := blocksWaysRow.holds Try.pinned (OpenSpec.ofChange blocksWaysSpec)

/-- ITS FALSE NEIGHBOUR: 'it returns false'. Refute it at one input. -/
def blocksWaysWrong : ChangeSpec := { name := "blocksWays", fn := fun _ => fun
  | [d] => { results := [.lit (.bool false)], args := [d] }
  | _ => none }
def BlocksWaysWrongFalsely : Prop := blocksWaysRow.holds Try.pinned (OpenSpec.ofChange blocksWaysWrong)

/-- 'clochelaw04.BlocksBack': WHATEVER THE INPUT: true; the input reads as it did. -/
def blocksBackSpec : ChangeSpec := { name := "blocksBack", fn := fun _ => fun
  | [d1, d2] => { results := [.lit (.bool true)], args := [d1, d2] }
  | _ => none }
def blocksBackRow : OpenClaim := { program := "ytcmphfcpiciehaa", sum := "4be0786f3171bbc02d6176d2b2c7451bee6d92df3958c06134f6da8a737b6553", func := "cloche/clochelaw04.BlocksBack", spec := "blocksBack", unfollowed := true, recurses := true, apart := false }
def BlocksBackSaid : Prop := blocksBackRow.holds Try.pinned (OpenSpec.ofChange blocksBackSpec)

/-- ITS FALSE NEIGHBOUR: 'it returns false'. Refute it at one input. -/
def blocksBackWrong : ChangeSpec := { name := "blocksBack", fn := fun _ => fun
  | [d1, d2] => { results := [.lit (.bool false)], args := [d1, d2] }
  | _ => none }
def BlocksBackWrongFalsely : Prop := blocksBackRow.holds Try.pinned (OpenSpec.ofChange blocksBackWrong)

/-- 'clochelaw04.BlocksThere': WHATEVER THE INPUT: true; the input reads as it did. -/
def blocksThereSpec : ChangeSpec := { name := "blocksThere", fn := fun _ => fun
  | [d1, d2] => { results := [.lit (.bool true)], args := [d1, d2] }
  | _ => none }
def blocksThereRow : OpenClaim := { program := "ytcmphfcpiciehaa", sum := "4be0786f3171bbc02d6176d2b2c7451bee6d92df3958c06134f6da8a737b6553", func := "cloche/clochelaw04.BlocksThere", spec := "blocksThere", unfollowed := true, recurses := true, apart := false }
def BlocksThereSaid : Prop := blocksThereRow.holds Try.pinned (OpenSpec.ofChange blocksThereSpec)

/-- ITS FALSE NEIGHBOUR: 'it returns false'. Refute it at one input. -/
def blocksThereWrong : ChangeSpec := { name := "blocksThere", fn := fun _ => fun
  | [d1, d2] => { results := [.lit (.bool false)], args := [d1, d2] }
  | _ => none }
def BlocksThereWrongFalsely : Prop := blocksThereRow.holds Try.pinned (OpenSpec.ofChange blocksThereWrong)

/-- 'clochelaw04.BlocksProduct': WHATEVER THE INPUT: true; the input reads as it did. -/
def blocksProductSpec : ChangeSpec := { name := "blocksProduct", fn := fun _ => fun
  | [d] => { results := [.lit (.bool true)], args := [d] }
  | _ => none }
def blocksProductRow : OpenClaim := { program := "ytcmphfcpiciehaa", sum := "4be0786f3171bbc02d6176d2b2c7451bee6d92df3958c06134f6da8a737b6553", func := "cloche/clochelaw04.BlocksProduct", spec := "blocksProduct", unfollowed := true, recurses := true, apart := false }
def BlocksProductSaid : Prop := blocksProductRow.holds Try.pinned (OpenSpec.ofChange blocksProductSpec)

/-- ITS FALSE NEIGHBOUR: 'it returns false'. Refute it at one input. -/
def blocksProductWrong : ChangeSpec := { name := "blocksProduct", fn := fun _ => fun
  | [d] => { results := [.lit (.bool false)], args := [d] }
  | _ => none }
def BlocksProductWrongFalsely : Prop := blocksProductRow.holds Try.pinned (OpenSpec.ofChange blocksProductWrong)

/-- 'clochelaw04.BlocksShapes': WHATEVER THE INPUT: true; the input reads as it did. -/
def blocksShapesSpec : ChangeSpec := { name := "blocksShapes", fn := fun _ => fun
  | [d] => { results := [.lit (.bool true)], args := [d] }
  | _ => none }
def blocksShapesRow : OpenClaim := { program := "ytcmphfcpiciehaa", sum := "4be0786f3171bbc02d6176d2b2c7451bee6d92df3958c06134f6da8a737b6553", func := "cloche/clochelaw04.BlocksShapes", spec := "blocksShapes", unfollowed := true, recurses := true, apart := false }
def BlocksShapesSaid : Prop := blocksShapesRow.holds Try.pinned (OpenSpec.ofChange blocksShapesSpec)

/-- ITS FALSE NEIGHBOUR: 'it returns false'. Refute it at one input. -/
def blocksShapesWrong : ChangeSpec := { name := "blocksShapes", fn := fun _ => fun
  | [d] => { results := [.lit (.bool false)], args := [d] }
  | _ => none }
def BlocksShapesWrongFalsely : Prop := blocksShapesRow.holds Try.pinned (OpenSpec.ofChange blocksShapesWrong)

/-- 'clochelaw04.BlocksTurned': WHATEVER THE INPUT: true; the input reads as it did. -/
def blocksTurnedSpec : ChangeSpec := { name := "blocksTurned", fn := fun _ => fun
  | [d1, d2] => { results := [.lit (.bool true)], args := [d1, d2] }
  | _ => none }
def blocksTurnedRow : OpenClaim := { program := "ytcmphfcpiciehaa", sum := "4be0786f3171bbc02d6176d2b2c7451bee6d92df3958c06134f6da8a737b6553", func := "cloche/clochelaw04.BlocksTurned", spec := "blocksTurned", unfollowed := true, recurses := true, apart := false }
def BlocksTurnedSaid : Prop := blocksTurnedRow.holds Try.pinned (OpenSpec.ofChange blocksTurnedSpec)

/-- ITS FALSE NEIGHBOUR: 'it returns false'. Refute it at one input. -/
def blocksTurnedWrong : ChangeSpec := { name := "blocksTurned", fn := fun _ => fun
  | [d1, d2] => { results := [.lit (.bool false)], args := [d1, d2] }
  | _ => none }
def BlocksTurnedWrongFalsely : Prop := blocksTurnedRow.holds Try.pinned (OpenSpec.ofChange blocksTurnedWrong)

/-- 'clochelaw04.BlocksStrips': WHATEVER THE INPUT: true; the input reads as it did. -/
def blocksStripsSpec : ChangeSpec := { name := "blocksStrips", fn := fun _ => fun
  | [d1, d2] => { results := [.lit (.bool true)], args := [d1, d2] }
  | _ => none }
def blocksStripsRow : OpenClaim := { program := "ytcmphfcpiciehaa", sum := "4be0786f3171bbc02d6176d2b2c7451bee6d92df3958c06134f6da8a737b6553", func := "cloche/clochelaw04.BlocksStrips", spec := "blocksStrips", unfollowed := true, recurses := true, apart := false }
def BlocksStripsSaid : Prop := blocksStripsRow.holds Try.pinned (OpenSpec.ofChange blocksStripsSpec)

/-- ITS FALSE NEIGHBOUR: 'it returns false'. Refute it at one input. -/
def blocksStripsWrong : ChangeSpec := { name := "blocksStrips", fn := fun _ => fun
  | [d1, d2] => { results := [.lit (.bool false)], args := [d1, d2] }
  | _ => none }
def BlocksStripsWrongFalsely : Prop := blocksStripsRow.holds Try.pinned (OpenSpec.ofChange blocksStripsWrong)

/-- 'clochelaw04.BlocksNakayama': WHATEVER THE INPUT: true; the input reads as it did. -/
def blocksNakayamaSpec : ChangeSpec := { name := "blocksNakayama", fn := fun _ => fun
  | [d1, d2] => { results := [.lit (.bool true)], args := [d1, d2] }
  | _ => none }
def blocksNakayamaRow : OpenClaim := { program := "ytcmphfcpiciehaa", sum := "4be0786f3171bbc02d6176d2b2c7451bee6d92df3958c06134f6da8a737b6553", func := "cloche/clochelaw04.BlocksNakayama", spec := "blocksNakayama", unfollowed := true, recurses := true, apart := false }
def BlocksNakayamaSaid : Prop := blocksNakayamaRow.holds Try.pinned (OpenSpec.ofChange blocksNakayamaSpec)

/-- ITS FALSE NEIGHBOUR: 'it returns false'. Refute it at one input. -/
def blocksNakayamaWrong : ChangeSpec := { name := "blocksNakayama", fn := fun _ => fun
  | [d1, d2] => { results := [.lit (.bool false)], args := [d1, d2] }
  | _ => none }
def BlocksNakayamaWrongFalsely : Prop := blocksNakayamaRow.holds Try.pinned (OpenSpec.ofChange blocksNakayamaWrong)

/-- 'clochelaw04.BlocksHooked': WHATEVER THE INPUT: true; the input reads as it did. -/
def blocksHookedSpec : ChangeSpec := { name := "blocksHooked", fn := fun _ => fun
  | [d1, d2] => { results := [.lit (.bool true)], args := [d1, d2] }
  | _ => none }
def blocksHookedRow : OpenClaim := { program := "ytcmphfcpiciehaa", sum := "4be0786f3171bbc02d6176d2b2c7451bee6d92df3958c06134f6da8a737b6553", func := "cloche/clochelaw04.BlocksHooked", spec := "blocksHooked", unfollowed := true, recurses := true, apart := false }
def BlocksHookedSaid : Prop := blocksHookedRow.holds Try.pinned (OpenSpec.ofChange blocksHookedSpec)

/-- ITS FALSE NEIGHBOUR: 'it returns false'. Refute it at one input. -/
def blocksHookedWrong : ChangeSpec := { name := "blocksHooked", fn := fun _ => fun
  | [d1, d2] => { results := [.lit (.bool false)], args := [d1, d2] }
  | _ => none }
def BlocksHookedWrongFalsely : Prop := blocksHookedRow.holds Try.pinned (OpenSpec.ofChange blocksHookedWrong)

/-- 'clochelaw04.BlocksCores': WHATEVER THE INPUT: true; the input reads as it did. -/
def blocksCoresSpec : ChangeSpec := { name := "blocksCores", fn := fun _ => fun
  | [d1, d2] => { results := [.lit (.bool true)], args := [d1, d2] }
  | _ => none }
def blocksCoresRow : OpenClaim := { program := "ytcmphfcpiciehaa", sum := "4be0786f3171bbc02d6176d2b2c7451bee6d92df3958c06134f6da8a737b6553", func := "cloche/clochelaw04.BlocksCores", spec := "blocksCores", unfollowed := true, recurses := true, apart := false }
def BlocksCoresSaid : Prop := blocksCoresRow.holds Try.pinned (OpenSpec.ofChange blocksCoresSpec)

/-- ITS FALSE NEIGHBOUR: 'it returns false'. Refute it at one input. -/
def blocksCoresWrong : ChangeSpec := { name := "blocksCores", fn := fun _ => fun
  | [d1, d2] => { results := [.lit (.bool false)], args := [d1, d2] }
  | _ => none }
def BlocksCoresWrongFalsely : Prop := blocksCoresRow.holds Try.pinned (OpenSpec.ofChange blocksCoresWrong)

/-- 'clochelaw04.BlocksStairs': WHATEVER THE INPUT: true; the input reads as it did. -/
def blocksStairsSpec : ChangeSpec := { name := "blocksStairs", fn := fun _ => fun
  | [d1, d2] => { results := [.lit (.bool true)], args := [d1, d2] }
  | _ => none }
def blocksStairsRow : OpenClaim := { program := "ytcmphfcpiciehaa", sum := "4be0786f3171bbc02d6176d2b2c7451bee6d92df3958c06134f6da8a737b6553", func := "cloche/clochelaw04.BlocksStairs", spec := "blocksStairs", unfollowed := true, recurses := true, apart := false }
def BlocksStairsSaid : Prop := blocksStairsRow.holds Try.pinned (OpenSpec.ofChange blocksStairsSpec)

/-- ITS FALSE NEIGHBOUR: 'it returns false'. Refute it at one input. -/
def blocksStairsWrong : ChangeSpec := { name := "blocksStairs", fn := fun _ => fun
  | [d1, d2] => { results := [.lit (.bool false)], args := [d1, d2] }
  | _ => none }
def BlocksStairsWrongFalsely : Prop := blocksStairsRow.holds Try.pinned (OpenSpec.ofChange blocksStairsWrong)

/- THE SECOND FORM. 'bulk': how many values and letters a reading holds, each counted each time it is reached (what is shared counts as often as it is met; a slice's spare places count too). A statement '..UptoSaid' is the law's where the arguments, and the package variables that the reading takes, are together of bulk at most 1048576: NARROWER than '..Said'. Prove '..Said' where nothing that the law and all that it calls make is longer than what came in: it says more and counts as full. Else prove '..UptoSaid'. A law counts once. -/
mutual
def uptoBulk {H : Type} : DataW H → Nat
  | .lit (.string bytes) => bytes.length + 1
  | .lit _ => 1
  | .nil => 1
  | .ptr d => uptoBulk d + 1
  | .slice elems spare => uptoBulkAll elems + uptoBulkAll spare + 1
  | .agg parts => uptoBulkAll parts + 1
  | .iface _ d => uptoBulk d + 1
  | .map entries => uptoBulkEntries entries + 1
  | .held _ => 1
def uptoBulkAll {H : Type} : List (DataW H) → Nat
  | [] => 0
  | d :: r => uptoBulk d + uptoBulkAll r
def uptoBulkEntries {H : Type} : List (Lit × DataW H) → Nat
  | [] => 0
  | x :: r => uptoBulkEntry x + uptoBulkEntries r
def uptoBulkEntry {H : Type} : Lit × DataW H → Nat
  | (.string bytes, d) => bytes.length + uptoBulk d + 1
  | (_, d) => uptoBulk d + 1
 end
def uptoSmall : (H : Type) → List (DataW H) → Bool := fun _ ds => decide (uptoBulkAll ds ≤ 1048576)
def OpenSpec.upto (s : _root_.Go.ChangeSpec) : _root_.Go.OpenSpec := { _root_.Go.OpenSpec.ofChange s with cond := some uptoSmall }

/-- 'clochelaw04.BlocksQuotients', WHERE WHAT IT READS IS OF BULK AT MOST 1048576: true; the input reads as it did. -/
def blocksQuotientsUptoRow : OpenClaim := { program := "ytcmphfcpiciehaa", sum := "4be0786f3171bbc02d6176d2b2c7451bee6d92df3958c06134f6da8a737b6553", func := "cloche/clochelaw04.BlocksQuotients", spec := "blocksQuotients", unfollowed := true, recurses := true, apart := false, narrowed := true }
def BlocksQuotientsUptoSaid : Prop := blocksQuotientsUptoRow.holds Try.pinned (OpenSpec.upto blocksQuotientsSpec)

/-- 'clochelaw04.BlocksWays', WHERE WHAT IT READS IS OF BULK AT MOST 1048576: true; the input reads as it did. -/
def blocksWaysUptoRow : OpenClaim := { program := "ytcmphfcpiciehaa", sum := "4be0786f3171bbc02d6176d2b2c7451bee6d92df3958c06134f6da8a737b6553", func := "cloche/clochelaw04.BlocksWays", spec := "blocksWays", unfollowed := true, recurses := true, apart := false, narrowed := true }
def BlocksWaysUptoSaid : Prop := blocksWaysUptoRow.holds Try.pinned (OpenSpec.upto blocksWaysSpec)

/-- 'clochelaw04.BlocksBack', WHERE WHAT IT READS IS OF BULK AT MOST 1048576: true; the input reads as it did. -/
def blocksBackUptoRow : OpenClaim := { program := "ytcmphfcpiciehaa", sum := "4be0786f3171bbc02d6176d2b2c7451bee6d92df3958c06134f6da8a737b6553", func := "cloche/clochelaw04.BlocksBack", spec := "blocksBack", unfollowed := true, recurses := true, apart := false, narrowed := true }
def BlocksBackUptoSaid : Prop := blocksBackUptoRow.holds Try.pinned (OpenSpec.upto blocksBackSpec)

/-- 'clochelaw04.BlocksThere', WHERE WHAT IT READS IS OF BULK AT MOST 1048576: true; the input reads as it did. -/
def blocksThereUptoRow : OpenClaim := { program := "ytcmphfcpiciehaa", sum := "4be0786f3171bbc02d6176d2b2c7451bee6d92df3958c06134f6da8a737b6553", func := "cloche/clochelaw04.BlocksThere", spec := "blocksThere", unfollowed := true, recurses := true, apart := false, narrowed := true }
def BlocksThereUptoSaid : Prop := blocksThereUptoRow.holds Try.pinned (OpenSpec.upto blocksThereSpec)

/-- 'clochelaw04.BlocksProduct', WHERE WHAT IT READS IS OF BULK AT MOST 1048576: true; the input reads as it did. -/
def blocksProductUptoRow : OpenClaim := { program := "ytcmphfcpiciehaa", sum := "4be0786f3171bbc02d6176d2b2c7451bee6d92df3958c06134f6da8a737b6553", func := "cloche/clochelaw04.BlocksProduct", spec := "blocksProduct", unfollowed := true, recurses := true, apart := false, narrowed := true }
def BlocksProductUptoSaid : Prop := blocksProductUptoRow.holds Try.pinned (OpenSpec.upto blocksProductSpec)

/-- 'clochelaw04.BlocksShapes', WHERE WHAT IT READS IS OF BULK AT MOST 1048576: true; the input reads as it did. -/
def blocksShapesUptoRow : OpenClaim := { program := "ytcmphfcpiciehaa", sum := "4be0786f3171bbc02d6176d2b2c7451bee6d92df3958c06134f6da8a737b6553", func := "cloche/clochelaw04.BlocksShapes", spec := "blocksShapes", unfollowed := true, recurses := true, apart := false, narrowed := true }
def BlocksShapesUptoSaid : Prop := blocksShapesUptoRow.holds Try.pinned (OpenSpec.upto blocksShapesSpec)

/-- 'clochelaw04.BlocksTurned', WHERE WHAT IT READS IS OF BULK AT MOST 1048576: true; the input reads as it did. -/
def blocksTurnedUptoRow : OpenClaim := { program := "ytcmphfcpiciehaa", sum := "4be0786f3171bbc02d6176d2b2c7451bee6d92df3958c06134f6da8a737b6553", func := "cloche/clochelaw04.BlocksTurned", spec := "blocksTurned", unfollowed := true, recurses := true, apart := false, narrowed := true }
def BlocksTurnedUptoSaid : Prop := blocksTurnedUptoRow.holds Try.pinned (OpenSpec.upto blocksTurnedSpec)

/-- 'clochelaw04.BlocksStrips', WHERE WHAT IT READS IS OF BULK AT MOST 1048576: true; the input reads as it did. -/
def blocksStripsUptoRow : OpenClaim := { program := "ytcmphfcpiciehaa", sum := "4be0786f3171bbc02d6176d2b2c7451bee6d92df3958c06134f6da8a737b6553", func := "cloche/clochelaw04.BlocksStrips", spec := "blocksStrips", unfollowed := true, recurses := true, apart := false, narrowed := true }
def BlocksStripsUptoSaid : Prop := blocksStripsUptoRow.holds Try.pinned (OpenSpec.upto blocksStripsSpec)

/-- 'clochelaw04.BlocksNakayama', WHERE WHAT IT READS IS OF BULK AT MOST 1048576: true; the input reads as it did. -/
def blocksNakayamaUptoRow : OpenClaim := { program := "ytcmphfcpiciehaa", sum := "4be0786f3171bbc02d6176d2b2c7451bee6d92df3958c06134f6da8a737b6553", func := "cloche/clochelaw04.BlocksNakayama", spec := "blocksNakayama", unfollowed := true, recurses := true, apart := false, narrowed := true }
def BlocksNakayamaUptoSaid : Prop := blocksNakayamaUptoRow.holds Try.pinned (OpenSpec.upto blocksNakayamaSpec)

/-- 'clochelaw04.BlocksHooked', WHERE WHAT IT READS IS OF BULK AT MOST 1048576: true; the input reads as it did. -/
def blocksHookedUptoRow : OpenClaim := { program := "ytcmphfcpiciehaa", sum := "4be0786f3171bbc02d6176d2b2c7451bee6d92df3958c06134f6da8a737b6553", func := "cloche/clochelaw04.BlocksHooked", spec := "blocksHooked", unfollowed := true, recurses := true, apart := false, narrowed := true }
def BlocksHookedUptoSaid : Prop := blocksHookedUptoRow.holds Try.pinned (OpenSpec.upto blocksHookedSpec)

/-- 'clochelaw04.BlocksCores', WHERE WHAT IT READS IS OF BULK AT MOST 1048576: true; the input reads as it did. -/
def blocksCoresUptoRow : OpenClaim := { program := "ytcmphfcpiciehaa", sum := "4be0786f3171bbc02d6176d2b2c7451bee6d92df3958c06134f6da8a737b6553", func := "cloche/clochelaw04.BlocksCores", spec := "blocksCores", unfollowed := true, recurses := true, apart := false, narrowed := true }
def BlocksCoresUptoSaid : Prop := blocksCoresUptoRow.holds Try.pinned (OpenSpec.upto blocksCoresSpec)

/-- 'clochelaw04.BlocksStairs', WHERE WHAT IT READS IS OF BULK AT MOST 1048576: true; the input reads as it did. -/
def blocksStairsUptoRow : OpenClaim := { program := "ytcmphfcpiciehaa", sum := "4be0786f3171bbc02d6176d2b2c7451bee6d92df3958c06134f6da8a737b6553", func := "cloche/clochelaw04.BlocksStairs", spec := "blocksStairs", unfollowed := true, recurses := true, apart := false, narrowed := true }
def BlocksStairsUptoSaid : Prop := blocksStairsUptoRow.holds Try.pinned (OpenSpec.upto blocksStairsSpec)

end Rows
end Go.Proofs.Ytcmphfcpiciehaa
