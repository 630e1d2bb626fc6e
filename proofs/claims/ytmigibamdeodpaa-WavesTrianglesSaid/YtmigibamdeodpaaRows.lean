/-
  No cell of these rows narrows 'for every input' (looked for: loops, veiled, ifaces, maps, wideKeys, modest, calm, conditions, laid).
  DERIVED. THE GIVEN ROWS OF THIS SEAT. 11 by the template 'for every input the law returns true; each argument reads behind the call as it read before'; 0 by the template 'total and deterministic' (their statements: YtmigibamdeodpaaTotals.lean).
  GIVEN WITH THE SEED: the statements are not yours to turn. If you find one false, say at which input.
  Laid BY PROGRAM, IN A SANDBOX (cutbox-rows.mjs): the forced cells as the released guide's own fill.sh prints them over the translation e7a3a353c13b3497… (all of the seat's roots in one cut). By AI agents, Wed Nov 11 2026. No macro, syntax, notation, axiom, sorry.
-/
import Derived.Test.YtmigibamdeodpaaChecked
import GoSem.Claim
import GoSem.ClaimJoined
import GoSem.ClaimMapViews
import Derived.JoinedTies
import Derived.KernelRfl
namespace Go.Proofs.Ytmigibamdeodpaa
/- THE CELL 'sum', in the pinned program and in every row, IS THE sha256 OF THE DUMP (.gsa) THAT YtmigibamdeodpaaProg.lean LOADS. Nothing in Lean hashes anything: it is a label: what it is worth is what the hold of that sum in a sandbox is worth. -/
noncomputable def Try.pinned : Pinned := { name := "ytmigibamdeodpaa", sum := "e7a3a353c13b34975c02e09b4307b4a767983015f2ff32ac023fe820dbd54497", checked := Try.checked }
namespace Rows
def none {H : Type} : Left H := { results := [], args := [] }

/-- 'clochelaw05.WavesTriangles': WHATEVER THE INPUT: true; the input reads as it did. -/
def wavesTrianglesSpec : ChangeSpec := { name := "wavesTriangles", fn := fun _ => fun
  | [d] => { results := [.lit (.bool true)], args := [d] }
  | _ => none }
def wavesTrianglesRow : OpenClaim := { program := "ytmigibamdeodpaa", sum := "e7a3a353c13b34975c02e09b4307b4a767983015f2ff32ac023fe820dbd54497", func := "cloche/clochelaw05.WavesTriangles", spec := "wavesTriangles", unfollowed := true, recurses := true, apart := false }
def WavesTrianglesSaid : Prop := wavesTrianglesRow.holds Try.pinned (OpenSpec.ofChange wavesTrianglesSpec)

/-- ITS FALSE NEIGHBOUR: 'it returns false'. Refute it at one input. -/
def wavesTrianglesWrong : ChangeSpec := { name := "wavesTriangles", fn := fun _ => fun
  | [d] => { results := [.lit (.bool false)], args := [d] }
  | _ => none }
def WavesTrianglesWrongFalsely : Prop := wavesTrianglesRow.holds Try.pinned (OpenSpec.ofChange wavesTrianglesWrong)

/-- 'clochelaw05.WavesRanks': WHATEVER THE INPUT: true; the input reads as it did. -/
def wavesRanksSpec : ChangeSpec := { name := "wavesRanks", fn := fun _ => fun
  | [d1, d2, d3] => { results := [.lit (.bool true)], args := [d1, d2, d3] }
  | _ => none }
def wavesRanksRow : OpenClaim := { program := "ytmigibamdeodpaa", sum := "e7a3a353c13b34975c02e09b4307b4a767983015f2ff32ac023fe820dbd54497", func := "cloche/clochelaw05.WavesRanks", spec := "wavesRanks", unfollowed := true, recurses := true, apart := false }
def WavesRanksSaid : Prop := wavesRanksRow.holds Try.pinned (OpenSpec.ofChange wavesRanksSpec)

/-- ITS FALSE NEIGHBOUR: 'it returns false'. Refute it at one input. -/
def wavesRanksWrong : ChangeSpec := { name := "wavesRanks", fn := fun _ => fun
  | [d1, d2, d3] => { results := [.lit (.bool false)], args := [d1, d2, d3] }
  | _ => none }
def WavesRanksWrongFalsely : Prop := wavesRanksRow.holds Try.pinned (OpenSpec.ofChange wavesRanksWrong)

/-- 'clochelaw05.WavesTwice': WHATEVER THE INPUT: true; the input reads as it did. -/
def wavesTwiceSpec : ChangeSpec := { name := "wavesTwice", fn := fun _ => fun
  | [d] => { results := [.lit (.bool true)], args := [d] }
  | _ => none }
def wavesTwiceRow : OpenClaim := { program := "ytmigibamdeodpaa", sum := "e7a3a353c13b34975c02e09b4307b4a767983015f2ff32ac023fe820dbd54497", func := "cloche/clochelaw05.WavesTwice", spec := "wavesTwice", unfollowed := true, recurses := true, apart := false }
def WavesTwiceSaid : Prop := wavesTwiceRow.holds Try.pinned (OpenSpec.ofChange wavesTwiceSpec)

/-- ITS FALSE NEIGHBOUR: 'it returns false'. Refute it at one input. -/
def wavesTwiceWrong : ChangeSpec := { name := "wavesTwice", fn := fun _ => fun
  | [d] => { results := [.lit (.bool false)], args := [d] }
  | _ => none }
def WavesTwiceWrongFalsely : Prop := wavesTwiceRow.holds Try.pinned (OpenSpec.ofChange wavesTwiceWrong)

/-- 'clochelaw05.WavesRanked': WHATEVER THE INPUT: true; the input reads as it did. -/
def wavesRankedSpec : ChangeSpec := { name := "wavesRanked", fn := fun _ => fun
  | [d1, d2, d3, d4] => { results := [.lit (.bool true)], args := [d1, d2, d3, d4] }
  | _ => none }
def wavesRankedRow : OpenClaim := { program := "ytmigibamdeodpaa", sum := "e7a3a353c13b34975c02e09b4307b4a767983015f2ff32ac023fe820dbd54497", func := "cloche/clochelaw05.WavesRanked", spec := "wavesRanked", unfollowed := true, recurses := true, apart := false }
def WavesRankedSaid : Prop := wavesRankedRow.holds Try.pinned (OpenSpec.ofChange wavesRankedSpec)

/-- ITS FALSE NEIGHBOUR: 'it returns false'. Refute it at one input. -/
def wavesRankedWrong : ChangeSpec := { name := "wavesRanked", fn := fun _ => fun
  | [d1, d2, d3, d4] => { results := [.lit (.bool false)], args := [d1, d2, d3, d4] }
  | _ => none }
def WavesRankedWrongFalsely : Prop := wavesRankedRow.holds Try.pinned (OpenSpec.ofChange wavesRankedWrong)

/-- 'clochelaw05.WavesCounts': WHATEVER THE INPUT: true; the input reads as it did. -/
def wavesCountsSpec : ChangeSpec := { name := "wavesCounts", fn := fun _ => fun
  | [d1, d2] => { results := [.lit (.bool true)], args := [d1, d2] }
  | _ => none }
def wavesCountsRow : OpenClaim := { program := "ytmigibamdeodpaa", sum := "e7a3a353c13b34975c02e09b4307b4a767983015f2ff32ac023fe820dbd54497", func := "cloche/clochelaw05.WavesCounts", spec := "wavesCounts", unfollowed := true, recurses := true, apart := false }
def WavesCountsSaid : Prop := wavesCountsRow.holds Try.pinned (OpenSpec.ofChange wavesCountsSpec)

/-- ITS FALSE NEIGHBOUR: 'it returns false'. Refute it at one input. -/
def wavesCountsWrong : ChangeSpec := { name := "wavesCounts", fn := fun _ => fun
  | [d1, d2] => { results := [.lit (.bool false)], args := [d1, d2] }
  | _ => none }
def WavesCountsWrongFalsely : Prop := wavesCountsRow.holds Try.pinned (OpenSpec.ofChange wavesCountsWrong)

/-- 'clochelaw05.WavesSeidel': WHATEVER THE INPUT: true; the input reads as it did. -/
def wavesSeidelSpec : ChangeSpec := { name := "wavesSeidel", fn := fun _ => fun
  | [d] => { results := [.lit (.bool true)], args := [d] }
  | _ => none }
def wavesSeidelRow : OpenClaim := { program := "ytmigibamdeodpaa", sum := "e7a3a353c13b34975c02e09b4307b4a767983015f2ff32ac023fe820dbd54497", func := "cloche/clochelaw05.WavesSeidel", spec := "wavesSeidel", unfollowed := true, recurses := true, apart := false }
def WavesSeidelSaid : Prop := wavesSeidelRow.holds Try.pinned (OpenSpec.ofChange wavesSeidelSpec)

/-- ITS FALSE NEIGHBOUR: 'it returns false'. Refute it at one input. -/
def wavesSeidelWrong : ChangeSpec := { name := "wavesSeidel", fn := fun _ => fun
  | [d] => { results := [.lit (.bool false)], args := [d] }
  | _ => none }
def WavesSeidelWrongFalsely : Prop := wavesSeidelRow.holds Try.pinned (OpenSpec.ofChange wavesSeidelWrong)

/-- 'clochelaw05.WavesSnakes': WHATEVER THE INPUT: true; the input reads as it did. -/
def wavesSnakesSpec : ChangeSpec := { name := "wavesSnakes", fn := fun _ => fun
  | [d1, d2] => { results := [.lit (.bool true)], args := [d1, d2] }
  | _ => none }
def wavesSnakesRow : OpenClaim := { program := "ytmigibamdeodpaa", sum := "e7a3a353c13b34975c02e09b4307b4a767983015f2ff32ac023fe820dbd54497", func := "cloche/clochelaw05.WavesSnakes", spec := "wavesSnakes", unfollowed := true, recurses := true, apart := false }
def WavesSnakesSaid : Prop := wavesSnakesRow.holds Try.pinned (OpenSpec.ofChange wavesSnakesSpec)

/-- ITS FALSE NEIGHBOUR: 'it returns false'. Refute it at one input. -/
def wavesSnakesWrong : ChangeSpec := { name := "wavesSnakes", fn := fun _ => fun
  | [d1, d2] => { results := [.lit (.bool false)], args := [d1, d2] }
  | _ => none }
def WavesSnakesWrongFalsely : Prop := wavesSnakesRow.holds Try.pinned (OpenSpec.ofChange wavesSnakesWrong)

/-- 'clochelaw05.WavesTurned': WHATEVER THE INPUT: true; the input reads as it did. -/
def wavesTurnedSpec : ChangeSpec := { name := "wavesTurned", fn := fun _ => fun
  | [d] => { results := [.lit (.bool true)], args := [d] }
  | _ => none }
def wavesTurnedRow : OpenClaim := { program := "ytmigibamdeodpaa", sum := "e7a3a353c13b34975c02e09b4307b4a767983015f2ff32ac023fe820dbd54497", func := "cloche/clochelaw05.WavesTurned", spec := "wavesTurned", unfollowed := true, recurses := true, apart := false }
def WavesTurnedSaid : Prop := wavesTurnedRow.holds Try.pinned (OpenSpec.ofChange wavesTurnedSpec)

/-- ITS FALSE NEIGHBOUR: 'it returns false'. Refute it at one input. -/
def wavesTurnedWrong : ChangeSpec := { name := "wavesTurned", fn := fun _ => fun
  | [d] => { results := [.lit (.bool false)], args := [d] }
  | _ => none }
def WavesTurnedWrongFalsely : Prop := wavesTurnedRow.holds Try.pinned (OpenSpec.ofChange wavesTurnedWrong)

/-- 'clochelaw05.WavesSpringer': WHATEVER THE INPUT: true; the input reads as it did. -/
def wavesSpringerSpec : ChangeSpec := { name := "wavesSpringer", fn := fun _ => fun
  | [d1, d2] => { results := [.lit (.bool true)], args := [d1, d2] }
  | _ => none }
def wavesSpringerRow : OpenClaim := { program := "ytmigibamdeodpaa", sum := "e7a3a353c13b34975c02e09b4307b4a767983015f2ff32ac023fe820dbd54497", func := "cloche/clochelaw05.WavesSpringer", spec := "wavesSpringer", unfollowed := true, recurses := true, apart := false }
def WavesSpringerSaid : Prop := wavesSpringerRow.holds Try.pinned (OpenSpec.ofChange wavesSpringerSpec)

/-- ITS FALSE NEIGHBOUR: 'it returns false'. Refute it at one input. -/
def wavesSpringerWrong : ChangeSpec := { name := "wavesSpringer", fn := fun _ => fun
  | [d1, d2] => { results := [.lit (.bool false)], args := [d1, d2] }
  | _ => none }
def WavesSpringerWrongFalsely : Prop := wavesSpringerRow.holds Try.pinned (OpenSpec.ofChange wavesSpringerWrong)

/-- 'clochelaw05.WavesFoata': WHATEVER THE INPUT: true; the input reads as it did. -/
def wavesFoataSpec : ChangeSpec := { name := "wavesFoata", fn := fun _ => fun
  | [d] => { results := [.lit (.bool true)], args := [d] }
  | _ => none }
def wavesFoataRow : OpenClaim := { program := "ytmigibamdeodpaa", sum := "e7a3a353c13b34975c02e09b4307b4a767983015f2ff32ac023fe820dbd54497", func := "cloche/clochelaw05.WavesFoata", spec := "wavesFoata", unfollowed := true, recurses := true, apart := false }
def WavesFoataSaid : Prop := wavesFoataRow.holds Try.pinned (OpenSpec.ofChange wavesFoataSpec)

/-- ITS FALSE NEIGHBOUR: 'it returns false'. Refute it at one input. -/
def wavesFoataWrong : ChangeSpec := { name := "wavesFoata", fn := fun _ => fun
  | [d] => { results := [.lit (.bool false)], args := [d] }
  | _ => none }
def WavesFoataWrongFalsely : Prop := wavesFoataRow.holds Try.pinned (OpenSpec.ofChange wavesFoataWrong)

/-- 'clochelaw05.WavesRows': WHATEVER THE INPUT: true; the input reads as it did. -/
def wavesRowsSpec : ChangeSpec := { name := "wavesRows", fn := fun _ => fun
  | [d] => { results := [.lit (.bool true)], args := [d] }
  | _ => none }
def wavesRowsRow : OpenClaim := { program := "ytmigibamdeodpaa", sum := "e7a3a353c13b34975c02e09b4307b4a767983015f2ff32ac023fe820dbd54497", func := "cloche/clochelaw05.WavesRows", spec := "wavesRows", unfollowed := true, recurses := true, apart := false }
def WavesRowsSaid : Prop := wavesRowsRow.holds Try.pinned (OpenSpec.ofChange wavesRowsSpec)

/-- ITS FALSE NEIGHBOUR: 'it returns false'. Refute it at one input. -/
def wavesRowsWrong : ChangeSpec := { name := "wavesRows", fn := fun _ => fun
  | [d] => { results := [.lit (.bool false)], args := [d] }
  | _ => none }
def WavesRowsWrongFalsely : Prop := wavesRowsRow.holds Try.pinned (OpenSpec.ofChange wavesRowsWrong)

/- THE SECOND FORM. 'bulk': how many values and letters a reading holds, each counted each time it is reached (what is shared counts as often as it is met; a slice's spare places count too). A statement '..UptoSaid' is the law's where the arguments, and the package variables that the reading takes, are together of bulk at most 1048576: NARROWER than '..Said'. Prove '..Said' where nothing that the law and all that it calls make is longer than what came in: it says more and counts as full. Else prove '..UptoSaid'. A law counts once. -/
mutual
def uptoBulk {H : Type} : DataW H → Nat
  | .lit (.string bytes) => bytes.length + 1
  | .lit _ => 1
  | .nil => 1
  | .ptr d => uptoBulk d + 1
  | .slice elems spare => uptoBulkAll elems + uptoBulkAll spare + 1
  | .agg parts => uptoBulkAll parts + 1
  | .iface _ d => uptoBulk d + 1
  | .map entries => uptoBulkEntries entries + 1
  | .held _ => 1
def uptoBulkAll {H : Type} : List (DataW H) → Nat
  | [] => 0
  | d :: r => uptoBulk d + uptoBulkAll r
def uptoBulkEntries {H : Type} : List (Lit × DataW H) → Nat
  | [] => 0
  | x :: r => uptoBulkEntry x + uptoBulkEntries r
def uptoBulkEntry {H : Type} : Lit × DataW H → Nat
  | (.string bytes, d) => bytes.length + uptoBulk d + 1
  | (_, d) => uptoBulk d + 1
 end
def uptoSmall : (H : Type) → List (DataW H) → Bool := fun _ ds => decide (uptoBulkAll ds ≤ 1048576)
def OpenSpec.upto (s : _root_.Go.ChangeSpec) : _root_.Go.OpenSpec := { _root_.Go.OpenSpec.ofChange s with cond := some uptoSmall }

/-- 'clochelaw05.WavesTriangles', WHERE WHAT IT READS IS OF BULK AT MOST 1048576: true; the input reads as it did. -/
def wavesTrianglesUptoRow : OpenClaim := { program := "ytmigibamdeodpaa", sum := "e7a3a353c13b34975c02e09b4307b4a767983015f2ff32ac023fe820dbd54497", func := "cloche/clochelaw05.WavesTriangles", spec := "wavesTriangles", unfollowed := true, recurses := true, apart := false, narrowed := true }
def WavesTrianglesUptoSaid : Prop := wavesTrianglesUptoRow.holds Try.pinned (OpenSpec.upto wavesTrianglesSpec)

/-- 'clochelaw05.WavesRanks', WHERE WHAT IT READS IS OF BULK AT MOST 1048576: true; the input reads as it did. -/
def wavesRanksUptoRow : OpenClaim := { program := "ytmigibamdeodpaa", sum := "e7a3a353c13b34975c02e09b4307b4a767983015f2ff32ac023fe820dbd54497", func := "cloche/clochelaw05.WavesRanks", spec := "wavesRanks", unfollowed := true, recurses := true, apart := false, narrowed := true }
def WavesRanksUptoSaid : Prop := wavesRanksUptoRow.holds Try.pinned (OpenSpec.upto wavesRanksSpec)

/-- 'clochelaw05.WavesTwice', WHERE WHAT IT READS IS OF BULK AT MOST 1048576: true; the input reads as it did. -/
def wavesTwiceUptoRow : OpenClaim := { program := "ytmigibamdeodpaa", sum := "e7a3a353c13b34975c02e09b4307b4a767983015f2ff32ac023fe820dbd54497", func := "cloche/clochelaw05.WavesTwice", spec := "wavesTwice", unfollowed := true, recurses := true, apart := false, narrowed := true }
def WavesTwiceUptoSaid : Prop := wavesTwiceUptoRow.holds Try.pinned (OpenSpec.upto wavesTwiceSpec)

/-- 'clochelaw05.WavesRanked', WHERE WHAT IT READS IS OF BULK AT MOST 1048576: true; the input reads as it did. -/
def wavesRankedUptoRow : OpenClaim := { program := "ytmigibamdeodpaa", sum := "e7a3a353c13b34975c02e09b4307b4a767983015f2ff32ac023fe820dbd54497", func := "cloche/clochelaw05.WavesRanked", spec := "wavesRanked", unfollowed := true, recurses := true, apart := false, narrowed := true }
def WavesRankedUptoSaid : Prop := wavesRankedUptoRow.holds Try.pinned (OpenSpec.upto wavesRankedSpec)

/-- 'clochelaw05.WavesCounts', WHERE WHAT IT READS IS OF BULK AT MOST 1048576: true; the input reads as it did. -/
def wavesCountsUptoRow : OpenClaim := { program := "ytmigibamdeodpaa", sum := "e7a3a353c13b34975c02e09b4307b4a767983015f2ff32ac023fe820dbd54497", func := "cloche/clochelaw05.WavesCounts", spec := "wavesCounts", unfollowed := true, recurses := true, apart := false, narrowed := true }
def WavesCountsUptoSaid : Prop := wavesCountsUptoRow.holds Try.pinned (OpenSpec.upto wavesCountsSpec)

/-- 'clochelaw05.WavesSeidel', WHERE WHAT IT READS IS OF BULK AT MOST 1048576: true; the input reads as it did. -/
def wavesSeidelUptoRow : OpenClaim := { program := "ytmigibamdeodpaa", sum := "e7a3a353c13b34975c02e09b4307b4a767983015f2ff32ac023fe820dbd54497", func := "cloche/clochelaw05.WavesSeidel", spec := "wavesSeidel", unfollowed := true, recurses := true, apart := false, narrowed := true }
def WavesSeidelUptoSaid : Prop := wavesSeidelUptoRow.holds Try.pinned (OpenSpec.upto wavesSeidelSpec)

/-- 'clochelaw05.WavesSnakes', WHERE WHAT IT READS IS OF BULK AT MOST 1048576: true; the input reads as it did. -/
def wavesSnakesUptoRow : OpenClaim := { program := "ytmigibamdeodpaa", sum := "e7a3a353c13b34975c02e09b4307b4a767983015f2ff32ac023fe820dbd54497", func := "cloche/clochelaw05.WavesSnakes", spec := "wavesSnakes", unfollowed := true, recurses := true, apart := false, narrowed := true }
def WavesSnakesUptoSaid : Prop := wavesSnakesUptoRow.holds Try.pinned (OpenSpec.upto wavesSnakesSpec)

/-- 'clochelaw05.WavesTurned', WHERE WHAT IT READS IS OF BULK AT MOST 1048576: true; the input reads as it did. -/
def wavesTurnedUptoRow : OpenClaim := { program := "ytmigibamdeodpaa", sum := "e7a3a353c13b34975c02e09b4307b4a767983015f2ff32ac023fe820dbd54497", func := "cloche/clochelaw05.WavesTurned", spec := "wavesTurned", unfollowed := true, recurses := true, apart := false, narrowed := true }
def WavesTurnedUptoSaid : Prop := wavesTurnedUptoRow.holds Try.pinned (OpenSpec.upto wavesTurnedSpec)

/-- 'clochelaw05.WavesSpringer', WHERE WHAT IT READS IS OF BULK AT MOST 1048576: true; the input reads as it did. -/
def wavesSpringerUptoRow : OpenClaim := { program := "ytmigibamdeodpaa", sum := "e7a3a353c13b34975c02e09b4307b4a767983015f2ff32ac023fe820dbd54497", func := "cloche/clochelaw05.WavesSpringer", spec := "wavesSpringer", unfollowed := true, recurses := true, apart := false, narrowed := true }
def WavesSpringerUptoSaid : Prop := wavesSpringerUptoRow.holds Try.pinned (OpenSpec.upto wavesSpringerSpec)

/-- 'clochelaw05.WavesFoata', WHERE WHAT IT READS IS OF BULK AT MOST 1048576: true; the input reads as it did. -/
def wavesFoataUptoRow : OpenClaim := { program := "ytmigibamdeodpaa", sum := "e7a3a353c13b34975c02e09b4307b4a767983015f2ff32ac023fe820dbd54497", func := "cloche/clochelaw05.WavesFoata", spec := "wavesFoata", unfollowed := true, recurses := true, apart := false, narrowed := true }
def WavesFoataUptoSaid : Prop := wavesFoataUptoRow.holds Try.pinned (OpenSpec.upto wavesFoataSpec)

/-- 'clochelaw05.WavesRows', WHERE WHAT IT READS IS OF BULK AT MOST 1048576: true; the input reads as it did. -/
def wavesRowsUptoRow : OpenClaim := { program := "ytmigibamdeodpaa", sum := "e7a3a353c13b34975c02e09b4307b4a767983015f2ff32ac023fe820dbd54497", func := "cloche/clochelaw05.WavesRows", spec := "wavesRows", unfollowed := true, recurses := true, apart := false, narrowed := true }
def WavesRowsUptoSaid : Prop := wavesRowsUptoRow.holds Try.pinned (OpenSpec.upto wavesRowsSpec)

end Rows
end Go.Proofs.Ytmigibamdeodpaa
