/-
  No cell of these rows narrows 'for every input' (looked for: loops, veiled, ifaces, maps, wideKeys, modest, calm, conditions, laid).
  DERIVED. THE GIVEN ROWS OF THIS SEAT. 12 by the template 'for every input the law returns true; each argument reads behind the call as it read before'; 0 by the template 'total and deterministic' (their statements: YtlfmafebmnggeaaTotals.lean).
  GIVEN WITH THE SEED: the statements are not yours to turn. If you find one false, say at which input.
  Laid BY PROGRAM, IN A SANDBOX (cutbox-rows.mjs): the forced cells as the released guide's own fill.sh prints them over the translation 5a5872caf4b5137d… (all of the seat's roots in one cut). By AI agents, Wed Nov 11 2026. No macro, syntax, notation, axiom, sorry.
-/
import Derived.Test.YtlfmafebmnggeaaChecked
import GoSem.Claim
import GoSem.ClaimJoined
import GoSem.ClaimMapViews
import Derived.JoinedTies
import Derived.KernelRfl
namespace Go.Proofs.Ytlfmafebmnggeaa
/- THE CELL 'sum', in the pinned program and in every row, IS THE sha256 OF THE DUMP (.gsa) THAT YtlfmafebmnggeaaProg.lean LOADS. Nothing in Lean hashes anything: it is a label: what it is worth is what the hold of that sum in a sandbox is worth. -/
noncomputable def Try.pinned : Pinned := { name := "ytlfmafebmnggeaa", sum := "5a5872caf4b5137deb5f4a8620df65b866804933dbb842910ad7c34e6c62d400", checked := Try.checked }
namespace Rows
def none {H : Type} : Left H := { results := [], args := [] }

/-- 'clochelaw01.DiscsRoots': WHATEVER THE INPUT: true; the input reads as it did. -/
def discsRootsSpec : ChangeSpec := { name := "discsRoots", fn := fun _ => fun
  | [d1, d2, d3, d4] => { results := [.lit (.bool true)], args := [d1, d2, d3, d4] }
  | _ => none }
def discsRootsRow : OpenClaim := { program := "ytlfmafebmnggeaa", sum := "5a5872caf4b5137deb5f4a8620df65b866804933dbb842910ad7c34e6c62d400", func := "cloche/clochelaw01.DiscsRoots", spec := "discsRoots", unfollowed := true, recurses := true, plainKeys := false, apart := false }
def DiscsRootsSaid : Prop := discsRootsRow.holds Try.pinned (OpenSpec.ofChange discsRootsSpec)

/-- ITS FALSE NEIGHBOUR: 'it returns false'. Refute it at one input. -/
def discsRootsWrong : ChangeSpec := { name := "discsRoots", fn := fun _ => fun
  | [d1, d2, d3, d4] => { results := [.lit (.bool false)], args := [d1, d2, d3, d4] }
  | _ => none }
def DiscsRootsWrongFalsely : Prop := discsRootsRow.holds Try.pinned (OpenSpec.ofChange discsRootsWrong)

/-- 'clochelaw01.DiscsLists': WHATEVER THE INPUT: true; the input reads as it did. -/
def discsListsSpec : ChangeSpec := { name := "discsLists", fn := fun _ => fun
  | [d] => { results := [.lit (.bool true)], args := [d] }
  | _ => none }
def discsListsRow : OpenClaim := { program := "ytlfmafebmnggeaa", sum := "5a5872caf4b5137deb5f4a8620df65b866804933dbb842910ad7c34e6c62d400", func := "cloche/clochelaw01.DiscsLists", spec := "discsLists", unfollowed := true, recurses := true, plainKeys := false, apart := false }
def DiscsListsSaid : Prop := discsListsRow.holds Try.pinned (OpenSpec.ofChange discsListsSpec)

/-- ITS FALSE NEIGHBOUR: 'it returns false'. Refute it at one input. -/
def discsListsWrong : ChangeSpec := { name := "discsLists", fn := fun _ => fun
  | [d] => { results := [.lit (.bool false)], args := [d] }
  | _ => none }
def DiscsListsWrongFalsely : Prop := discsListsRow.holds Try.pinned (OpenSpec.ofChange discsListsWrong)

/-- 'clochelaw01.DiscsLaid': WHATEVER THE INPUT: true; the input reads as it did. -/
def discsLaidSpec : ChangeSpec := { name := "discsLaid", fn := fun _ => fun
  | [d1, d2] => { results := [.lit (.bool true)], args := [d1, d2] }
  | _ => none }
def discsLaidRow : OpenClaim := { program := "ytlfmafebmnggeaa", sum := "5a5872caf4b5137deb5f4a8620df65b866804933dbb842910ad7c34e6c62d400", func := "cloche/clochelaw01.DiscsLaid", spec := "discsLaid", unfollowed := true, recurses := true, plainKeys := false, apart := false }
def DiscsLaidSaid : Prop := discsLaidRow.holds Try.pinned (OpenSpec.ofChange discsLaidSpec)

/-- ITS FALSE NEIGHBOUR: 'it returns false'. Refute it at one input. -/
def discsLaidWrong : ChangeSpec := { name := "discsLaid", fn := fun _ => fun
  | [d1, d2] => { results := [.lit (.bool false)], args := [d1, d2] }
  | _ => none }
def DiscsLaidWrongFalsely : Prop := discsLaidRow.holds Try.pinned (OpenSpec.ofChange discsLaidWrong)

/-- 'clochelaw01.DiscsRests': WHATEVER THE INPUT: true; the input reads as it did. -/
def discsRestsSpec : ChangeSpec := { name := "discsRests", fn := fun _ => fun
  | [d] => { results := [.lit (.bool true)], args := [d] }
  | _ => none }
def discsRestsRow : OpenClaim := { program := "ytlfmafebmnggeaa", sum := "5a5872caf4b5137deb5f4a8620df65b866804933dbb842910ad7c34e6c62d400", func := "cloche/clochelaw01.DiscsRests", spec := "discsRests", unfollowed := true, recurses := true, plainKeys := false, apart := false }
def DiscsRestsSaid : Prop := discsRestsRow.holds Try.pinned (OpenSpec.ofChange discsRestsSpec)

/-- ITS FALSE NEIGHBOUR: 'it returns false'. Refute it at one input. -/
def discsRestsWrong : ChangeSpec := { name := "discsRests", fn := fun _ => fun
  | [d] => { results := [.lit (.bool false)], args := [d] }
  | _ => none }
def DiscsRestsWrongFalsely : Prop := discsRestsRow.holds Try.pinned (OpenSpec.ofChange discsRestsWrong)

/-- 'clochelaw01.DiscsSoddy': WHATEVER THE INPUT: true; the input reads as it did. -/
def discsSoddySpec : ChangeSpec := { name := "discsSoddy", fn := fun _ => fun
  | [d1, d2] => { results := [.lit (.bool true)], args := [d1, d2] }
  | _ => none }
def discsSoddyRow : OpenClaim := { program := "ytlfmafebmnggeaa", sum := "5a5872caf4b5137deb5f4a8620df65b866804933dbb842910ad7c34e6c62d400", func := "cloche/clochelaw01.DiscsSoddy", spec := "discsSoddy", unfollowed := true, recurses := true, plainKeys := false, apart := false }
def DiscsSoddySaid : Prop := discsSoddyRow.holds Try.pinned (OpenSpec.ofChange discsSoddySpec)

/-- ITS FALSE NEIGHBOUR: 'it returns false'. Refute it at one input. -/
def discsSoddyWrong : ChangeSpec := { name := "discsSoddy", fn := fun _ => fun
  | [d1, d2] => { results := [.lit (.bool false)], args := [d1, d2] }
  | _ => none }
def DiscsSoddyWrongFalsely : Prop := discsSoddyRow.holds Try.pinned (OpenSpec.ofChange discsSoddyWrong)

/-- 'clochelaw01.DiscsPacked': WHATEVER THE INPUT: true; the input reads as it did. -/
def discsPackedSpec : ChangeSpec := { name := "discsPacked", fn := fun _ => fun
  | [d1, d2, d3] => { results := [.lit (.bool true)], args := [d1, d2, d3] }
  | _ => none }
def discsPackedRow : OpenClaim := { program := "ytlfmafebmnggeaa", sum := "5a5872caf4b5137deb5f4a8620df65b866804933dbb842910ad7c34e6c62d400", func := "cloche/clochelaw01.DiscsPacked", spec := "discsPacked", unfollowed := true, recurses := true, plainKeys := false, apart := false }
def DiscsPackedSaid : Prop := discsPackedRow.holds Try.pinned (OpenSpec.ofChange discsPackedSpec)

/-- ITS FALSE NEIGHBOUR: 'it returns false'. Refute it at one input. -/
def discsPackedWrong : ChangeSpec := { name := "discsPacked", fn := fun _ => fun
  | [d1, d2, d3] => { results := [.lit (.bool false)], args := [d1, d2, d3] }
  | _ => none }
def DiscsPackedWrongFalsely : Prop := discsPackedRow.holds Try.pinned (OpenSpec.ofChange discsPackedWrong)

/-- 'clochelaw01.DiscsFourth': WHATEVER THE INPUT: true; the input reads as it did. -/
def discsFourthSpec : ChangeSpec := { name := "discsFourth", fn := fun _ => fun
  | [d1, d2] => { results := [.lit (.bool true)], args := [d1, d2] }
  | _ => none }
def discsFourthRow : OpenClaim := { program := "ytlfmafebmnggeaa", sum := "5a5872caf4b5137deb5f4a8620df65b866804933dbb842910ad7c34e6c62d400", func := "cloche/clochelaw01.DiscsFourth", spec := "discsFourth", unfollowed := true, recurses := true, plainKeys := false, apart := false }
def DiscsFourthSaid : Prop := discsFourthRow.holds Try.pinned (OpenSpec.ofChange discsFourthSpec)

/-- ITS FALSE NEIGHBOUR: 'it returns false'. Refute it at one input. -/
def discsFourthWrong : ChangeSpec := { name := "discsFourth", fn := fun _ => fun
  | [d1, d2] => { results := [.lit (.bool false)], args := [d1, d2] }
  | _ => none }
def DiscsFourthWrongFalsely : Prop := discsFourthRow.holds Try.pinned (OpenSpec.ofChange discsFourthWrong)

/-- 'clochelaw01.DiscsFound': WHATEVER THE INPUT: true; the input reads as it did. -/
def discsFoundSpec : ChangeSpec := { name := "discsFound", fn := fun _ => fun
  | [d] => { results := [.lit (.bool true)], args := [d] }
  | _ => none }
def discsFoundRow : OpenClaim := { program := "ytlfmafebmnggeaa", sum := "5a5872caf4b5137deb5f4a8620df65b866804933dbb842910ad7c34e6c62d400", func := "cloche/clochelaw01.DiscsFound", spec := "discsFound", unfollowed := true, recurses := true, plainKeys := false, apart := false }
def DiscsFoundSaid : Prop := discsFoundRow.holds Try.pinned (OpenSpec.ofChange discsFoundSpec)

/-- ITS FALSE NEIGHBOUR: 'it returns false'. Refute it at one input. -/
def discsFoundWrong : ChangeSpec := { name := "discsFound", fn := fun _ => fun
  | [d] => { results := [.lit (.bool false)], args := [d] }
  | _ => none }
def DiscsFoundWrongFalsely : Prop := discsFoundRow.holds Try.pinned (OpenSpec.ofChange discsFoundWrong)

/-- 'clochelaw01.DiscsTurns': WHATEVER THE INPUT: true; the input reads as it did. -/
def discsTurnsSpec : ChangeSpec := { name := "discsTurns", fn := fun _ => fun
  | [d1, d2, d3] => { results := [.lit (.bool true)], args := [d1, d2, d3] }
  | _ => none }
def discsTurnsRow : OpenClaim := { program := "ytlfmafebmnggeaa", sum := "5a5872caf4b5137deb5f4a8620df65b866804933dbb842910ad7c34e6c62d400", func := "cloche/clochelaw01.DiscsTurns", spec := "discsTurns", unfollowed := true, recurses := true, plainKeys := false, apart := false }
def DiscsTurnsSaid : Prop := discsTurnsRow.holds Try.pinned (OpenSpec.ofChange discsTurnsSpec)

/-- ITS FALSE NEIGHBOUR: 'it returns false'. Refute it at one input. -/
def discsTurnsWrong : ChangeSpec := { name := "discsTurns", fn := fun _ => fun
  | [d1, d2, d3] => { results := [.lit (.bool false)], args := [d1, d2, d3] }
  | _ => none }
def DiscsTurnsWrongFalsely : Prop := discsTurnsRow.holds Try.pinned (OpenSpec.ofChange discsTurnsWrong)

/-- 'clochelaw01.DiscsSix': WHATEVER THE INPUT: true; the input reads as it did. -/
def discsSixSpec : ChangeSpec := { name := "discsSix", fn := fun _ => fun
  | [d1, d2] => { results := [.lit (.bool true)], args := [d1, d2] }
  | _ => none }
def discsSixRow : OpenClaim := { program := "ytlfmafebmnggeaa", sum := "5a5872caf4b5137deb5f4a8620df65b866804933dbb842910ad7c34e6c62d400", func := "cloche/clochelaw01.DiscsSix", spec := "discsSix", unfollowed := true, recurses := true, plainKeys := false, apart := false }
def DiscsSixSaid : Prop := discsSixRow.holds Try.pinned (OpenSpec.ofChange discsSixSpec)

/-- ITS FALSE NEIGHBOUR: 'it returns false'. Refute it at one input. -/
def discsSixWrong : ChangeSpec := { name := "discsSix", fn := fun _ => fun
  | [d1, d2] => { results := [.lit (.bool false)], args := [d1, d2] }
  | _ => none }
def DiscsSixWrongFalsely : Prop := discsSixRow.holds Try.pinned (OpenSpec.ofChange discsSixWrong)

/-- 'clochelaw01.DiscsQuads': WHATEVER THE INPUT: true; the input reads as it did. -/
def discsQuadsSpec : ChangeSpec := { name := "discsQuads", fn := fun _ => fun
  | [d1, d2] => { results := [.lit (.bool true)], args := [d1, d2] }
  | _ => none }
def discsQuadsRow : OpenClaim := { program := "ytlfmafebmnggeaa", sum := "5a5872caf4b5137deb5f4a8620df65b866804933dbb842910ad7c34e6c62d400", func := "cloche/clochelaw01.DiscsQuads", spec := "discsQuads", unfollowed := true, recurses := true, plainKeys := false, apart := false }
def DiscsQuadsSaid : Prop := discsQuadsRow.holds Try.pinned (OpenSpec.ofChange discsQuadsSpec)

/-- ITS FALSE NEIGHBOUR: 'it returns false'. Refute it at one input. -/
def discsQuadsWrong : ChangeSpec := { name := "discsQuads", fn := fun _ => fun
  | [d1, d2] => { results := [.lit (.bool false)], args := [d1, d2] }
  | _ => none }
def DiscsQuadsWrongFalsely : Prop := discsQuadsRow.holds Try.pinned (OpenSpec.ofChange discsQuadsWrong)

/-- 'clochelaw01.DiscsReached': WHATEVER THE INPUT: true; the input reads as it did. -/
def discsReachedSpec : ChangeSpec := { name := "discsReached", fn := fun _ => fun
  | [d1, d2] => { results := [.lit (.bool true)], args := [d1, d2] }
  | _ => none }
def discsReachedRow : OpenClaim := { program := "ytlfmafebmnggeaa", sum := "5a5872caf4b5137deb5f4a8620df65b866804933dbb842910ad7c34e6c62d400", func := "cloche/clochelaw01.DiscsReached", spec := "discsReached", unfollowed := true, recurses := true, plainKeys := false, apart := false }
def DiscsReachedSaid : Prop := discsReachedRow.holds Try.pinned (OpenSpec.ofChange discsReachedSpec)

/-- ITS FALSE NEIGHBOUR: 'it returns false'. Refute it at one input. -/
def discsReachedWrong : ChangeSpec := { name := "discsReached", fn := fun _ => fun
  | [d1, d2] => { results := [.lit (.bool false)], args := [d1, d2] }
  | _ => none }
def DiscsReachedWrongFalsely : Prop := discsReachedRow.holds Try.pinned (OpenSpec.ofChange discsReachedWrong)

/- THE SECOND FORM. 'bulk': how many values and letters a reading holds, each counted each time it is reached (what is shared counts as often as it is met; a slice's spare places count too). A statement '..UptoSaid' is the law's where the arguments, and the package variables that the reading takes, are together of bulk at most 1048576: NARROWER than '..Said'. Prove '..Said' where nothing that the law and all that it calls make is longer than what came in: it says more and counts as full. Else prove '..UptoSaid'. A law counts once. -/
mutual
def uptoBulk {H : Type} : DataW H → Nat
  | .lit (.string bytes) => bytes.length + 1
  | .lit _ => 1
  | .nil => 1
  | .ptr d => uptoBulk d + 1
  | .slice elems spare => uptoBulkAll elems + uptoBulkAll spare + 1
  | .agg parts => uptoBulkAll parts + 1
  | .iface _ d => uptoBulk d + 1
  | .map entries => uptoBulkEntries entries + 1
  | .held _ => 1
def uptoBulkAll {H : Type} : List (DataW H) → Nat
  | [] => 0
  | d :: r => uptoBulk d + uptoBulkAll r
def uptoBulkEntries {H : Type} : List (Lit × DataW H) → Nat
  | [] => 0
  | x :: r => uptoBulkEntry x + uptoBulkEntries r
def uptoBulkEntry {H : Type} : Lit × DataW H → Nat
  | (.string bytes, d) => bytes.length + uptoBulk d + 1
  | (_, d) => uptoBulk d + 1
 end
def uptoSmall : (H : Type) → List (DataW H) → Bool := fun _ ds => decide (uptoBulkAll ds ≤ 1048576)
def OpenSpec.upto (s : _root_.Go.ChangeSpec) : _root_.Go.OpenSpec := { _root_.Go.OpenSpec.ofChange s with cond := some uptoSmall }

/-- 'clochelaw01.DiscsRoots', WHERE WHAT IT READS IS OF BULK AT MOST 1048576: true; the input reads as it did. -/
def discsRootsUptoRow : OpenClaim := { program := "ytlfmafebmnggeaa", sum := "5a5872caf4b5137deb5f4a8620df65b866804933dbb842910ad7c34e6c62d400", func := "cloche/clochelaw01.DiscsRoots", spec := "discsRoots", unfollowed := true, recurses := true, plainKeys := false, apart := false, narrowed := true }
def DiscsRootsUptoSaid : Prop := discsRootsUptoRow.holds Try.pinned (OpenSpec.upto discsRootsSpec)

/-- 'clochelaw01.DiscsLists', WHERE WHAT IT READS IS OF BULK AT MOST 1048576: true; the input reads as it did. -/
def discsListsUptoRow : OpenClaim := { program := "ytlfmafebmnggeaa", sum := "5a5872caf4b5137deb5f4a8620df65b866804933dbb842910ad7c34e6c62d400", func := "cloche/clochelaw01.DiscsLists", spec := "discsLists", unfollowed := true, recurses := true, plainKeys := false, apart := false, narrowed := true }
def DiscsListsUptoSaid : Prop := discsListsUptoRow.holds Try.pinned (OpenSpec.upto discsListsSpec)

/-- 'clochelaw01.DiscsLaid', WHERE WHAT IT READS IS OF BULK AT MOST 1048576: true; the input reads as it did. -/
def discsLaidUptoRow : OpenClaim := { program := "ytlfmafebmnggeaa", sum := "5a5872caf4b5137deb5f4a8620df65b866804933dbb842910ad7c34e6c62d400", func := "cloche/clochelaw01.DiscsLaid", spec := "discsLaid", unfollowed := true, recurses := true, plainKeys := false, apart := false, narrowed := true }
def DiscsLaidUptoSaid : Prop := discsLaidUptoRow.holds Try.pinned (OpenSpec.upto discsLaidSpec)

/-- 'clochelaw01.DiscsRests', WHERE WHAT IT READS IS OF BULK AT MOST 1048576: true; the input reads as it did. -/
def discsRestsUptoRow : OpenClaim := { program := "ytlfmafebmnggeaa", sum := "5a5872caf4b5137deb5f4a8620df65b866804933dbb842910ad7c34e6c62d400", func := "cloche/clochelaw01.DiscsRests", spec := "discsRests", unfollowed := true, recurses := true, plainKeys := false, apart := false, narrowed := true }
def DiscsRestsUptoSaid : Prop := discsRestsUptoRow.holds Try.pinned (OpenSpec.upto discsRestsSpec)

/-- 'clochelaw01.DiscsSoddy', WHERE WHAT IT READS IS OF BULK AT MOST 1048576: true; the input reads as it did. -/
def discsSoddyUptoRow : OpenClaim := { program := "ytlfmafebmnggeaa", sum := "5a5872caf4b5137deb5f4a8620df65b866804933dbb842910ad7c34e6c62d400", func := "cloche/clochelaw01.DiscsSoddy", spec := "discsSoddy", unfollowed := true, recurses := true, plainKeys := false, apart := false, narrowed := true }
def DiscsSoddyUptoSaid : Prop := discsSoddyUptoRow.holds Try.pinned (OpenSpec.upto discsSoddySpec)

/-- 'clochelaw01.DiscsPacked', WHERE WHAT IT READS IS OF BULK AT MOST 1048576: true; the input reads as it did. -/
def discsPackedUptoRow : OpenClaim := { program := "ytlfmafebmnggeaa", sum := "5a5872caf4b5137deb5f4a8620df65b866804933dbb842910ad7c34e6c62d400", func := "cloche/clochelaw01.DiscsPacked", spec := "discsPacked", unfollowed := true, recurses := true, plainKeys := false, apart := false, narrowed := true }
def DiscsPackedUptoSaid : Prop := discsPackedUptoRow.holds Try.pinned (OpenSpec.upto discsPackedSpec)

/-- 'clochelaw01.DiscsFourth', WHERE WHAT IT READS IS OF BULK AT MOST 1048576: true; the input reads as it did. -/
def discsFourthUptoRow : OpenClaim := { program := "ytlfmafebmnggeaa", sum := "5a5872caf4b5137deb5f4a8620df65b866804933dbb842910ad7c34e6c62d400", func := "cloche/clochelaw01.DiscsFourth", spec := "discsFourth", unfollowed := true, recurses := true, plainKeys := false, apart := false, narrowed := true }
def DiscsFourthUptoSaid : Prop := discsFourthUptoRow.holds Try.pinned (OpenSpec.upto discsFourthSpec)

/-- 'clochelaw01.DiscsFound', WHERE WHAT IT READS IS OF BULK AT MOST 1048576: true; the input reads as it did. -/
def discsFoundUptoRow : OpenClaim := { program := "ytlfmafebmnggeaa", sum := "5a5872caf4b5137deb5f4a8620df65b866804933dbb842910ad7c34e6c62d400", func := "cloche/clochelaw01.DiscsFound", spec := "discsFound", unfollowed := true, recurses := true, plainKeys := false, apart := false, narrowed := true }
def DiscsFoundUptoSaid : Prop := discsFoundUptoRow.holds Try.pinned (OpenSpec.upto discsFoundSpec)

/-- 'clochelaw01.DiscsTurns', WHERE WHAT IT READS IS OF BULK AT MOST 1048576: true; the input reads as it did. -/
def discsTurnsUptoRow : OpenClaim := { program := "ytlfmafebmnggeaa", sum := "5a5872caf4b5137deb5f4a8620df65b866804933dbb842910ad7c34e6c62d400", func := "cloche/clochelaw01.DiscsTurns", spec := "discsTurns", unfollowed := true, recurses := true, plainKeys := false, apart := false, narrowed := true }
def DiscsTurnsUptoSaid : Prop := discsTurnsUptoRow.holds Try.pinned (OpenSpec.upto discsTurnsSpec)

/-- 'clochelaw01.DiscsSix', WHERE WHAT IT READS IS OF BULK AT MOST 1048576: true; the input reads as it did. -/
def discsSixUptoRow : OpenClaim := { program := "ytlfmafebmnggeaa", sum := "5a5872caf4b5137deb5f4a8620df65b866804933dbb842910ad7c34e6c62d400", func := "cloche/clochelaw01.DiscsSix", spec := "discsSix", unfollowed := true, recurses := true, plainKeys := false, apart := false, narrowed := true }
def DiscsSixUptoSaid : Prop := discsSixUptoRow.holds Try.pinned (OpenSpec.upto discsSixSpec)

/-- 'clochelaw01.DiscsQuads', WHERE WHAT IT READS IS OF BULK AT MOST 1048576: true; the input reads as it did. -/
def discsQuadsUptoRow : OpenClaim := { program := "ytlfmafebmnggeaa", sum := "5a5872caf4b5137deb5f4a8620df65b866804933dbb842910ad7c34e6c62d400", func := "cloche/clochelaw01.DiscsQuads", spec := "discsQuads", unfollowed := true, recurses := true, plainKeys := false, apart := false, narrowed := true }
def DiscsQuadsUptoSaid : Prop := discsQuadsUptoRow.holds Try.pinned (OpenSpec.upto discsQuadsSpec)

/-- 'clochelaw01.DiscsReached', WHERE WHAT IT READS IS OF BULK AT MOST 1048576: true; the input reads as it did. -/
def discsReachedUptoRow : OpenClaim := { program := "ytlfmafebmnggeaa", sum := "5a5872caf4b5137deb5f4a8620df65b866804933dbb842910ad7c34e6c62d400", func := "cloche/clochelaw01.DiscsReached", spec := "discsReached", unfollowed := true, recurses := true, plainKeys := false, apart := false, narrowed := true }
def DiscsReachedUptoSaid : Prop := discsReachedUptoRow.holds Try.pinned (OpenSpec.upto discsReachedSpec)

end Rows
end Go.Proofs.Ytlfmafebmnggeaa
