/-
  NARROWER THAN 'FOR EVERY INPUT', by the rows' own cells (each row's printed sentence says how): VisitsNeeds: laid · VisitsOne: laid · VisitsGames: laid · VisitsLess: laid · VisitsBounds: laid · VisitsFirst: laid · VisitsParts: laid · VisitsGallai: laid · VisitsMatchings: laid · VisitsAnswers: laid · VisitsLed: laid · VisitsTutte: laid.
  DERIVED. THE GIVEN ROWS OF THIS SEAT. 12 by the template 'for every input the law returns true; each argument reads behind the call as it read before'; 0 by the template 'total and deterministic' (their statements: YtadfcplobidmeaaDoorTotals.lean).
  GIVEN WITH THE SEED: the statements are not yours to turn. If you find one false, say at which input.
  Laid BY PROGRAM, IN A SANDBOX (cutbox-rows.mjs): the forced cells as the released guide's own fill.sh prints them over the translation 12db8b469fa59833… (all of the seat's roots in one cut). By AI agents, Wed Nov 11 2026. No macro, syntax, notation, axiom, sorry.
-/
import Derived.Test.YtadfcplobidmeaaDoorChecked
import GoSem.Claim
import GoSem.ClaimJoined
import GoSem.ClaimMapViews
import Derived.JoinedTies
import Derived.KernelRfl
namespace Go.Proofs.YtadfcplobidmeaaDoor
/- THE CELL 'sum', in the pinned program and in every row, IS THE sha256 OF THE DUMP (.gsa) THAT YtadfcplobidmeaaDoorProg.lean LOADS. Nothing in Lean hashes anything: it is a label: what it is worth is what the hold of that sum in a sandbox is worth. -/
noncomputable def Tryd.pinned : Pinned := { name := "ytadfcplobidmeaadoor", sum := "12db8b469fa5983335486f1bf83feb801d3e37d380a6e09b696e771abc63a395", checked := Tryd.checked }
namespace Rows
def none {H : Type} : Left H := { results := [], args := [] }

/- WHAT THE LISTED PACKAGE-LEVEL VARIABLES READ AS WHEN THE CALL BEGINS. Each datum BY PROGRAM (the guide's laid-datum.mjs) off the statement by which the dump's own 'gosem.cut.vars' lays the variable. In a bare row this is a premise. The card (YtadfcplobidmeaaDoorCards.lean) ties it to the program's text. -/
def laid_math_bits_deBruijn32tab {H : Type} : DataW H := .agg [.lit (.int .u8 0), .lit (.int .u8 1), .lit (.int .u8 28), .lit (.int .u8 2), .lit (.int .u8 29), .lit (.int .u8 14), .lit (.int .u8 24), .lit (.int .u8 3), .lit (.int .u8 30), .lit (.int .u8 22), .lit (.int .u8 20), .lit (.int .u8 15), .lit (.int .u8 25), .lit (.int .u8 17), .lit (.int .u8 4), .lit (.int .u8 8), .lit (.int .u8 31), .lit (.int .u8 27), .lit (.int .u8 13), .lit (.int .u8 23), .lit (.int .u8 21), .lit (.int .u8 19), .lit (.int .u8 16), .lit (.int .u8 7), .lit (.int .u8 26), .lit (.int .u8 12), .lit (.int .u8 18), .lit (.int .u8 6), .lit (.int .u8 11), .lit (.int .u8 5), .lit (.int .u8 10), .lit (.int .u8 9)]
def laid_math_bits_deBruijn64tab {H : Type} : DataW H := .agg [.lit (.int .u8 0), .lit (.int .u8 1), .lit (.int .u8 56), .lit (.int .u8 2), .lit (.int .u8 57), .lit (.int .u8 49), .lit (.int .u8 28), .lit (.int .u8 3), .lit (.int .u8 61), .lit (.int .u8 58), .lit (.int .u8 42), .lit (.int .u8 50), .lit (.int .u8 38), .lit (.int .u8 29), .lit (.int .u8 17), .lit (.int .u8 4), .lit (.int .u8 62), .lit (.int .u8 47), .lit (.int .u8 59), .lit (.int .u8 36), .lit (.int .u8 45), .lit (.int .u8 43), .lit (.int .u8 51), .lit (.int .u8 22), .lit (.int .u8 53), .lit (.int .u8 39), .lit (.int .u8 33), .lit (.int .u8 30), .lit (.int .u8 24), .lit (.int .u8 18), .lit (.int .u8 12), .lit (.int .u8 5), .lit (.int .u8 63), .lit (.int .u8 55), .lit (.int .u8 48), .lit (.int .u8 27), .lit (.int .u8 60), .lit (.int .u8 41), .lit (.int .u8 37), .lit (.int .u8 16), .lit (.int .u8 46), .lit (.int .u8 35), .lit (.int .u8 44), .lit (.int .u8 21), .lit (.int .u8 52), .lit (.int .u8 32), .lit (.int .u8 23), .lit (.int .u8 11), .lit (.int .u8 54), .lit (.int .u8 26), .lit (.int .u8 40), .lit (.int .u8 15), .lit (.int .u8 34), .lit (.int .u8 20), .lit (.int .u8 31), .lit (.int .u8 10), .lit (.int .u8 25), .lit (.int .u8 14), .lit (.int .u8 19), .lit (.int .u8 9), .lit (.int .u8 13), .lit (.int .u8 8), .lit (.int .u8 7), .lit (.int .u8 6)]

/-- 'clochelaw03.VisitsNeeds': WHATEVER THE INPUT: true; the input reads as it did. -/
def visitsNeedsSpec : ChangeSpec := { name := "visitsNeeds", fn := fun _ => fun
  | [d] => { results := [.lit (.bool true)], args := [d] }
  | _ => none }
def visitsNeedsRow : OpenClaim := { program := "ytadfcplobidmeaadoor", sum := "12db8b469fa5983335486f1bf83feb801d3e37d380a6e09b696e771abc63a395", func := "cloche/clochelaw03.VisitsNeeds", spec := "visitsNeeds", recurses := true, named := ["math/bits.deBruijn32tab", "math/bits.deBruijn64tab"], plainKeys := false, apart := false, laid := [("math/bits.deBruijn32tab", laid_math_bits_deBruijn32tab), ("math/bits.deBruijn64tab", laid_math_bits_deBruijn64tab)] }
def VisitsNeedsSaid : Prop := visitsNeedsRow.holds Tryd.pinned (OpenSpec.ofChange visitsNeedsSpec)

/-- ITS FALSE NEIGHBOUR: 'it returns false'. Refute it at one input. -/
def visitsNeedsWrong : ChangeSpec := { name := "visitsNeeds", fn := fun _ => fun
  | [d] => { results := [.lit (.bool false)], args := [d] }
  | _ => none }
def VisitsNeedsWrongFalsely : Prop := visitsNeedsRow.holds Tryd.pinned (OpenSpec.ofChange visitsNeedsWrong)

/-- 'clochelaw03.VisitsOne': WHATEVER THE INPUT: true; the input reads as it did. -/
def visitsOneSpec : ChangeSpec := { name := "visitsOne", fn := fun _ => fun
  | [d1, d2] => { results := [.lit (.bool true)], args := [d1, d2] }
  | _ => none }
def visitsOneRow : OpenClaim := { program := "ytadfcplobidmeaadoor", sum := "12db8b469fa5983335486f1bf83feb801d3e37d380a6e09b696e771abc63a395", func := "cloche/clochelaw03.VisitsOne", spec := "visitsOne", recurses := true, named := ["math/bits.deBruijn32tab", "math/bits.deBruijn64tab"], plainKeys := false, apart := false, laid := [("math/bits.deBruijn32tab", laid_math_bits_deBruijn32tab), ("math/bits.deBruijn64tab", laid_math_bits_deBruijn64tab)] }
def VisitsOneSaid : Prop := visitsOneRow.holds Tryd.pinned (OpenSpec.ofChange visitsOneSpec)

/-- ITS FALSE NEIGHBOUR: 'it returns false'. Refute it at one input. -/
def visitsOneWrong : ChangeSpec := { name := "visitsOne", fn := fun _ => fun
  | [d1, d2] => { results := [.lit (.bool false)], args := [d1, d2] }
  | _ => none }
def VisitsOneWrongFalsely : Prop := visitsOneRow.holds Tryd.pinned (OpenSpec.ofChange visitsOneWrong)

/-- 'clochelaw03.VisitsGames': WHATEVER THE INPUT: true; the input reads as it did. -/
def visitsGamesSpec : ChangeSpec := { name := "visitsGames", fn := fun _ => fun
  | [d1, d2, d3] => { results := [.lit (.bool true)], args := [d1, d2, d3] }
  | _ => none }
def visitsGamesRow : OpenClaim := { program := "ytadfcplobidmeaadoor", sum := "12db8b469fa5983335486f1bf83feb801d3e37d380a6e09b696e771abc63a395", func := "cloche/clochelaw03.VisitsGames", spec := "visitsGames", recurses := true, named := ["math/bits.deBruijn32tab", "math/bits.deBruijn64tab"], plainKeys := false, apart := false, laid := [("math/bits.deBruijn32tab", laid_math_bits_deBruijn32tab), ("math/bits.deBruijn64tab", laid_math_bits_deBruijn64tab)] }
def VisitsGamesSaid : Prop := visitsGamesRow.holds Tryd.pinned (OpenSpec.ofChange visitsGamesSpec)

/-- ITS FALSE NEIGHBOUR: 'it returns false'. Refute it at one input. -/
def visitsGamesWrong : ChangeSpec := { name := "visitsGames", fn := fun _ => fun
  | [d1, d2, d3] => { results := [.lit (.bool false)], args := [d1, d2, d3] }
  | _ => none }
def VisitsGamesWrongFalsely : Prop := visitsGamesRow.holds Tryd.pinned (OpenSpec.ofChange visitsGamesWrong)

/-- 'clochelaw03.VisitsLess': WHATEVER THE INPUT: true; the input reads as it did. -/
def visitsLessSpec : ChangeSpec := { name := "visitsLess", fn := fun _ => fun
  | [d1, d2, d3] => { results := [.lit (.bool true)], args := [d1, d2, d3] }
  | _ => none }
def visitsLessRow : OpenClaim := { program := "ytadfcplobidmeaadoor", sum := "12db8b469fa5983335486f1bf83feb801d3e37d380a6e09b696e771abc63a395", func := "cloche/clochelaw03.VisitsLess", spec := "visitsLess", recurses := true, named := ["math/bits.deBruijn32tab", "math/bits.deBruijn64tab"], plainKeys := false, apart := false, laid := [("math/bits.deBruijn32tab", laid_math_bits_deBruijn32tab), ("math/bits.deBruijn64tab", laid_math_bits_deBruijn64tab)] }
def VisitsLessSaid : Prop := visitsLessRow.holds Tryd.pinned (OpenSpec.ofChange visitsLessSpec)

/-- ITS FALSE NEIGHBOUR: 'it returns false'. Refute it at one input. -/
def visitsLessWrong : ChangeSpec := { name := "visitsLess", fn := fun _ => fun
  | [d1, d2, d3] => { results := [.lit (.bool false)], args := [d1, d2, d3] }
  | _ => none }
def VisitsLessWrongFalsely : Prop := visitsLessRow.holds Tryd.pinned (OpenSpec.ofChange visitsLessWrong)

/-- 'clochelaw03.VisitsBounds': WHATEVER THE INPUT: true; the input reads as it did. -/
def visitsBoundsSpec : ChangeSpec := { name := "visitsBounds", fn := fun _ => fun
  | [d1, d2, d3] => { results := [.lit (.bool true)], args := [d1, d2, d3] }
  | _ => none }
def visitsBoundsRow : OpenClaim := { program := "ytadfcplobidmeaadoor", sum := "12db8b469fa5983335486f1bf83feb801d3e37d380a6e09b696e771abc63a395", func := "cloche/clochelaw03.VisitsBounds", spec := "visitsBounds", recurses := true, named := ["math/bits.deBruijn32tab", "math/bits.deBruijn64tab"], plainKeys := false, apart := false, laid := [("math/bits.deBruijn32tab", laid_math_bits_deBruijn32tab), ("math/bits.deBruijn64tab", laid_math_bits_deBruijn64tab)] }
def VisitsBoundsSaid : Prop := visitsBoundsRow.holds Tryd.pinned (OpenSpec.ofChange visitsBoundsSpec)

/-- ITS FALSE NEIGHBOUR: 'it returns false'. Refute it at one input. -/
def visitsBoundsWrong : ChangeSpec := { name := "visitsBounds", fn := fun _ => fun
  | [d1, d2, d3] => { results := [.lit (.bool false)], args := [d1, d2, d3] }
  | _ => none }
def VisitsBoundsWrongFalsely : Prop := visitsBoundsRow.holds Tryd.pinned (OpenSpec.ofChange visitsBoundsWrong)

/-- 'clochelaw03.VisitsFirst': WHATEVER THE INPUT: true; the input reads as it did. -/
def visitsFirstSpec : ChangeSpec := { name := "visitsFirst", fn := fun _ => fun
  | [d1, d2] => { results := [.lit (.bool true)], args := [d1, d2] }
  | _ => none }
def visitsFirstRow : OpenClaim := { program := "ytadfcplobidmeaadoor", sum := "12db8b469fa5983335486f1bf83feb801d3e37d380a6e09b696e771abc63a395", func := "cloche/clochelaw03.VisitsFirst", spec := "visitsFirst", recurses := true, named := ["math/bits.deBruijn32tab", "math/bits.deBruijn64tab"], plainKeys := false, apart := false, laid := [("math/bits.deBruijn32tab", laid_math_bits_deBruijn32tab), ("math/bits.deBruijn64tab", laid_math_bits_deBruijn64tab)] }
def VisitsFirstSaid : Prop := visitsFirstRow.holds Tryd.pinned (OpenSpec.ofChange visitsFirstSpec)

/-- ITS FALSE NEIGHBOUR: 'it returns false'. Refute it at one input. -/
def visitsFirstWrong : ChangeSpec := { name := "visitsFirst", fn := fun _ => fun
  | [d1, d2] => { results := [.lit (.bool false)], args := [d1, d2] }
  | _ => none }
def VisitsFirstWrongFalsely : Prop := visitsFirstRow.holds Tryd.pinned (OpenSpec.ofChange visitsFirstWrong)

/-- 'clochelaw03.VisitsParts': WHATEVER THE INPUT: true; the input reads as it did. -/
def visitsPartsSpec : ChangeSpec := { name := "visitsParts", fn := fun _ => fun
  | [d1, d2] => { results := [.lit (.bool true)], args := [d1, d2] }
  | _ => none }
def visitsPartsRow : OpenClaim := { program := "ytadfcplobidmeaadoor", sum := "12db8b469fa5983335486f1bf83feb801d3e37d380a6e09b696e771abc63a395", func := "cloche/clochelaw03.VisitsParts", spec := "visitsParts", recurses := true, named := ["math/bits.deBruijn32tab", "math/bits.deBruijn64tab"], plainKeys := false, apart := false, laid := [("math/bits.deBruijn32tab", laid_math_bits_deBruijn32tab), ("math/bits.deBruijn64tab", laid_math_bits_deBruijn64tab)] }
def VisitsPartsSaid : Prop := visitsPartsRow.holds Tryd.pinned (OpenSpec.ofChange visitsPartsSpec)

/-- ITS FALSE NEIGHBOUR: 'it returns false'. Refute it at one input. -/
def visitsPartsWrong : ChangeSpec := { name := "visitsParts", fn := fun _ => fun
  | [d1, d2] => { results := [.lit (.bool false)], args := [d1, d2] }
  | _ => none }
def VisitsPartsWrongFalsely : Prop := visitsPartsRow.holds Tryd.pinned (OpenSpec.ofChange visitsPartsWrong)

/-- 'clochelaw03.VisitsGallai': WHATEVER THE INPUT: true; the input reads as it did. -/
def visitsGallaiSpec : ChangeSpec := { name := "visitsGallai", fn := fun _ => fun
  | [d] => { results := [.lit (.bool true)], args := [d] }
  | _ => none }
def visitsGallaiRow : OpenClaim := { program := "ytadfcplobidmeaadoor", sum := "12db8b469fa5983335486f1bf83feb801d3e37d380a6e09b696e771abc63a395", func := "cloche/clochelaw03.VisitsGallai", spec := "visitsGallai", recurses := true, named := ["math/bits.deBruijn32tab", "math/bits.deBruijn64tab"], plainKeys := false, apart := false, laid := [("math/bits.deBruijn32tab", laid_math_bits_deBruijn32tab), ("math/bits.deBruijn64tab", laid_math_bits_deBruijn64tab)] }
def VisitsGallaiSaid : Prop := visitsGallaiRow.holds Tryd.pinned (OpenSpec.ofChange visitsGallaiSpec)

/-- ITS FALSE NEIGHBOUR: 'it returns false'. Refute it at one input. -/
def visitsGallaiWrong : ChangeSpec := { name := "visitsGallai", fn := fun _ => fun
  | [d] => { results := [.lit (.bool false)], args := [d] }
  | _ => none }
def VisitsGallaiWrongFalsely : Prop := visitsGallaiRow.holds Tryd.pinned (OpenSpec.ofChange visitsGallaiWrong)

/-- 'clochelaw03.VisitsMatchings': WHATEVER THE INPUT: true; the input reads as it did. -/
def visitsMatchingsSpec : ChangeSpec := { name := "visitsMatchings", fn := fun _ => fun
  | [d1, d2] => { results := [.lit (.bool true)], args := [d1, d2] }
  | _ => none }
def visitsMatchingsRow : OpenClaim := { program := "ytadfcplobidmeaadoor", sum := "12db8b469fa5983335486f1bf83feb801d3e37d380a6e09b696e771abc63a395", func := "cloche/clochelaw03.VisitsMatchings", spec := "visitsMatchings", recurses := true, named := ["math/bits.deBruijn32tab", "math/bits.deBruijn64tab"], plainKeys := false, apart := false, laid := [("math/bits.deBruijn32tab", laid_math_bits_deBruijn32tab), ("math/bits.deBruijn64tab", laid_math_bits_deBruijn64tab)] }
def VisitsMatchingsSaid : Prop := visitsMatchingsRow.holds Tryd.pinned (OpenSpec.ofChange visitsMatchingsSpec)

/-- ITS FALSE NEIGHBOUR: 'it returns false'. Refute it at one input. -/
def visitsMatchingsWrong : ChangeSpec := { name := "visitsMatchings", fn := fun _ => fun
  | [d1, d2] => { results := [.lit (.bool false)], args := [d1, d2] }
  | _ => none }
def VisitsMatchingsWrongFalsely : Prop := visitsMatchingsRow.holds Tryd.pinned (OpenSpec.ofChange visitsMatchingsWrong)

/-- 'clochelaw03.VisitsAnswers': WHATEVER THE INPUT: true; the input reads as it did. -/
def visitsAnswersSpec : ChangeSpec := { name := "visitsAnswers", fn := fun _ => fun
  | [d1, d2, d3] => { results := [.lit (.bool true)], args := [d1, d2, d3] }
  | _ => none }
def visitsAnswersRow : OpenClaim := { program := "ytadfcplobidmeaadoor", sum := "12db8b469fa5983335486f1bf83feb801d3e37d380a6e09b696e771abc63a395", func := "cloche/clochelaw03.VisitsAnswers", spec := "visitsAnswers", recurses := true, named := ["math/bits.deBruijn32tab", "math/bits.deBruijn64tab"], plainKeys := false, apart := false, laid := [("math/bits.deBruijn32tab", laid_math_bits_deBruijn32tab), ("math/bits.deBruijn64tab", laid_math_bits_deBruijn64tab)] }
def VisitsAnswersSaid : Prop := visitsAnswersRow.holds Tryd.pinned (OpenSpec.ofChange visitsAnswersSpec)

/-- ITS FALSE NEIGHBOUR: 'it returns false'. Refute it at one input. -/
def visitsAnswersWrong : ChangeSpec := { name := "visitsAnswers", fn := fun _ => fun
  | [d1, d2, d3] => { results := [.lit (.bool false)], args := [d1, d2, d3] }
  | _ => none }
def VisitsAnswersWrongFalsely : Prop := visitsAnswersRow.holds Tryd.pinned (OpenSpec.ofChange visitsAnswersWrong)

/-- 'clochelaw03.VisitsLed': WHATEVER THE INPUT: true; the input reads as it did. -/
def visitsLedSpec : ChangeSpec := { name := "visitsLed", fn := fun _ => fun
  | [d1, d2, d3] => { results := [.lit (.bool true)], args := [d1, d2, d3] }
  | _ => none }
def visitsLedRow : OpenClaim := { program := "ytadfcplobidmeaadoor", sum := "12db8b469fa5983335486f1bf83feb801d3e37d380a6e09b696e771abc63a395", func := "cloche/clochelaw03.VisitsLed", spec := "visitsLed", recurses := true, named := ["math/bits.deBruijn32tab", "math/bits.deBruijn64tab"], plainKeys := false, apart := false, laid := [("math/bits.deBruijn32tab", laid_math_bits_deBruijn32tab), ("math/bits.deBruijn64tab", laid_math_bits_deBruijn64tab)] }
def VisitsLedSaid : Prop := visitsLedRow.holds Tryd.pinned (OpenSpec.ofChange visitsLedSpec)

/-- ITS FALSE NEIGHBOUR: 'it returns false'. Refute it at one input. -/
def visitsLedWrong : ChangeSpec := { name := "visitsLed", fn := fun _ => fun
  | [d1, d2, d3] => { results := [.lit (.bool false)], args := [d1, d2, d3] }
  | _ => none }
def VisitsLedWrongFalsely : Prop := visitsLedRow.holds Tryd.pinned (OpenSpec.ofChange visitsLedWrong)

/-- 'clochelaw03.VisitsTutte': WHATEVER THE INPUT: true; the input reads as it did. -/
def visitsTutteSpec : ChangeSpec := { name := "visitsTutte", fn := fun _ => fun
  | [d1, d2, d3] => { results := [.lit (.bool true)], args := [d1, d2, d3] }
  | _ => none }
def visitsTutteRow : OpenClaim := { program := "ytadfcplobidmeaadoor", sum := "12db8b469fa5983335486f1bf83feb801d3e37d380a6e09b696e771abc63a395", func := "cloche/clochelaw03.VisitsTutte", spec := "visitsTutte", recurses := true, named := ["math/bits.deBruijn32tab", "math/bits.deBruijn64tab"], plainKeys := false, apart := false, laid := [("math/bits.deBruijn32tab", laid_math_bits_deBruijn32tab), ("math/bits.deBruijn64tab", laid_math_bits_deBruijn64tab)] }
def VisitsTutteSaid : Prop := visitsTutteRow.holds Tryd.pinned (OpenSpec.ofChange visitsTutteSpec)

/-- ITS FALSE NEIGHBOUR: 'it returns false'. Refute it at one input. -/
def visitsTutteWrong : ChangeSpec := { name := "visitsTutte", fn := fun _ => fun
  | [d1, d2, d3] => { results := [.lit (.bool false)], args := [d1, d2, d3] }
  | _ => none }
def VisitsTutteWrongFalsely : Prop := visitsTutteRow.holds Tryd.pinned (OpenSpec.ofChange visitsTutteWrong)

/- THE SECOND FORM. 'bulk': how many values and letters a reading holds, each counted each time it is reached (what is shared counts as often as it is met; a slice's spare places count too). A statement '..UptoSaid' is the law's where the arguments, and the package variables that the reading takes, are together of bulk at most 1048576: NARROWER than '..Said'. Prove '..Said' where nothing that the law and all that it calls make is longer than what came in: it says more and counts as full. Else prove '..UptoSaid'. A law counts once. -/
mutual
def uptoBulk {H : Type} : DataW H → Nat
  | .lit (.string bytes) => bytes.length + 1
  | .lit _ => 1
  | .nil => 1
  | .ptr d => uptoBulk d + 1
  | .slice elems spare => uptoBulkAll elems + uptoBulkAll spare + 1
  | .agg parts => uptoBulkAll parts + 1
  | .iface _ d => uptoBulk d + 1
  | .map entries => uptoBulkEntries entries + 1
  | .held _ => 1
def uptoBulkAll {H : Type} : List (DataW H) → Nat
  | [] => 0
  | d :: r => uptoBulk d + uptoBulkAll r
def uptoBulkEntries {H : Type} : List (Lit × DataW H) → Nat
  | [] => 0
  | x :: r => uptoBulkEntry x + uptoBulkEntries r
def uptoBulkEntry {H : Type} : Lit × DataW H → Nat
  | (.string bytes, d) => bytes.length + uptoBulk d + 1
  | (_, d) => uptoBulk d + 1
 end
def uptoSmall : (H : Type) → List (DataW H) → Bool := fun _ ds => decide (uptoBulkAll ds ≤ 1048576)
def OpenSpec.upto (s : _root_.Go.ChangeSpec) : _root_.Go.OpenSpec := { _root_.Go.OpenSpec.ofChange s with cond := some uptoSmall }

/-- 'clochelaw03.VisitsNeeds', WHERE WHAT IT READS IS OF BULK AT MOST 1048576: true; the input reads as it did. -/
def visitsNeedsUptoRow : OpenClaim := { program := "ytadfcplobidmeaadoor", sum := "12db8b469fa5983335486f1bf83feb801d3e37d380a6e09b696e771abc63a395", func := "cloche/clochelaw03.VisitsNeeds", spec := "visitsNeeds", recurses := true, named := ["math/bits.deBruijn32tab", "math/bits.deBruijn64tab"], plainKeys := false, apart := false, laid := [("math/bits.deBruijn32tab", laid_math_bits_deBruijn32tab), ("math/bits.deBruijn64tab", laid_math_bits_deBruijn64tab)], narrowed := true }
def VisitsNeedsUptoSaid : Prop := visitsNeedsUptoRow.holds Tryd.pinned (OpenSpec.upto visitsNeedsSpec)

/-- 'clochelaw03.VisitsOne', WHERE WHAT IT READS IS OF BULK AT MOST 1048576: true; the input reads as it did. -/
def visitsOneUptoRow : OpenClaim := { program := "ytadfcplobidmeaadoor", sum := "12db8b469fa5983335486f1bf83feb801d3e37d380a6e09b696e771abc63a395", func := "cloche/clochelaw03.VisitsOne", spec := "visitsOne", recurses := true, named := ["math/bits.deBruijn32tab", "math/bits.deBruijn64tab"], plainKeys := false, apart := false, laid := [("math/bits.deBruijn32tab", laid_math_bits_deBruijn32tab), ("math/bits.deBruijn64tab", laid_math_bits_deBruijn64tab)], narrowed := true }
def VisitsOneUptoSaid : Prop := visitsOneUptoRow.holds Tryd.pinned (OpenSpec.upto visitsOneSpec)

/-- 'clochelaw03.VisitsGames', WHERE WHAT IT READS IS OF BULK AT MOST 1048576: true; the input reads as it did. -/
def visitsGamesUptoRow : OpenClaim := { program := "ytadfcplobidmeaadoor", sum := "12db8b469fa5983335486f1bf83feb801d3e37d380a6e09b696e771abc63a395", func := "cloche/clochelaw03.VisitsGames", spec := "visitsGames", recurses := true, named := ["math/bits.deBruijn32tab", "math/bits.deBruijn64tab"], plainKeys := false, apart := false, laid := [("math/bits.deBruijn32tab", laid_math_bits_deBruijn32tab), ("math/bits.deBruijn64tab", laid_math_bits_deBruijn64tab)], narrowed := true }
def VisitsGamesUptoSaid : Prop := visitsGamesUptoRow.holds Tryd.pinned (OpenSpec.upto visitsGamesSpec)

/-- 'clochelaw03.VisitsLess', WHERE WHAT IT READS IS OF BULK AT MOST 1048576: true; the input reads as it did. -/
def visitsLessUptoRow : OpenClaim := { program := "ytadfcplobidmeaadoor", sum := "12db8b469fa5983335486f1bf83feb801d3e37d380a6e09b696e771abc63a395", func := "cloche/clochelaw03.VisitsLess", spec := "visitsLess", recurses := true, named := ["math/bits.deBruijn32tab", "math/bits.deBruijn64tab"], plainKeys := false, apart := false, laid := [("math/bits.deBruijn32tab", laid_math_bits_deBruijn32tab), ("math/bits.deBruijn64tab", laid_math_bits_deBruijn64tab)], narrowed := true }
def VisitsLessUptoSaid : Prop := visitsLessUptoRow.holds Tryd.pinned (OpenSpec.upto visitsLessSpec)

/-- 'clochelaw03.VisitsBounds', WHERE WHAT IT READS IS OF BULK AT MOST 1048576: true; the input reads as it did. -/
def visitsBoundsUptoRow : OpenClaim := { program := "ytadfcplobidmeaadoor", sum := "12db8b469fa5983335486f1bf83feb801d3e37d380a6e09b696e771abc63a395", func := "cloche/clochelaw03.VisitsBounds", spec := "visitsBounds", recurses := true, named := ["math/bits.deBruijn32tab", "math/bits.deBruijn64tab"], plainKeys := false, apart := false, laid := [("math/bits.deBruijn32tab", laid_math_bits_deBruijn32tab), ("math/bits.deBruijn64tab", laid_math_bits_deBruijn64tab)], narrowed := true }
def VisitsBoundsUptoSaid : Prop := visitsBoundsUptoRow.holds Tryd.pinned (OpenSpec.upto visitsBoundsSpec)

/-- 'clochelaw03.VisitsFirst', WHERE WHAT IT READS IS OF BULK AT MOST 1048576: true; the input reads as it did. -/
def visitsFirstUptoRow : OpenClaim := { program := "ytadfcplobidmeaadoor", sum := "12db8b469fa5983335486f1bf83feb801d3e37d380a6e09b696e771abc63a395", func := "cloche/clochelaw03.VisitsFirst", spec := "visitsFirst", recurses := true, named := ["math/bits.deBruijn32tab", "math/bits.deBruijn64tab"], plainKeys := false, apart := false, laid := [("math/bits.deBruijn32tab", laid_math_bits_deBruijn32tab), ("math/bits.deBruijn64tab", laid_math_bits_deBruijn64tab)], narrowed := true }
def VisitsFirstUptoSaid : Prop := visitsFirstUptoRow.holds Tryd.pinned (OpenSpec.upto visitsFirstSpec)

/-- 'clochelaw03.VisitsParts', WHERE WHAT IT READS IS OF BULK AT MOST 1048576: true; the input reads as it did. -/
def visitsPartsUptoRow : OpenClaim := { program := "ytadfcplobidmeaadoor", sum := "12db8b469fa5983335486f1bf83feb801d3e37d380a6e09b696e771abc63a395", func := "cloche/clochelaw03.VisitsParts", spec := "visitsParts", recurses := true, named := ["math/bits.deBruijn32tab", "math/bits.deBruijn64tab"], plainKeys := false, apart := false, laid := [("math/bits.deBruijn32tab", laid_math_bits_deBruijn32tab), ("math/bits.deBruijn64tab", laid_math_bits_deBruijn64tab)], narrowed := true }
def VisitsPartsUptoSaid : Prop := visitsPartsUptoRow.holds Tryd.pinned (OpenSpec.upto visitsPartsSpec)

/-- 'clochelaw03.VisitsGallai', WHERE WHAT IT READS IS OF BULK AT MOST 1048576: true; the input reads as it did. -/
def visitsGallaiUptoRow : OpenClaim := { program := "ytadfcplobidmeaadoor", sum := "12db8b469fa5983335486f1bf83feb801d3e37d380a6e09b696e771abc63a395", func := "cloche/clochelaw03.VisitsGallai", spec := "visitsGallai", recurses := true, named := ["math/bits.deBruijn32tab", "math/bits.deBruijn64tab"], plainKeys := false, apart := false, laid := [("math/bits.deBruijn32tab", laid_math_bits_deBruijn32tab), ("math/bits.deBruijn64tab", laid_math_bits_deBruijn64tab)], narrowed := true }
def VisitsGallaiUptoSaid : Prop := visitsGallaiUptoRow.holds Tryd.pinned (OpenSpec.upto visitsGallaiSpec)

/-- 'clochelaw03.VisitsMatchings', WHERE WHAT IT READS IS OF BULK AT MOST 1048576: true; the input reads as it did. -/
def visitsMatchingsUptoRow : OpenClaim := { program := "ytadfcplobidmeaadoor", sum := "12db8b469fa5983335486f1bf83feb801d3e37d380a6e09b696e771abc63a395", func := "cloche/clochelaw03.VisitsMatchings", spec := "visitsMatchings", recurses := true, named := ["math/bits.deBruijn32tab", "math/bits.deBruijn64tab"], plainKeys := false, apart := false, laid := [("math/bits.deBruijn32tab", laid_math_bits_deBruijn32tab), ("math/bits.deBruijn64tab", laid_math_bits_deBruijn64tab)], narrowed := true }
def VisitsMatchingsUptoSaid : Prop := visitsMatchingsUptoRow.holds Tryd.pinned (OpenSpec.upto visitsMatchingsSpec)

/-- 'clochelaw03.VisitsAnswers', WHERE WHAT IT READS IS OF BULK AT MOST 1048576: true; the input reads as it did. -/
def visitsAnswersUptoRow : OpenClaim := { program := "ytadfcplobidmeaadoor", sum := "12db8b469fa5983335486f1bf83feb801d3e37d380a6e09b696e771abc63a395", func := "cloche/clochelaw03.VisitsAnswers", spec := "visitsAnswers", recurses := true, named := ["math/bits.deBruijn32tab", "math/bits.deBruijn64tab"], plainKeys := false, apart := false, laid := [("math/bits.deBruijn32tab", laid_math_bits_deBruijn32tab), ("math/bits.deBruijn64tab", laid_math_bits_deBruijn64tab)], narrowed := true }
def VisitsAnswersUptoSaid : Prop := visitsAnswersUptoRow.holds Tryd.pinned (OpenSpec.upto visitsAnswersSpec)

/-- 'clochelaw03.VisitsLed', WHERE WHAT IT READS IS OF BULK AT MOST 1048576: true; the input reads as it did. -/
def visitsLedUptoRow : OpenClaim := { program := "ytadfcplobidmeaadoor", sum := "12db8b469fa5983335486f1bf83feb801d3e37d380a6e09b696e771abc63a395", func := "cloche/clochelaw03.VisitsLed", spec := "visitsLed", recurses := true, named := ["math/bits.deBruijn32tab", "math/bits.deBruijn64tab"], plainKeys := false, apart := false, laid := [("math/bits.deBruijn32tab", laid_math_bits_deBruijn32tab), ("math/bits.deBruijn64tab", laid_math_bits_deBruijn64tab)], narrowed := true }
def VisitsLedUptoSaid : Prop := visitsLedUptoRow.holds Tryd.pinned (OpenSpec.upto visitsLedSpec)

/-- 'clochelaw03.VisitsTutte', WHERE WHAT IT READS IS OF BULK AT MOST 1048576: true; the input reads as it did. -/
def visitsTutteUptoRow : OpenClaim := { program := "ytadfcplobidmeaadoor", sum := "12db8b469fa5983335486f1bf83feb801d3e37d380a6e09b696e771abc63a395", func := "cloche/clochelaw03.VisitsTutte", spec := "visitsTutte", recurses := true, named := ["math/bits.deBruijn32tab", "math/bits.deBruijn64tab"], plainKeys := false, apart := false, laid := [("math/bits.deBruijn32tab", laid_math_bits_deBruijn32tab), ("math/bits.deBruijn64tab", laid_math_bits_deBruijn64tab)], narrowed := true }
def VisitsTutteUptoSaid : Prop := visitsTutteUptoRow.holds Tryd.pinned (OpenSpec.upto visitsTutteSpec)

end Rows
end Go.Proofs.YtadfcplobidmeaaDoor
