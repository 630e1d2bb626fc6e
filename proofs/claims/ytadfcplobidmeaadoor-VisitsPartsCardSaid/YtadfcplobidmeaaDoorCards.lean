/-
  DERIVED. GIVEN WITH THE SEED: THE CARDS: each row of YtadfcplobidmeaaDoorRows.lean that lists a variable, with what it lists TIED to the program's text (the seventh form; the later family's looks); each row that meets fmt, with fmt's text TOLD by the authors' own Lean function (tested against real Go, not proved from fmt's source: count such statements apart). THE CARD IS WHAT COUNTS. Prove the row's statement (the work); the ties are given (YtadfcplobidmeaaDoorTie.lean); close each card by the builder's one call (the guide's Derived/Test/ToyasCard.lean, 'card_holds'). Laid BY PROGRAM, IN A SANDBOX (cutbox-door.mjs). By AI agents, Wed Nov 11 2026. No macro, syntax, notation, axiom, sorry.
-/
import Derived.Test.YtadfcplobidmeaaDoorRows
import GoSem.ClaimSeven
namespace Go.Proofs.YtadfcplobidmeaaDoor
namespace Rows

/-- THE TIED CARD OF 'clochelaw03.VisitsNeeds'. -/
def visitsNeedsCard : Claim7 := { stood := { row := visitsNeedsRow, standIns := [], harness := (true, "613d42e763e3c04c633c5e95f4de3f2c4f2c1c2ee946cce1d2bc6033ae8df5b7"), looks := false }, kinds := [], alts := [], laidByText := true, laidKinds := [.data, .data], laidTests := true, laidLooks := .later }
def VisitsNeedsCardSaid : Prop := Claim7.holds Tryd.pinned (.plain (OpenSpec.ofChange visitsNeedsSpec)) visitsNeedsCard

/-- THE TIED CARD OF 'clochelaw03.VisitsOne'. -/
def visitsOneCard : Claim7 := { stood := { row := visitsOneRow, standIns := [], harness := (true, "613d42e763e3c04c633c5e95f4de3f2c4f2c1c2ee946cce1d2bc6033ae8df5b7"), looks := false }, kinds := [], alts := [], laidByText := true, laidKinds := [.data, .data], laidTests := true, laidLooks := .later }
def VisitsOneCardSaid : Prop := Claim7.holds Tryd.pinned (.plain (OpenSpec.ofChange visitsOneSpec)) visitsOneCard

/-- THE TIED CARD OF 'clochelaw03.VisitsGames'. -/
def visitsGamesCard : Claim7 := { stood := { row := visitsGamesRow, standIns := [], harness := (true, "613d42e763e3c04c633c5e95f4de3f2c4f2c1c2ee946cce1d2bc6033ae8df5b7"), looks := false }, kinds := [], alts := [], laidByText := true, laidKinds := [.data, .data], laidTests := true, laidLooks := .later }
def VisitsGamesCardSaid : Prop := Claim7.holds Tryd.pinned (.plain (OpenSpec.ofChange visitsGamesSpec)) visitsGamesCard

/-- THE TIED CARD OF 'clochelaw03.VisitsLess'. -/
def visitsLessCard : Claim7 := { stood := { row := visitsLessRow, standIns := [], harness := (true, "613d42e763e3c04c633c5e95f4de3f2c4f2c1c2ee946cce1d2bc6033ae8df5b7"), looks := false }, kinds := [], alts := [], laidByText := true, laidKinds := [.data, .data], laidTests := true, laidLooks := .later }
def VisitsLessCardSaid : Prop := Claim7.holds Tryd.pinned (.plain (OpenSpec.ofChange visitsLessSpec)) visitsLessCard

/-- THE TIED CARD OF 'clochelaw03.VisitsBounds'. -/
def visitsBoundsCard : Claim7 := { stood := { row := visitsBoundsRow, standIns := [], harness := (true, "613d42e763e3c04c633c5e95f4de3f2c4f2c1c2ee946cce1d2bc6033ae8df5b7"), looks := false }, kinds := [], alts := [], laidByText := true, laidKinds := [.data, .data], laidTests := true, laidLooks := .later }
def VisitsBoundsCardSaid : Prop := Claim7.holds Tryd.pinned (.plain (OpenSpec.ofChange visitsBoundsSpec)) visitsBoundsCard

/-- THE TIED CARD OF 'clochelaw03.VisitsFirst'. -/
def visitsFirstCard : Claim7 := { stood := { row := visitsFirstRow, standIns := [], harness := (true, "613d42e763e3c04c633c5e95f4de3f2c4f2c1c2ee946cce1d2bc6033ae8df5b7"), looks := false }, kinds := [], alts := [], laidByText := true, laidKinds := [.data, .data], laidTests := true, laidLooks := .later }
def VisitsFirstCardSaid : Prop := Claim7.holds Tryd.pinned (.plain (OpenSpec.ofChange visitsFirstSpec)) visitsFirstCard

/-- THE TIED CARD OF 'clochelaw03.VisitsParts'. -/
def visitsPartsCard : Claim7 := { stood := { row := visitsPartsRow, standIns := [], harness := (true, "613d42e763e3c04c633c5e95f4de3f2c4f2c1c2ee946cce1d2bc6033ae8df5b7"), looks := false }, kinds := [], alts := [], laidByText := true, laidKinds := [.data, .data], laidTests := true, laidLooks := .later }
def VisitsPartsCardSaid : Prop := Claim7.holds Tryd.pinned (.plain (OpenSpec.ofChange visitsPartsSpec)) visitsPartsCard

/-- THE TIED CARD OF 'clochelaw03.VisitsGallai'. -/
def visitsGallaiCard : Claim7 := { stood := { row := visitsGallaiRow, standIns := [], harness := (true, "613d42e763e3c04c633c5e95f4de3f2c4f2c1c2ee946cce1d2bc6033ae8df5b7"), looks := false }, kinds := [], alts := [], laidByText := true, laidKinds := [.data, .data], laidTests := true, laidLooks := .later }
def VisitsGallaiCardSaid : Prop := Claim7.holds Tryd.pinned (.plain (OpenSpec.ofChange visitsGallaiSpec)) visitsGallaiCard

/-- THE TIED CARD OF 'clochelaw03.VisitsMatchings'. -/
def visitsMatchingsCard : Claim7 := { stood := { row := visitsMatchingsRow, standIns := [], harness := (true, "613d42e763e3c04c633c5e95f4de3f2c4f2c1c2ee946cce1d2bc6033ae8df5b7"), looks := false }, kinds := [], alts := [], laidByText := true, laidKinds := [.data, .data], laidTests := true, laidLooks := .later }
def VisitsMatchingsCardSaid : Prop := Claim7.holds Tryd.pinned (.plain (OpenSpec.ofChange visitsMatchingsSpec)) visitsMatchingsCard

/-- THE TIED CARD OF 'clochelaw03.VisitsAnswers'. -/
def visitsAnswersCard : Claim7 := { stood := { row := visitsAnswersRow, standIns := [], harness := (true, "613d42e763e3c04c633c5e95f4de3f2c4f2c1c2ee946cce1d2bc6033ae8df5b7"), looks := false }, kinds := [], alts := [], laidByText := true, laidKinds := [.data, .data], laidTests := true, laidLooks := .later }
def VisitsAnswersCardSaid : Prop := Claim7.holds Tryd.pinned (.plain (OpenSpec.ofChange visitsAnswersSpec)) visitsAnswersCard

/-- THE TIED CARD OF 'clochelaw03.VisitsLed'. -/
def visitsLedCard : Claim7 := { stood := { row := visitsLedRow, standIns := [], harness := (true, "613d42e763e3c04c633c5e95f4de3f2c4f2c1c2ee946cce1d2bc6033ae8df5b7"), looks := false }, kinds := [], alts := [], laidByText := true, laidKinds := [.data, .data], laidTests := true, laidLooks := .later }
def VisitsLedCardSaid : Prop := Claim7.holds Tryd.pinned (.plain (OpenSpec.ofChange visitsLedSpec)) visitsLedCard

/-- THE TIED CARD OF 'clochelaw03.VisitsTutte'. -/
def visitsTutteCard : Claim7 := { stood := { row := visitsTutteRow, standIns := [], harness := (true, "613d42e763e3c04c633c5e95f4de3f2c4f2c1c2ee946cce1d2bc6033ae8df5b7"), looks := false }, kinds := [], alts := [], laidByText := true, laidKinds := [.data, .data], laidTests := true, laidLooks := .later }
def VisitsTutteCardSaid : Prop := Claim7.holds Tryd.pinned (.plain (OpenSpec.ofChange visitsTutteSpec)) visitsTutteCard

/-- THE SECOND FORM's CARD OF 'clochelaw03.VisitsNeeds'. -/
def visitsNeedsUptoCard : Claim7 := { stood := { row := visitsNeedsUptoRow, standIns := [], harness := (true, "613d42e763e3c04c633c5e95f4de3f2c4f2c1c2ee946cce1d2bc6033ae8df5b7"), looks := false }, kinds := [], alts := [], laidByText := true, laidKinds := [.data, .data], laidTests := true, laidLooks := .later }
def VisitsNeedsUptoCardSaid : Prop := Claim7.holds Tryd.pinned (.plain (OpenSpec.upto visitsNeedsSpec)) visitsNeedsUptoCard

/-- THE SECOND FORM's CARD OF 'clochelaw03.VisitsOne'. -/
def visitsOneUptoCard : Claim7 := { stood := { row := visitsOneUptoRow, standIns := [], harness := (true, "613d42e763e3c04c633c5e95f4de3f2c4f2c1c2ee946cce1d2bc6033ae8df5b7"), looks := false }, kinds := [], alts := [], laidByText := true, laidKinds := [.data, .data], laidTests := true, laidLooks := .later }
def VisitsOneUptoCardSaid : Prop := Claim7.holds Tryd.pinned (.plain (OpenSpec.upto visitsOneSpec)) visitsOneUptoCard

/-- THE SECOND FORM's CARD OF 'clochelaw03.VisitsGames'. -/
def visitsGamesUptoCard : Claim7 := { stood := { row := visitsGamesUptoRow, standIns := [], harness := (true, "613d42e763e3c04c633c5e95f4de3f2c4f2c1c2ee946cce1d2bc6033ae8df5b7"), looks := false }, kinds := [], alts := [], laidByText := true, laidKinds := [.data, .data], laidTests := true, laidLooks := .later }
def VisitsGamesUptoCardSaid : Prop := Claim7.holds Tryd.pinned (.plain (OpenSpec.upto visitsGamesSpec)) visitsGamesUptoCard

/-- THE SECOND FORM's CARD OF 'clochelaw03.VisitsLess'. -/
def visitsLessUptoCard : Claim7 := { stood := { row := visitsLessUptoRow, standIns := [], harness := (true, "613d42e763e3c04c633c5e95f4de3f2c4f2c1c2ee946cce1d2bc6033ae8df5b7"), looks := false }, kinds := [], alts := [], laidByText := true, laidKinds := [.data, .data], laidTests := true, laidLooks := .later }
def VisitsLessUptoCardSaid : Prop := Claim7.holds Tryd.pinned (.plain (OpenSpec.upto visitsLessSpec)) visitsLessUptoCard

/-- THE SECOND FORM's CARD OF 'clochelaw03.VisitsBounds'. -/
def visitsBoundsUptoCard : Claim7 := { stood := { row := visitsBoundsUptoRow, standIns := [], harness := (true, "613d42e763e3c04c633c5e95f4de3f2c4f2c1c2ee946cce1d2bc6033ae8df5b7"), looks := false }, kinds := [], alts := [], laidByText := true, laidKinds := [.data, .data], laidTests := true, laidLooks := .later }
def VisitsBoundsUptoCardSaid : Prop := Claim7.holds Tryd.pinned (.plain (OpenSpec.upto visitsBoundsSpec)) visitsBoundsUptoCard

/-- THE SECOND FORM's CARD OF 'clochelaw03.VisitsFirst'. -/
def visitsFirstUptoCard : Claim7 := { stood := { row := visitsFirstUptoRow, standIns := [], harness := (true, "613d42e763e3c04c633c5e95f4de3f2c4f2c1c2ee946cce1d2bc6033ae8df5b7"), looks := false }, kinds := [], alts := [], laidByText := true, laidKinds := [.data, .data], laidTests := true, laidLooks := .later }
def VisitsFirstUptoCardSaid : Prop := Claim7.holds Tryd.pinned (.plain (OpenSpec.upto visitsFirstSpec)) visitsFirstUptoCard

/-- THE SECOND FORM's CARD OF 'clochelaw03.VisitsParts'. -/
def visitsPartsUptoCard : Claim7 := { stood := { row := visitsPartsUptoRow, standIns := [], harness := (true, "613d42e763e3c04c633c5e95f4de3f2c4f2c1c2ee946cce1d2bc6033ae8df5b7"), looks := false }, kinds := [], alts := [], laidByText := true, laidKinds := [.data, .data], laidTests := true, laidLooks := .later }
def VisitsPartsUptoCardSaid : Prop := Claim7.holds Tryd.pinned (.plain (OpenSpec.upto visitsPartsSpec)) visitsPartsUptoCard

/-- THE SECOND FORM's CARD OF 'clochelaw03.VisitsGallai'. -/
def visitsGallaiUptoCard : Claim7 := { stood := { row := visitsGallaiUptoRow, standIns := [], harness := (true, "613d42e763e3c04c633c5e95f4de3f2c4f2c1c2ee946cce1d2bc6033ae8df5b7"), looks := false }, kinds := [], alts := [], laidByText := true, laidKinds := [.data, .data], laidTests := true, laidLooks := .later }
def VisitsGallaiUptoCardSaid : Prop := Claim7.holds Tryd.pinned (.plain (OpenSpec.upto visitsGallaiSpec)) visitsGallaiUptoCard

/-- THE SECOND FORM's CARD OF 'clochelaw03.VisitsMatchings'. -/
def visitsMatchingsUptoCard : Claim7 := { stood := { row := visitsMatchingsUptoRow, standIns := [], harness := (true, "613d42e763e3c04c633c5e95f4de3f2c4f2c1c2ee946cce1d2bc6033ae8df5b7"), looks := false }, kinds := [], alts := [], laidByText := true, laidKinds := [.data, .data], laidTests := true, laidLooks := .later }
def VisitsMatchingsUptoCardSaid : Prop := Claim7.holds Tryd.pinned (.plain (OpenSpec.upto visitsMatchingsSpec)) visitsMatchingsUptoCard

/-- THE SECOND FORM's CARD OF 'clochelaw03.VisitsAnswers'. -/
def visitsAnswersUptoCard : Claim7 := { stood := { row := visitsAnswersUptoRow, standIns := [], harness := (true, "613d42e763e3c04c633c5e95f4de3f2c4f2c1c2ee946cce1d2bc6033ae8df5b7"), looks := false }, kinds := [], alts := [], laidByText := true, laidKinds := [.data, .data], laidTests := true, laidLooks := .later }
def VisitsAnswersUptoCardSaid : Prop := Claim7.holds Tryd.pinned (.plain (OpenSpec.upto visitsAnswersSpec)) visitsAnswersUptoCard

/-- THE SECOND FORM's CARD OF 'clochelaw03.VisitsLed'. -/
def visitsLedUptoCard : Claim7 := { stood := { row := visitsLedUptoRow, standIns := [], harness := (true, "613d42e763e3c04c633c5e95f4de3f2c4f2c1c2ee946cce1d2bc6033ae8df5b7"), looks := false }, kinds := [], alts := [], laidByText := true, laidKinds := [.data, .data], laidTests := true, laidLooks := .later }
def VisitsLedUptoCardSaid : Prop := Claim7.holds Tryd.pinned (.plain (OpenSpec.upto visitsLedSpec)) visitsLedUptoCard

/-- THE SECOND FORM's CARD OF 'clochelaw03.VisitsTutte'. -/
def visitsTutteUptoCard : Claim7 := { stood := { row := visitsTutteUptoRow, standIns := [], harness := (true, "613d42e763e3c04c633c5e95f4de3f2c4f2c1c2ee946cce1d2bc6033ae8df5b7"), looks := false }, kinds := [], alts := [], laidByText := true, laidKinds := [.data, .data], laidTests := true, laidLooks := .later }
def VisitsTutteUptoCardSaid : Prop := Claim7.holds Tryd.pinned (.plain (OpenSpec.upto visitsTutteSpec)) visitsTutteUptoCard
end Rows
end Go.Proofs.YtadfcplobidmeaaDoor
