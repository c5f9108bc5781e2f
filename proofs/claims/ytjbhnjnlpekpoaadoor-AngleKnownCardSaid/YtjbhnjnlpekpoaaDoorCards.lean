/-
  DERIVED. GIVEN WITH THE SEED: THE CARDS: each row of YtjbhnjnlpekpoaaDoorRows.lean that lists a variable, with what it lists TIED to the program's text (the seventh form; the later family's looks); each row that meets fmt, with fmt's text TOLD by the authors' own Lean function (tested against real Go, not proved from fmt's source: count such statements apart). THE CARD IS WHAT COUNTS. Prove the row's statement (the work); the ties are given (YtjbhnjnlpekpoaaDoorTie.lean); close each card by the builder's one call (the guide's Derived/Test/ToyasCard.lean, 'card_holds'). Laid BY PROGRAM, IN A SANDBOX (cutbox-door.mjs). By AI agents, Wed Nov 11 2026. No macro, syntax, notation, axiom, sorry.
-/
import Derived.Test.YtjbhnjnlpekpoaaDoorRows
import GoSem.ClaimSeven
namespace Go.Proofs.YtjbhnjnlpekpoaaDoor
namespace Rows

/-- THE TIED CARD OF 'linkboylaw01.AngleCircle'. -/
def angleCircleCard : Claim7 := { stood := { row := angleCircleRow, standIns := [], harness := (true, "f500b772966765e17bb92c4907f452a56071287aa98430d356a9a756cc49da7e"), looks := true }, kinds := [], alts := [], laidByText := true, laidKinds := [.data, .data, .data, .data, .data, .pinned], laidTests := true, laidLooks := .later }
def AngleCircleCardSaid : Prop := Claim7.holds Tryd.pinned (.plain (OpenSpec.ofChange angleCircleSpec)) angleCircleCard

/-- THE TIED CARD OF 'linkboylaw01.AngleBack'. -/
def angleBackCard : Claim7 := { stood := { row := angleBackRow, standIns := [], harness := (true, "f500b772966765e17bb92c4907f452a56071287aa98430d356a9a756cc49da7e"), looks := true }, kinds := [], alts := [], laidByText := true, laidKinds := [.data, .data, .data, .data, .data, .pinned], laidTests := true, laidLooks := .later }
def AngleBackCardSaid : Prop := Claim7.holds Tryd.pinned (.plain (OpenSpec.ofChange angleBackSpec)) angleBackCard

/-- THE TIED CARD OF 'linkboylaw01.AngleSines'. -/
def angleSinesCard : Claim7 := { stood := { row := angleSinesRow, standIns := [], harness := (true, "f500b772966765e17bb92c4907f452a56071287aa98430d356a9a756cc49da7e"), looks := true }, kinds := [], alts := [], laidByText := true, laidKinds := [.data, .data, .data, .data, .data, .pinned], laidTests := true, laidLooks := .later }
def AngleSinesCardSaid : Prop := Claim7.holds Tryd.pinned (.plain (OpenSpec.ofChange angleSinesSpec)) angleSinesCard

/-- THE TIED CARD OF 'linkboylaw01.AngleEncloses'. -/
def angleEnclosesCard : Claim7 := { stood := { row := angleEnclosesRow, standIns := [], harness := (true, "f500b772966765e17bb92c4907f452a56071287aa98430d356a9a756cc49da7e"), looks := true }, kinds := [], alts := [], laidByText := true, laidKinds := [.data, .data, .data, .data, .data, .pinned], laidTests := true, laidLooks := .later }
def AngleEnclosesCardSaid : Prop := Claim7.holds Tryd.pinned (.plain (OpenSpec.ofChange angleEnclosesSpec)) angleEnclosesCard

/-- THE TIED CARD OF 'linkboylaw01.AngleFractions'. -/
def angleFractionsCard : Claim7 := { stood := { row := angleFractionsRow, standIns := [], harness := (true, "f500b772966765e17bb92c4907f452a56071287aa98430d356a9a756cc49da7e"), looks := true }, kinds := [], alts := [], laidByText := true, laidKinds := [.data, .data, .data, .data, .data, .pinned], laidTests := true, laidLooks := .later }
def AngleFractionsCardSaid : Prop := Claim7.holds Tryd.pinned (.plain (OpenSpec.ofChange angleFractionsSpec)) angleFractionsCard

/-- THE TIED CARD OF 'linkboylaw01.AngleArithmetic'. -/
def angleArithmeticCard : Claim7 := { stood := { row := angleArithmeticRow, standIns := [], harness := (true, "f500b772966765e17bb92c4907f452a56071287aa98430d356a9a756cc49da7e"), looks := true }, kinds := [], alts := [], laidByText := true, laidKinds := [.data, .data, .data, .data, .data, .pinned], laidTests := true, laidLooks := .later }
def AngleArithmeticCardSaid : Prop := Claim7.holds Tryd.pinned (.plain (OpenSpec.ofChange angleArithmeticSpec)) angleArithmeticCard

/-- THE TIED CARD OF 'linkboylaw01.AngleRoots'. -/
def angleRootsCard : Claim7 := { stood := { row := angleRootsRow, standIns := [], harness := (true, "f500b772966765e17bb92c4907f452a56071287aa98430d356a9a756cc49da7e"), looks := true }, kinds := [], alts := [], laidByText := true, laidKinds := [.data, .data, .data, .data, .data, .pinned], laidTests := true, laidLooks := .later }
def AngleRootsCardSaid : Prop := Claim7.holds Tryd.pinned (.plain (OpenSpec.ofChange angleRootsSpec)) angleRootsCard

/-- THE TIED CARD OF 'linkboylaw01.AngleArcs'. -/
def angleArcsCard : Claim7 := { stood := { row := angleArcsRow, standIns := [], harness := (true, "f500b772966765e17bb92c4907f452a56071287aa98430d356a9a756cc49da7e"), looks := true }, kinds := [], alts := [], laidByText := true, laidKinds := [.data, .data, .data, .data, .data, .pinned], laidTests := true, laidLooks := .later }
def AngleArcsCardSaid : Prop := Claim7.holds Tryd.pinned (.plain (OpenSpec.ofChange angleArcsSpec)) angleArcsCard

/-- THE TIED CARD OF 'linkboylaw01.AngleWithin'. -/
def angleWithinCard : Claim7 := { stood := { row := angleWithinRow, standIns := [], harness := (true, "f500b772966765e17bb92c4907f452a56071287aa98430d356a9a756cc49da7e"), looks := true }, kinds := [], alts := [], laidByText := true, laidKinds := [.data, .data, .data, .data, .data, .pinned], laidTests := true, laidLooks := .later }
def AngleWithinCardSaid : Prop := Claim7.holds Tryd.pinned (.plain (OpenSpec.ofChange angleWithinSpec)) angleWithinCard

/-- THE TIED CARD OF 'linkboylaw01.AngleStrings'. -/
def angleStringsCard : Claim7 := { stood := { row := angleStringsRow, standIns := [], harness := (true, "f500b772966765e17bb92c4907f452a56071287aa98430d356a9a756cc49da7e"), looks := true }, kinds := [], alts := [], laidByText := true, laidKinds := [.data, .data, .data, .data, .sentinel, .sentinel, .data, .pinned], laidTests := true, laidLooks := .later }
def AngleStringsCardSaid : Prop := Claim7.holds Tryd.pinned (.plain (OpenSpec.ofChange angleStringsSpec)) angleStringsCard

/-- THE TIED CARD OF 'linkboylaw01.AngleRead'. -/
def angleReadCard : Claim7 := { stood := { row := angleReadRow, standIns := [], harness := (true, "f500b772966765e17bb92c4907f452a56071287aa98430d356a9a756cc49da7e"), looks := true }, kinds := [], alts := [], laidByText := true, laidKinds := [.data, .data, .data, .data, .sentinel, .sentinel, .data, .pinned], laidTests := true, laidLooks := .later }
def AngleReadCardSaid : Prop := Claim7.holds Tryd.pinned (.plain (OpenSpec.ofChange angleReadSpec)) angleReadCard

/-- THE TIED CARD OF 'linkboylaw01.AngleKnown'. -/
def angleKnownCard : Claim7 := { stood := { row := angleKnownRow, standIns := [], harness := (true, "f500b772966765e17bb92c4907f452a56071287aa98430d356a9a756cc49da7e"), looks := true }, kinds := [], alts := [], laidByText := true, laidKinds := [.data, .data, .data, .data, .sentinel, .sentinel, .data, .pinned], laidTests := true, laidLooks := .later }
def AngleKnownCardSaid : Prop := Claim7.holds Tryd.pinned (.plain (OpenSpec.ofChange angleKnownSpec)) angleKnownCard

/-- THE SECOND FORM's CARD OF 'linkboylaw01.AngleCircle'. -/
def angleCircleUptoCard : Claim7 := { stood := { row := angleCircleUptoRow, standIns := [], harness := (true, "f500b772966765e17bb92c4907f452a56071287aa98430d356a9a756cc49da7e"), looks := true }, kinds := [], alts := [], laidByText := true, laidKinds := [.data, .data, .data, .data, .data, .pinned], laidTests := true, laidLooks := .later }
def AngleCircleUptoCardSaid : Prop := Claim7.holds Tryd.pinned (.plain (OpenSpec.upto angleCircleSpec)) angleCircleUptoCard

/-- THE SECOND FORM's CARD OF 'linkboylaw01.AngleBack'. -/
def angleBackUptoCard : Claim7 := { stood := { row := angleBackUptoRow, standIns := [], harness := (true, "f500b772966765e17bb92c4907f452a56071287aa98430d356a9a756cc49da7e"), looks := true }, kinds := [], alts := [], laidByText := true, laidKinds := [.data, .data, .data, .data, .data, .pinned], laidTests := true, laidLooks := .later }
def AngleBackUptoCardSaid : Prop := Claim7.holds Tryd.pinned (.plain (OpenSpec.upto angleBackSpec)) angleBackUptoCard

/-- THE SECOND FORM's CARD OF 'linkboylaw01.AngleSines'. -/
def angleSinesUptoCard : Claim7 := { stood := { row := angleSinesUptoRow, standIns := [], harness := (true, "f500b772966765e17bb92c4907f452a56071287aa98430d356a9a756cc49da7e"), looks := true }, kinds := [], alts := [], laidByText := true, laidKinds := [.data, .data, .data, .data, .data, .pinned], laidTests := true, laidLooks := .later }
def AngleSinesUptoCardSaid : Prop := Claim7.holds Tryd.pinned (.plain (OpenSpec.upto angleSinesSpec)) angleSinesUptoCard

/-- THE SECOND FORM's CARD OF 'linkboylaw01.AngleEncloses'. -/
def angleEnclosesUptoCard : Claim7 := { stood := { row := angleEnclosesUptoRow, standIns := [], harness := (true, "f500b772966765e17bb92c4907f452a56071287aa98430d356a9a756cc49da7e"), looks := true }, kinds := [], alts := [], laidByText := true, laidKinds := [.data, .data, .data, .data, .data, .pinned], laidTests := true, laidLooks := .later }
def AngleEnclosesUptoCardSaid : Prop := Claim7.holds Tryd.pinned (.plain (OpenSpec.upto angleEnclosesSpec)) angleEnclosesUptoCard

/-- THE SECOND FORM's CARD OF 'linkboylaw01.AngleFractions'. -/
def angleFractionsUptoCard : Claim7 := { stood := { row := angleFractionsUptoRow, standIns := [], harness := (true, "f500b772966765e17bb92c4907f452a56071287aa98430d356a9a756cc49da7e"), looks := true }, kinds := [], alts := [], laidByText := true, laidKinds := [.data, .data, .data, .data, .data, .pinned], laidTests := true, laidLooks := .later }
def AngleFractionsUptoCardSaid : Prop := Claim7.holds Tryd.pinned (.plain (OpenSpec.upto angleFractionsSpec)) angleFractionsUptoCard

/-- THE SECOND FORM's CARD OF 'linkboylaw01.AngleArithmetic'. -/
def angleArithmeticUptoCard : Claim7 := { stood := { row := angleArithmeticUptoRow, standIns := [], harness := (true, "f500b772966765e17bb92c4907f452a56071287aa98430d356a9a756cc49da7e"), looks := true }, kinds := [], alts := [], laidByText := true, laidKinds := [.data, .data, .data, .data, .data, .pinned], laidTests := true, laidLooks := .later }
def AngleArithmeticUptoCardSaid : Prop := Claim7.holds Tryd.pinned (.plain (OpenSpec.upto angleArithmeticSpec)) angleArithmeticUptoCard

/-- THE SECOND FORM's CARD OF 'linkboylaw01.AngleRoots'. -/
def angleRootsUptoCard : Claim7 := { stood := { row := angleRootsUptoRow, standIns := [], harness := (true, "f500b772966765e17bb92c4907f452a56071287aa98430d356a9a756cc49da7e"), looks := true }, kinds := [], alts := [], laidByText := true, laidKinds := [.data, .data, .data, .data, .data, .pinned], laidTests := true, laidLooks := .later }
def AngleRootsUptoCardSaid : Prop := Claim7.holds Tryd.pinned (.plain (OpenSpec.upto angleRootsSpec)) angleRootsUptoCard

/-- THE SECOND FORM's CARD OF 'linkboylaw01.AngleArcs'. -/
def angleArcsUptoCard : Claim7 := { stood := { row := angleArcsUptoRow, standIns := [], harness := (true, "f500b772966765e17bb92c4907f452a56071287aa98430d356a9a756cc49da7e"), looks := true }, kinds := [], alts := [], laidByText := true, laidKinds := [.data, .data, .data, .data, .data, .pinned], laidTests := true, laidLooks := .later }
def AngleArcsUptoCardSaid : Prop := Claim7.holds Tryd.pinned (.plain (OpenSpec.upto angleArcsSpec)) angleArcsUptoCard

/-- THE SECOND FORM's CARD OF 'linkboylaw01.AngleWithin'. -/
def angleWithinUptoCard : Claim7 := { stood := { row := angleWithinUptoRow, standIns := [], harness := (true, "f500b772966765e17bb92c4907f452a56071287aa98430d356a9a756cc49da7e"), looks := true }, kinds := [], alts := [], laidByText := true, laidKinds := [.data, .data, .data, .data, .data, .pinned], laidTests := true, laidLooks := .later }
def AngleWithinUptoCardSaid : Prop := Claim7.holds Tryd.pinned (.plain (OpenSpec.upto angleWithinSpec)) angleWithinUptoCard

/-- THE SECOND FORM's CARD OF 'linkboylaw01.AngleStrings'. -/
def angleStringsUptoCard : Claim7 := { stood := { row := angleStringsUptoRow, standIns := [], harness := (true, "f500b772966765e17bb92c4907f452a56071287aa98430d356a9a756cc49da7e"), looks := true }, kinds := [], alts := [], laidByText := true, laidKinds := [.data, .data, .data, .data, .sentinel, .sentinel, .data, .pinned], laidTests := true, laidLooks := .later }
def AngleStringsUptoCardSaid : Prop := Claim7.holds Tryd.pinned (.plain (OpenSpec.upto angleStringsSpec)) angleStringsUptoCard

/-- THE SECOND FORM's CARD OF 'linkboylaw01.AngleRead'. -/
def angleReadUptoCard : Claim7 := { stood := { row := angleReadUptoRow, standIns := [], harness := (true, "f500b772966765e17bb92c4907f452a56071287aa98430d356a9a756cc49da7e"), looks := true }, kinds := [], alts := [], laidByText := true, laidKinds := [.data, .data, .data, .data, .sentinel, .sentinel, .data, .pinned], laidTests := true, laidLooks := .later }
def AngleReadUptoCardSaid : Prop := Claim7.holds Tryd.pinned (.plain (OpenSpec.upto angleReadSpec)) angleReadUptoCard

/-- THE SECOND FORM's CARD OF 'linkboylaw01.AngleKnown'. -/
def angleKnownUptoCard : Claim7 := { stood := { row := angleKnownUptoRow, standIns := [], harness := (true, "f500b772966765e17bb92c4907f452a56071287aa98430d356a9a756cc49da7e"), looks := true }, kinds := [], alts := [], laidByText := true, laidKinds := [.data, .data, .data, .data, .sentinel, .sentinel, .data, .pinned], laidTests := true, laidLooks := .later }
def AngleKnownUptoCardSaid : Prop := Claim7.holds Tryd.pinned (.plain (OpenSpec.upto angleKnownSpec)) angleKnownUptoCard
end Rows
end Go.Proofs.YtjbhnjnlpekpoaaDoor
