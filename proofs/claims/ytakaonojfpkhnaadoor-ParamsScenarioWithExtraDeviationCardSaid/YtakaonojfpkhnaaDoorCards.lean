/-
  DERIVED. GIVEN WITH THE SEED: THE CARDS: each row of YtakaonojfpkhnaaDoorRows.lean that lists a variable, with what it lists TIED to the program's text (the seventh form; the later family's looks); each row that meets fmt, with fmt's text TOLD by the authors' own Lean function (tested against real Go, not proved from fmt's source: count such statements apart). THE CARD IS WHAT COUNTS. Prove the row's statement (the work); the ties are given (YtakaonojfpkhnaaDoorTie.lean); close each card by the builder's one call (the guide's Derived/Test/ToyasCard.lean, 'card_holds'). Laid BY PROGRAM, IN A SANDBOX (cutbox-door.mjs). By AI agents, Wed Nov 11 2026. No macro, syntax, notation, axiom, sorry.
-/
import Derived.Test.YtakaonojfpkhnaaDoorRows
import GoSem.ClaimSeven
namespace Go.Proofs.YtakaonojfpkhnaaDoor
namespace Rows

/-- THE TIED CARD OF 'privitylaw12.ParamsValidMatchesReference'. -/
def paramsValidMatchesReferenceCard : Claim7 := { stood := { row := paramsValidMatchesReferenceRow, standIns := [], harness := (true, "e89e54b610bb618419dd9e432a54789086f81ccddccae2ed0cfdda57de810b85"), looks := false }, kinds := [], alts := [], laidByText := true, laidKinds := [.data], laidTests := true, laidLooks := .later }
def ParamsValidMatchesReferenceCardSaid : Prop := Claim7.holds Tryd.pinned (.plain (OpenSpec.ofChange paramsValidMatchesReferenceSpec)) paramsValidMatchesReferenceCard

/-- THE TIED CARD OF 'privitylaw12.ParamsValidScenarioMatchesReference'. -/
def paramsValidScenarioMatchesReferenceCard : Claim7 := { stood := { row := paramsValidScenarioMatchesReferenceRow, standIns := [], harness := (true, "e89e54b610bb618419dd9e432a54789086f81ccddccae2ed0cfdda57de810b85"), looks := false }, kinds := [], alts := [], laidByText := true, laidKinds := [.data], laidTests := true, laidLooks := .later }
def ParamsValidScenarioMatchesReferenceCardSaid : Prop := Claim7.holds Tryd.pinned (.plain (OpenSpec.ofChange paramsValidScenarioMatchesReferenceSpec)) paramsValidScenarioMatchesReferenceCard

/-- THE TIED CARD OF 'privitylaw12.ParamsPartitionParties'. -/
def paramsPartitionPartiesCard : Claim7 := { stood := { row := paramsPartitionPartiesRow, standIns := [], harness := (true, "e89e54b610bb618419dd9e432a54789086f81ccddccae2ed0cfdda57de810b85"), looks := false }, kinds := [], alts := [], laidByText := true, laidKinds := [.data], laidTests := true, laidLooks := .later }
def ParamsPartitionPartiesCardSaid : Prop := Claim7.holds Tryd.pinned (.plain (OpenSpec.ofChange paramsPartitionPartiesSpec)) paramsPartitionPartiesCard

/-- THE TIED CARD OF 'privitylaw12.ParamsVanishingPolynomialIdentifiesCoalition'. -/
def paramsVanishingPolynomialIdentifiesCoalitionCard : Claim7 := { stood := { row := paramsVanishingPolynomialIdentifiesCoalitionRow, standIns := [], harness := (true, "e89e54b610bb618419dd9e432a54789086f81ccddccae2ed0cfdda57de810b85"), looks := false }, kinds := [], alts := [], laidByText := true, laidKinds := [.data], laidTests := true, laidLooks := .later }
def ParamsVanishingPolynomialIdentifiesCoalitionCardSaid : Prop := Claim7.holds Tryd.pinned (.plain (OpenSpec.ofChange paramsVanishingPolynomialIdentifiesCoalitionSpec)) paramsVanishingPolynomialIdentifiesCoalitionCard

/-- THE TIED CARD OF 'privitylaw12.ParamsScenarioWithExtraDeviation'. -/
def paramsScenarioWithExtraDeviationCard : Claim7 := { stood := { row := paramsScenarioWithExtraDeviationRow, standIns := [], harness := (true, "e89e54b610bb618419dd9e432a54789086f81ccddccae2ed0cfdda57de810b85"), looks := false }, kinds := [], alts := [], laidByText := true, laidKinds := [.data], laidTests := true, laidLooks := .later }
def ParamsScenarioWithExtraDeviationCardSaid : Prop := Claim7.holds Tryd.pinned (.plain (OpenSpec.ofChange paramsScenarioWithExtraDeviationSpec)) paramsScenarioWithExtraDeviationCard

/-- THE TIED CARD OF 'privitylaw12.ParamsVanishingPolynomialRoots'. -/
def paramsVanishingPolynomialRootsCard : Claim7 := { stood := { row := paramsVanishingPolynomialRootsRow, standIns := [], harness := (true, "e89e54b610bb618419dd9e432a54789086f81ccddccae2ed0cfdda57de810b85"), looks := false }, kinds := [], alts := [], laidByText := true, laidKinds := [.data], laidTests := true, laidLooks := .later }
def ParamsVanishingPolynomialRootsCardSaid : Prop := Claim7.holds Tryd.pinned (.plain (OpenSpec.ofChange paramsVanishingPolynomialRootsSpec)) paramsVanishingPolynomialRootsCard

/-- THE SECOND FORM's CARD OF 'privitylaw12.ParamsValidMatchesReference'. -/
def paramsValidMatchesReferenceUptoCard : Claim7 := { stood := { row := paramsValidMatchesReferenceUptoRow, standIns := [], harness := (true, "e89e54b610bb618419dd9e432a54789086f81ccddccae2ed0cfdda57de810b85"), looks := false }, kinds := [], alts := [], laidByText := true, laidKinds := [.data], laidTests := true, laidLooks := .later }
def ParamsValidMatchesReferenceUptoCardSaid : Prop := Claim7.holds Tryd.pinned (.plain (OpenSpec.upto paramsValidMatchesReferenceSpec)) paramsValidMatchesReferenceUptoCard

/-- THE SECOND FORM's CARD OF 'privitylaw12.ParamsValidScenarioMatchesReference'. -/
def paramsValidScenarioMatchesReferenceUptoCard : Claim7 := { stood := { row := paramsValidScenarioMatchesReferenceUptoRow, standIns := [], harness := (true, "e89e54b610bb618419dd9e432a54789086f81ccddccae2ed0cfdda57de810b85"), looks := false }, kinds := [], alts := [], laidByText := true, laidKinds := [.data], laidTests := true, laidLooks := .later }
def ParamsValidScenarioMatchesReferenceUptoCardSaid : Prop := Claim7.holds Tryd.pinned (.plain (OpenSpec.upto paramsValidScenarioMatchesReferenceSpec)) paramsValidScenarioMatchesReferenceUptoCard

/-- THE SECOND FORM's CARD OF 'privitylaw12.ParamsPartitionParties'. -/
def paramsPartitionPartiesUptoCard : Claim7 := { stood := { row := paramsPartitionPartiesUptoRow, standIns := [], harness := (true, "e89e54b610bb618419dd9e432a54789086f81ccddccae2ed0cfdda57de810b85"), looks := false }, kinds := [], alts := [], laidByText := true, laidKinds := [.data], laidTests := true, laidLooks := .later }
def ParamsPartitionPartiesUptoCardSaid : Prop := Claim7.holds Tryd.pinned (.plain (OpenSpec.upto paramsPartitionPartiesSpec)) paramsPartitionPartiesUptoCard

/-- THE SECOND FORM's CARD OF 'privitylaw12.ParamsVanishingPolynomialIdentifiesCoalition'. -/
def paramsVanishingPolynomialIdentifiesCoalitionUptoCard : Claim7 := { stood := { row := paramsVanishingPolynomialIdentifiesCoalitionUptoRow, standIns := [], harness := (true, "e89e54b610bb618419dd9e432a54789086f81ccddccae2ed0cfdda57de810b85"), looks := false }, kinds := [], alts := [], laidByText := true, laidKinds := [.data], laidTests := true, laidLooks := .later }
def ParamsVanishingPolynomialIdentifiesCoalitionUptoCardSaid : Prop := Claim7.holds Tryd.pinned (.plain (OpenSpec.upto paramsVanishingPolynomialIdentifiesCoalitionSpec)) paramsVanishingPolynomialIdentifiesCoalitionUptoCard

/-- THE SECOND FORM's CARD OF 'privitylaw12.ParamsScenarioWithExtraDeviation'. -/
def paramsScenarioWithExtraDeviationUptoCard : Claim7 := { stood := { row := paramsScenarioWithExtraDeviationUptoRow, standIns := [], harness := (true, "e89e54b610bb618419dd9e432a54789086f81ccddccae2ed0cfdda57de810b85"), looks := false }, kinds := [], alts := [], laidByText := true, laidKinds := [.data], laidTests := true, laidLooks := .later }
def ParamsScenarioWithExtraDeviationUptoCardSaid : Prop := Claim7.holds Tryd.pinned (.plain (OpenSpec.upto paramsScenarioWithExtraDeviationSpec)) paramsScenarioWithExtraDeviationUptoCard

/-- THE SECOND FORM's CARD OF 'privitylaw12.ParamsVanishingPolynomialRoots'. -/
def paramsVanishingPolynomialRootsUptoCard : Claim7 := { stood := { row := paramsVanishingPolynomialRootsUptoRow, standIns := [], harness := (true, "e89e54b610bb618419dd9e432a54789086f81ccddccae2ed0cfdda57de810b85"), looks := false }, kinds := [], alts := [], laidByText := true, laidKinds := [.data], laidTests := true, laidLooks := .later }
def ParamsVanishingPolynomialRootsUptoCardSaid : Prop := Claim7.holds Tryd.pinned (.plain (OpenSpec.upto paramsVanishingPolynomialRootsSpec)) paramsVanishingPolynomialRootsUptoCard
end Rows
end Go.Proofs.YtakaonojfpkhnaaDoor
