/-
  NARROWER THAN 'FOR EVERY INPUT', by the rows' own cells (each row's printed sentence says how): ParamsValidMatchesReference: laid · ParamsValidScenarioMatchesReference: laid · ParamsPartitionParties: laid · ParamsVanishingPolynomialIdentifiesCoalition: laid · ParamsScenarioWithExtraDeviation: laid · ParamsVanishingPolynomialRoots: laid.
  DERIVED. THE GIVEN ROWS OF THIS SEAT. 6 by the template 'for every input the law returns true; each argument reads behind the call as it read before'; 0 by the template 'total and deterministic' (their statements: YtakaonojfpkhnaaDoorTotals.lean).
  GIVEN WITH THE SEED: the statements are not yours to turn. If you find one false, say at which input.
  Laid BY PROGRAM, IN A SANDBOX (cutbox-rows.mjs): the forced cells as the released guide's own fill.sh prints them over the translation 32fd90b5447f976e… (all of the seat's roots in one cut). By AI agents, Wed Nov 11 2026. No macro, syntax, notation, axiom, sorry.
-/
import Derived.Test.YtakaonojfpkhnaaDoorChecked
import GoSem.Claim
import GoSem.ClaimJoined
import GoSem.ClaimMapViews
import Derived.JoinedTies
import Derived.KernelRfl
namespace Go.Proofs.YtakaonojfpkhnaaDoor
/- THE CELL 'sum', in the pinned program and in every row, IS THE sha256 OF THE DUMP (.gsa) THAT YtakaonojfpkhnaaDoorProg.lean LOADS. Nothing in Lean hashes anything: it is a label: what it is worth is what the hold of that sum in a sandbox is worth. -/
noncomputable def Tryd.pinned : Pinned := { name := "ytakaonojfpkhnaadoor", sum := "32fd90b5447f976efbf38c03f3687c3da772cac863abe38fe5e777fa941760a7", checked := Tryd.checked }
namespace Rows
def none {H : Type} : Left H := { results := [], args := [] }

/- WHAT THE LISTED PACKAGE-LEVEL VARIABLES READ AS WHEN THE CALL BEGINS. Each datum BY PROGRAM (the guide's laid-datum.mjs) off the statement by which the dump's own 'gosem.cut.vars' lays the variable. In a bare row this is a premise. The card (YtakaonojfpkhnaaDoorCards.lean) ties it to the program's text. -/
def laid_privity_field_exps {H : Type} : DataW H := .agg [.lit (.int .i64 5), .lit (.int .i64 7), .lit (.int .i64 13), .lit (.int .i64 17), .lit (.int .i64 19), .lit (.int .i64 31), .lit (.int .i64 61)]

/-- 'privitylaw12.ParamsValidMatchesReference': WHATEVER THE INPUT: true; the input reads as it did. -/
def paramsValidMatchesReferenceSpec : ChangeSpec := { name := "paramsValidMatchesReference", fn := fun _ => fun
  | [d1, d2] => { results := [.lit (.bool true)], args := [d1, d2] }
  | _ => none }
def paramsValidMatchesReferenceRow : OpenClaim := { program := "ytakaonojfpkhnaadoor", sum := "32fd90b5447f976efbf38c03f3687c3da772cac863abe38fe5e777fa941760a7", func := "privity/privitylaw12.ParamsValidMatchesReference", spec := "paramsValidMatchesReference", inPlace := ["math/bits.Add64"], unfollowed := true, recurses := true, named := ["privity/field.exps"], apart := false, laid := [("privity/field.exps", laid_privity_field_exps)] }
def ParamsValidMatchesReferenceSaid : Prop := paramsValidMatchesReferenceRow.holds Tryd.pinned (OpenSpec.ofChange paramsValidMatchesReferenceSpec)

/-- ITS FALSE NEIGHBOUR: 'it returns false'. Refute it at one input. -/
def paramsValidMatchesReferenceWrong : ChangeSpec := { name := "paramsValidMatchesReference", fn := fun _ => fun
  | [d1, d2] => { results := [.lit (.bool false)], args := [d1, d2] }
  | _ => none }
def ParamsValidMatchesReferenceWrongFalsely : Prop := paramsValidMatchesReferenceRow.holds Tryd.pinned (OpenSpec.ofChange paramsValidMatchesReferenceWrong)

/-- 'privitylaw12.ParamsValidScenarioMatchesReference': WHATEVER THE INPUT: true; the input reads as it did. -/
def paramsValidScenarioMatchesReferenceSpec : ChangeSpec := { name := "paramsValidScenarioMatchesReference", fn := fun _ => fun
  | [d] => { results := [.lit (.bool true)], args := [d] }
  | _ => none }
def paramsValidScenarioMatchesReferenceRow : OpenClaim := { program := "ytakaonojfpkhnaadoor", sum := "32fd90b5447f976efbf38c03f3687c3da772cac863abe38fe5e777fa941760a7", func := "privity/privitylaw12.ParamsValidScenarioMatchesReference", spec := "paramsValidScenarioMatchesReference", inPlace := ["math/bits.Add64"], unfollowed := true, recurses := true, named := ["privity/field.exps"], apart := false, laid := [("privity/field.exps", laid_privity_field_exps)] }
def ParamsValidScenarioMatchesReferenceSaid : Prop := paramsValidScenarioMatchesReferenceRow.holds Tryd.pinned (OpenSpec.ofChange paramsValidScenarioMatchesReferenceSpec)

/-- ITS FALSE NEIGHBOUR: 'it returns false'. Refute it at one input. -/
def paramsValidScenarioMatchesReferenceWrong : ChangeSpec := { name := "paramsValidScenarioMatchesReference", fn := fun _ => fun
  | [d] => { results := [.lit (.bool false)], args := [d] }
  | _ => none }
def ParamsValidScenarioMatchesReferenceWrongFalsely : Prop := paramsValidScenarioMatchesReferenceRow.holds Tryd.pinned (OpenSpec.ofChange paramsValidScenarioMatchesReferenceWrong)

/-- 'privitylaw12.ParamsPartitionParties': WHATEVER THE INPUT: true; the input reads as it did. -/
def paramsPartitionPartiesSpec : ChangeSpec := { name := "paramsPartitionParties", fn := fun _ => fun
  | [d1, d2] => { results := [.lit (.bool true)], args := [d1, d2] }
  | _ => none }
def paramsPartitionPartiesRow : OpenClaim := { program := "ytakaonojfpkhnaadoor", sum := "32fd90b5447f976efbf38c03f3687c3da772cac863abe38fe5e777fa941760a7", func := "privity/privitylaw12.ParamsPartitionParties", spec := "paramsPartitionParties", inPlace := ["math/bits.Add64"], unfollowed := true, recurses := true, named := ["privity/field.exps"], apart := false, laid := [("privity/field.exps", laid_privity_field_exps)] }
def ParamsPartitionPartiesSaid : Prop := paramsPartitionPartiesRow.holds Tryd.pinned (OpenSpec.ofChange paramsPartitionPartiesSpec)

/-- ITS FALSE NEIGHBOUR: 'it returns false'. Refute it at one input. -/
def paramsPartitionPartiesWrong : ChangeSpec := { name := "paramsPartitionParties", fn := fun _ => fun
  | [d1, d2] => { results := [.lit (.bool false)], args := [d1, d2] }
  | _ => none }
def ParamsPartitionPartiesWrongFalsely : Prop := paramsPartitionPartiesRow.holds Tryd.pinned (OpenSpec.ofChange paramsPartitionPartiesWrong)

/-- 'privitylaw12.ParamsVanishingPolynomialIdentifiesCoalition': WHATEVER THE INPUT: true; the input reads as it did. -/
def paramsVanishingPolynomialIdentifiesCoalitionSpec : ChangeSpec := { name := "paramsVanishingPolynomialIdentifiesCoalition", fn := fun _ => fun
  | [d1, d2, d3] => { results := [.lit (.bool true)], args := [d1, d2, d3] }
  | _ => none }
def paramsVanishingPolynomialIdentifiesCoalitionRow : OpenClaim := { program := "ytakaonojfpkhnaadoor", sum := "32fd90b5447f976efbf38c03f3687c3da772cac863abe38fe5e777fa941760a7", func := "privity/privitylaw12.ParamsVanishingPolynomialIdentifiesCoalition", spec := "paramsVanishingPolynomialIdentifiesCoalition", inPlace := ["math/bits.Add64"], unfollowed := true, recurses := true, named := ["privity/field.exps"], apart := false, laid := [("privity/field.exps", laid_privity_field_exps)] }
def ParamsVanishingPolynomialIdentifiesCoalitionSaid : Prop := paramsVanishingPolynomialIdentifiesCoalitionRow.holds Tryd.pinned (OpenSpec.ofChange paramsVanishingPolynomialIdentifiesCoalitionSpec)

/-- ITS FALSE NEIGHBOUR: 'it returns false'. Refute it at one input. -/
def paramsVanishingPolynomialIdentifiesCoalitionWrong : ChangeSpec := { name := "paramsVanishingPolynomialIdentifiesCoalition", fn := fun _ => fun
  | [d1, d2, d3] => { results := [.lit (.bool false)], args := [d1, d2, d3] }
  | _ => none }
def ParamsVanishingPolynomialIdentifiesCoalitionWrongFalsely : Prop := paramsVanishingPolynomialIdentifiesCoalitionRow.holds Tryd.pinned (OpenSpec.ofChange paramsVanishingPolynomialIdentifiesCoalitionWrong)

/-- 'privitylaw12.ParamsScenarioWithExtraDeviation': WHATEVER THE INPUT: true; the input reads as it did. -/
def paramsScenarioWithExtraDeviationSpec : ChangeSpec := { name := "paramsScenarioWithExtraDeviation", fn := fun _ => fun
  | [d1, d2] => { results := [.lit (.bool true)], args := [d1, d2] }
  | _ => none }
def paramsScenarioWithExtraDeviationRow : OpenClaim := { program := "ytakaonojfpkhnaadoor", sum := "32fd90b5447f976efbf38c03f3687c3da772cac863abe38fe5e777fa941760a7", func := "privity/privitylaw12.ParamsScenarioWithExtraDeviation", spec := "paramsScenarioWithExtraDeviation", inPlace := ["math/bits.Add64"], unfollowed := true, recurses := true, named := ["privity/field.exps"], apart := false, laid := [("privity/field.exps", laid_privity_field_exps)] }
def ParamsScenarioWithExtraDeviationSaid : Prop := paramsScenarioWithExtraDeviationRow.holds Tryd.pinned (OpenSpec.ofChange paramsScenarioWithExtraDeviationSpec)

/-- ITS FALSE NEIGHBOUR: 'it returns false'. Refute it at one input. -/
def paramsScenarioWithExtraDeviationWrong : ChangeSpec := { name := "paramsScenarioWithExtraDeviation", fn := fun _ => fun
  | [d1, d2] => { results := [.lit (.bool false)], args := [d1, d2] }
  | _ => none }
def ParamsScenarioWithExtraDeviationWrongFalsely : Prop := paramsScenarioWithExtraDeviationRow.holds Tryd.pinned (OpenSpec.ofChange paramsScenarioWithExtraDeviationWrong)

/-- 'privitylaw12.ParamsVanishingPolynomialRoots': WHATEVER THE INPUT: true; the input reads as it did. -/
def paramsVanishingPolynomialRootsSpec : ChangeSpec := { name := "paramsVanishingPolynomialRoots", fn := fun _ => fun
  | [d1, d2] => { results := [.lit (.bool true)], args := [d1, d2] }
  | _ => none }
def paramsVanishingPolynomialRootsRow : OpenClaim := { program := "ytakaonojfpkhnaadoor", sum := "32fd90b5447f976efbf38c03f3687c3da772cac863abe38fe5e777fa941760a7", func := "privity/privitylaw12.ParamsVanishingPolynomialRoots", spec := "paramsVanishingPolynomialRoots", inPlace := ["math/bits.Add64"], unfollowed := true, recurses := true, named := ["privity/field.exps"], apart := false, laid := [("privity/field.exps", laid_privity_field_exps)] }
def ParamsVanishingPolynomialRootsSaid : Prop := paramsVanishingPolynomialRootsRow.holds Tryd.pinned (OpenSpec.ofChange paramsVanishingPolynomialRootsSpec)

/-- ITS FALSE NEIGHBOUR: 'it returns false'. Refute it at one input. -/
def paramsVanishingPolynomialRootsWrong : ChangeSpec := { name := "paramsVanishingPolynomialRoots", fn := fun _ => fun
  | [d1, d2] => { results := [.lit (.bool false)], args := [d1, d2] }
  | _ => none }
def ParamsVanishingPolynomialRootsWrongFalsely : Prop := paramsVanishingPolynomialRootsRow.holds Tryd.pinned (OpenSpec.ofChange paramsVanishingPolynomialRootsWrong)

/- THE SECOND FORM. 'bulk': how many values and letters a reading holds, each counted each time it is reached (what is shared counts as often as it is met; a slice's spare places count too). A statement '..UptoSaid' is the law's where the arguments, and the package variables that the reading takes, are together of bulk at most 1048576: NARROWER than '..Said'. Prove '..Said' where nothing that the law and all that it calls make is longer than what came in: it says more and counts as full. Else prove '..UptoSaid'. A law counts once. -/
mutual
def uptoBulk {H : Type} : DataW H → Nat
  | .lit (.string bytes) => bytes.length + 1
  | .lit _ => 1
  | .nil => 1
  | .ptr d => uptoBulk d + 1
  | .slice elems spare => uptoBulkAll elems + uptoBulkAll spare + 1
  | .agg parts => uptoBulkAll parts + 1
  | .iface _ d => uptoBulk d + 1
  | .map entries => uptoBulkEntries entries + 1
  | .held _ => 1
def uptoBulkAll {H : Type} : List (DataW H) → Nat
  | [] => 0
  | d :: r => uptoBulk d + uptoBulkAll r
def uptoBulkEntries {H : Type} : List (Lit × DataW H) → Nat
  | [] => 0
  | x :: r => uptoBulkEntry x + uptoBulkEntries r
def uptoBulkEntry {H : Type} : Lit × DataW H → Nat
  | (.string bytes, d) => bytes.length + uptoBulk d + 1
  | (_, d) => uptoBulk d + 1
 end
def uptoSmall : (H : Type) → List (DataW H) → Bool := fun _ ds => decide (uptoBulkAll ds ≤ 1048576)
def OpenSpec.upto (s : _root_.Go.ChangeSpec) : _root_.Go.OpenSpec := { _root_.Go.OpenSpec.ofChange s with cond := some uptoSmall }

/-- 'privitylaw12.ParamsValidMatchesReference', WHERE WHAT IT READS IS OF BULK AT MOST 1048576: true; the input reads as it did. -/
def paramsValidMatchesReferenceUptoRow : OpenClaim := { program := "ytakaonojfpkhnaadoor", sum := "32fd90b5447f976efbf38c03f3687c3da772cac863abe38fe5e777fa941760a7", func := "privity/privitylaw12.ParamsValidMatchesReference", spec := "paramsValidMatchesReference", inPlace := ["math/bits.Add64"], unfollowed := true, recurses := true, named := ["privity/field.exps"], apart := false, laid := [("privity/field.exps", laid_privity_field_exps)], narrowed := true }
def ParamsValidMatchesReferenceUptoSaid : Prop := paramsValidMatchesReferenceUptoRow.holds Tryd.pinned (OpenSpec.upto paramsValidMatchesReferenceSpec)

/-- 'privitylaw12.ParamsValidScenarioMatchesReference', WHERE WHAT IT READS IS OF BULK AT MOST 1048576: true; the input reads as it did. -/
def paramsValidScenarioMatchesReferenceUptoRow : OpenClaim := { program := "ytakaonojfpkhnaadoor", sum := "32fd90b5447f976efbf38c03f3687c3da772cac863abe38fe5e777fa941760a7", func := "privity/privitylaw12.ParamsValidScenarioMatchesReference", spec := "paramsValidScenarioMatchesReference", inPlace := ["math/bits.Add64"], unfollowed := true, recurses := true, named := ["privity/field.exps"], apart := false, laid := [("privity/field.exps", laid_privity_field_exps)], narrowed := true }
def ParamsValidScenarioMatchesReferenceUptoSaid : Prop := paramsValidScenarioMatchesReferenceUptoRow.holds Tryd.pinned (OpenSpec.upto paramsValidScenarioMatchesReferenceSpec)

/-- 'privitylaw12.ParamsPartitionParties', WHERE WHAT IT READS IS OF BULK AT MOST 1048576: true; the input reads as it did. -/
def paramsPartitionPartiesUptoRow : OpenClaim := { program := "ytakaonojfpkhnaadoor", sum := "32fd90b5447f976efbf38c03f3687c3da772cac863abe38fe5e777fa941760a7", func := "privity/privitylaw12.ParamsPartitionParties", spec := "paramsPartitionParties", inPlace := ["math/bits.Add64"], unfollowed := true, recurses := true, named := ["privity/field.exps"], apart := false, laid := [("privity/field.exps", laid_privity_field_exps)], narrowed := true }
def ParamsPartitionPartiesUptoSaid : Prop := paramsPartitionPartiesUptoRow.holds Tryd.pinned (OpenSpec.upto paramsPartitionPartiesSpec)

/-- 'privitylaw12.ParamsVanishingPolynomialIdentifiesCoalition', WHERE WHAT IT READS IS OF BULK AT MOST 1048576: true; the input reads as it did. -/
def paramsVanishingPolynomialIdentifiesCoalitionUptoRow : OpenClaim := { program := "ytakaonojfpkhnaadoor", sum := "32fd90b5447f976efbf38c03f3687c3da772cac863abe38fe5e777fa941760a7", func := "privity/privitylaw12.ParamsVanishingPolynomialIdentifiesCoalition", spec := "paramsVanishingPolynomialIdentifiesCoalition", inPlace := ["math/bits.Add64"], unfollowed := true, recurses := true, named := ["privity/field.exps"], apart := false, laid := [("privity/field.exps", laid_privity_field_exps)], narrowed := true }
def ParamsVanishingPolynomialIdentifiesCoalitionUptoSaid : Prop := paramsVanishingPolynomialIdentifiesCoalitionUptoRow.holds Tryd.pinned (OpenSpec.upto paramsVanishingPolynomialIdentifiesCoalitionSpec)

/-- 'privitylaw12.ParamsScenarioWithExtraDeviation', WHERE WHAT IT READS IS OF BULK AT MOST 1048576: true; the input reads as it did. -/
def paramsScenarioWithExtraDeviationUptoRow : OpenClaim := { program := "ytakaonojfpkhnaadoor", sum := "32fd90b5447f976efbf38c03f3687c3da772cac863abe38fe5e777fa941760a7", func := "privity/privitylaw12.ParamsScenarioWithExtraDeviation", spec := "paramsScenarioWithExtraDeviation", inPlace := ["math/bits.Add64"], unfollowed := true, recurses := true, named := ["privity/field.exps"], apart := false, laid := [("privity/field.exps", laid_privity_field_exps)], narrowed := true }
def ParamsScenarioWithExtraDeviationUptoSaid : Prop := paramsScenarioWithExtraDeviationUptoRow.holds Tryd.pinned (OpenSpec.upto paramsScenarioWithExtraDeviationSpec)

/-- 'privitylaw12.ParamsVanishingPolynomialRoots', WHERE WHAT IT READS IS OF BULK AT MOST 1048576: true; the input reads as it did. -/
def paramsVanishingPolynomialRootsUptoRow : OpenClaim := { program := "ytakaonojfpkhnaadoor", sum := "32fd90b5447f976efbf38c03f3687c3da772cac863abe38fe5e777fa941760a7", func := "privity/privitylaw12.ParamsVanishingPolynomialRoots", spec := "paramsVanishingPolynomialRoots", inPlace := ["math/bits.Add64"], unfollowed := true, recurses := true, named := ["privity/field.exps"], apart := false, laid := [("privity/field.exps", laid_privity_field_exps)], narrowed := true }
def ParamsVanishingPolynomialRootsUptoSaid : Prop := paramsVanishingPolynomialRootsUptoRow.holds Tryd.pinned (OpenSpec.upto paramsVanishingPolynomialRootsSpec)

end Rows
end Go.Proofs.YtakaonojfpkhnaaDoor
