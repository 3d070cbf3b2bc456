/-
  No cell of these rows narrows 'for every input' (looked for: loops, veiled, ifaces, maps, wideKeys, modest, calm, conditions, laid).
  DERIVED. THE GIVEN ROWS OF THIS SEAT. 9 by the template 'for every input the law returns true; each argument reads behind the call as it read before'; 0 by the template 'total and deterministic' (their statements: YtmdoaijkaaaglaaTotals.lean).
  GIVEN WITH THE SEED: the statements are not yours to turn. If you find one false, say at which input.
  Laid BY PROGRAM, IN A SANDBOX (cutbox-rows.mjs): the forced cells as the released guide's own fill.sh prints them over the translation 27f38db5bd5c4e19… (all of the seat's roots in one cut). By AI agents, Wed Nov 11 2026. No macro, syntax, notation, axiom, sorry.
-/
import Derived.Test.YtmdoaijkaaaglaaChecked
import GoSem.Claim
import GoSem.ClaimJoined
import GoSem.ClaimMapViews
import Derived.JoinedTies
import Derived.KernelRfl
namespace Go.Proofs.Ytmdoaijkaaaglaa
/- THE CELL 'sum', in the pinned program and in every row, IS THE sha256 OF THE DUMP (.gsa) THAT YtmdoaijkaaaglaaProg.lean LOADS. Nothing in Lean hashes anything: it is a label: what it is worth is what the hold of that sum in a sandbox is worth. -/
noncomputable def Try.pinned : Pinned := { name := "ytmdoaijkaaaglaa", sum := "27f38db5bd5c4e19fa92e685ea96852fefd80af0bb83308b3c7a661729b1ad60", checked := Try.checked }
namespace Rows
def none {H : Type} : Left H := { results := [], args := [] }

/-- 'privitylaw07.HyperinvertibleNewMatchesReference': WHATEVER THE INPUT: true; the input reads as it did. -/
def hyperinvertibleNewMatchesReferenceSpec : ChangeSpec := { name := "hyperinvertibleNewMatchesReference", fn := fun _ => fun
  | [d1, d2, d3] => { results := [.lit (.bool true)], args := [d1, d2, d3] }
  | _ => none }
def hyperinvertibleNewMatchesReferenceRow : OpenClaim := { program := "ytmdoaijkaaaglaa", sum := "27f38db5bd5c4e19fa92e685ea96852fefd80af0bb83308b3c7a661729b1ad60", func := "privity/privitylaw07.HyperinvertibleNewMatchesReference", spec := "hyperinvertibleNewMatchesReference", inPlace := ["math/bits.Add64"], unfollowed := true, recurses := true, apart := false }
def HyperinvertibleNewMatchesReferenceSaid : Prop := hyperinvertibleNewMatchesReferenceRow.holds Try.pinned (OpenSpec.ofChange hyperinvertibleNewMatchesReferenceSpec)

/-- ITS FALSE NEIGHBOUR: 'it returns false'. Refute it at one input. -/
def hyperinvertibleNewMatchesReferenceWrong : ChangeSpec := { name := "hyperinvertibleNewMatchesReference", fn := fun _ => fun
  | [d1, d2, d3] => { results := [.lit (.bool false)], args := [d1, d2, d3] }
  | _ => none }
def HyperinvertibleNewMatchesReferenceWrongFalsely : Prop := hyperinvertibleNewMatchesReferenceRow.holds Try.pinned (OpenSpec.ofChange hyperinvertibleNewMatchesReferenceWrong)

/-- 'privitylaw07.HyperinvertibleSubmatrixMatchesReference': WHATEVER THE INPUT: true; the input reads as it did. -/
def hyperinvertibleSubmatrixMatchesReferenceSpec : ChangeSpec := { name := "hyperinvertibleSubmatrixMatchesReference", fn := fun _ => fun
  | [d1, d2, d3] => { results := [.lit (.bool true)], args := [d1, d2, d3] }
  | _ => none }
def hyperinvertibleSubmatrixMatchesReferenceRow : OpenClaim := { program := "ytmdoaijkaaaglaa", sum := "27f38db5bd5c4e19fa92e685ea96852fefd80af0bb83308b3c7a661729b1ad60", func := "privity/privitylaw07.HyperinvertibleSubmatrixMatchesReference", spec := "hyperinvertibleSubmatrixMatchesReference", inPlace := ["math/bits.Add64"], unfollowed := true, recurses := true, apart := false }
def HyperinvertibleSubmatrixMatchesReferenceSaid : Prop := hyperinvertibleSubmatrixMatchesReferenceRow.holds Try.pinned (OpenSpec.ofChange hyperinvertibleSubmatrixMatchesReferenceSpec)

/-- ITS FALSE NEIGHBOUR: 'it returns false'. Refute it at one input. -/
def hyperinvertibleSubmatrixMatchesReferenceWrong : ChangeSpec := { name := "hyperinvertibleSubmatrixMatchesReference", fn := fun _ => fun
  | [d1, d2, d3] => { results := [.lit (.bool false)], args := [d1, d2, d3] }
  | _ => none }
def HyperinvertibleSubmatrixMatchesReferenceWrongFalsely : Prop := hyperinvertibleSubmatrixMatchesReferenceRow.holds Try.pinned (OpenSpec.ofChange hyperinvertibleSubmatrixMatchesReferenceWrong)

/-- 'privitylaw07.HyperinvertibleCompleteMatchesReference': WHATEVER THE INPUT: true; the input reads as it did. -/
def hyperinvertibleCompleteMatchesReferenceSpec : ChangeSpec := { name := "hyperinvertibleCompleteMatchesReference", fn := fun _ => fun
  | [d] => { results := [.lit (.bool true)], args := [d] }
  | _ => none }
def hyperinvertibleCompleteMatchesReferenceRow : OpenClaim := { program := "ytmdoaijkaaaglaa", sum := "27f38db5bd5c4e19fa92e685ea96852fefd80af0bb83308b3c7a661729b1ad60", func := "privity/privitylaw07.HyperinvertibleCompleteMatchesReference", spec := "hyperinvertibleCompleteMatchesReference", inPlace := ["math/bits.Add64"], unfollowed := true, recurses := true, apart := false }
def HyperinvertibleCompleteMatchesReferenceSaid : Prop := hyperinvertibleCompleteMatchesReferenceRow.holds Try.pinned (OpenSpec.ofChange hyperinvertibleCompleteMatchesReferenceSpec)

/-- ITS FALSE NEIGHBOUR: 'it returns false'. Refute it at one input. -/
def hyperinvertibleCompleteMatchesReferenceWrong : ChangeSpec := { name := "hyperinvertibleCompleteMatchesReference", fn := fun _ => fun
  | [d] => { results := [.lit (.bool false)], args := [d] }
  | _ => none }
def HyperinvertibleCompleteMatchesReferenceWrongFalsely : Prop := hyperinvertibleCompleteMatchesReferenceRow.holds Try.pinned (OpenSpec.ofChange hyperinvertibleCompleteMatchesReferenceWrong)

/-- 'privitylaw07.HyperinvertibleNewExtrapolates': WHATEVER THE INPUT: true; the input reads as it did. -/
def hyperinvertibleNewExtrapolatesSpec : ChangeSpec := { name := "hyperinvertibleNewExtrapolates", fn := fun _ => fun
  | [d1, d2, d3] => { results := [.lit (.bool true)], args := [d1, d2, d3] }
  | _ => none }
def hyperinvertibleNewExtrapolatesRow : OpenClaim := { program := "ytmdoaijkaaaglaa", sum := "27f38db5bd5c4e19fa92e685ea96852fefd80af0bb83308b3c7a661729b1ad60", func := "privity/privitylaw07.HyperinvertibleNewExtrapolates", spec := "hyperinvertibleNewExtrapolates", inPlace := ["math/bits.Add64"], unfollowed := true, recurses := true, apart := false }
def HyperinvertibleNewExtrapolatesSaid : Prop := hyperinvertibleNewExtrapolatesRow.holds Try.pinned (OpenSpec.ofChange hyperinvertibleNewExtrapolatesSpec)

/-- ITS FALSE NEIGHBOUR: 'it returns false'. Refute it at one input. -/
def hyperinvertibleNewExtrapolatesWrong : ChangeSpec := { name := "hyperinvertibleNewExtrapolates", fn := fun _ => fun
  | [d1, d2, d3] => { results := [.lit (.bool false)], args := [d1, d2, d3] }
  | _ => none }
def HyperinvertibleNewExtrapolatesWrongFalsely : Prop := hyperinvertibleNewExtrapolatesRow.holds Try.pinned (OpenSpec.ofChange hyperinvertibleNewExtrapolatesWrong)

/-- 'privitylaw07.HyperinvertibleEverySquareSubmatrix': WHATEVER THE INPUT: true; the input reads as it did. -/
def hyperinvertibleEverySquareSubmatrixSpec : ChangeSpec := { name := "hyperinvertibleEverySquareSubmatrix", fn := fun _ => fun
  | [d] => { results := [.lit (.bool true)], args := [d] }
  | _ => none }
def hyperinvertibleEverySquareSubmatrixRow : OpenClaim := { program := "ytmdoaijkaaaglaa", sum := "27f38db5bd5c4e19fa92e685ea96852fefd80af0bb83308b3c7a661729b1ad60", func := "privity/privitylaw07.HyperinvertibleEverySquareSubmatrix", spec := "hyperinvertibleEverySquareSubmatrix", inPlace := ["math/bits.Add64"], unfollowed := true, recurses := true, apart := false }
def HyperinvertibleEverySquareSubmatrixSaid : Prop := hyperinvertibleEverySquareSubmatrixRow.holds Try.pinned (OpenSpec.ofChange hyperinvertibleEverySquareSubmatrixSpec)

/-- ITS FALSE NEIGHBOUR: 'it returns false'. Refute it at one input. -/
def hyperinvertibleEverySquareSubmatrixWrong : ChangeSpec := { name := "hyperinvertibleEverySquareSubmatrix", fn := fun _ => fun
  | [d] => { results := [.lit (.bool false)], args := [d] }
  | _ => none }
def HyperinvertibleEverySquareSubmatrixWrongFalsely : Prop := hyperinvertibleEverySquareSubmatrixRow.holds Try.pinned (OpenSpec.ofChange hyperinvertibleEverySquareSubmatrixWrong)

/-- 'privitylaw07.HyperinvertibleOutputsAreFree': WHATEVER THE INPUT: true; the input reads as it did. -/
def hyperinvertibleOutputsAreFreeSpec : ChangeSpec := { name := "hyperinvertibleOutputsAreFree", fn := fun _ => fun
  | [d1, d2, d3] => { results := [.lit (.bool true)], args := [d1, d2, d3] }
  | _ => none }
def hyperinvertibleOutputsAreFreeRow : OpenClaim := { program := "ytmdoaijkaaaglaa", sum := "27f38db5bd5c4e19fa92e685ea96852fefd80af0bb83308b3c7a661729b1ad60", func := "privity/privitylaw07.HyperinvertibleOutputsAreFree", spec := "hyperinvertibleOutputsAreFree", inPlace := ["math/bits.Add64"], unfollowed := true, recurses := true, apart := false }
def HyperinvertibleOutputsAreFreeSaid : Prop := hyperinvertibleOutputsAreFreeRow.holds Try.pinned (OpenSpec.ofChange hyperinvertibleOutputsAreFreeSpec)

/-- ITS FALSE NEIGHBOUR: 'it returns false'. Refute it at one input. -/
def hyperinvertibleOutputsAreFreeWrong : ChangeSpec := { name := "hyperinvertibleOutputsAreFree", fn := fun _ => fun
  | [d1, d2, d3] => { results := [.lit (.bool false)], args := [d1, d2, d3] }
  | _ => none }
def HyperinvertibleOutputsAreFreeWrongFalsely : Prop := hyperinvertibleOutputsAreFreeRow.holds Try.pinned (OpenSpec.ofChange hyperinvertibleOutputsAreFreeWrong)

/-- 'privitylaw07.HyperinvertibleMinimumDistance': WHATEVER THE INPUT: true; the input reads as it did. -/
def hyperinvertibleMinimumDistanceSpec : ChangeSpec := { name := "hyperinvertibleMinimumDistance", fn := fun _ => fun
  | [d1, d2, d3] => { results := [.lit (.bool true)], args := [d1, d2, d3] }
  | _ => none }
def hyperinvertibleMinimumDistanceRow : OpenClaim := { program := "ytmdoaijkaaaglaa", sum := "27f38db5bd5c4e19fa92e685ea96852fefd80af0bb83308b3c7a661729b1ad60", func := "privity/privitylaw07.HyperinvertibleMinimumDistance", spec := "hyperinvertibleMinimumDistance", inPlace := ["math/bits.Add64"], unfollowed := true, recurses := true, apart := false }
def HyperinvertibleMinimumDistanceSaid : Prop := hyperinvertibleMinimumDistanceRow.holds Try.pinned (OpenSpec.ofChange hyperinvertibleMinimumDistanceSpec)

/-- ITS FALSE NEIGHBOUR: 'it returns false'. Refute it at one input. -/
def hyperinvertibleMinimumDistanceWrong : ChangeSpec := { name := "hyperinvertibleMinimumDistance", fn := fun _ => fun
  | [d1, d2, d3] => { results := [.lit (.bool false)], args := [d1, d2, d3] }
  | _ => none }
def HyperinvertibleMinimumDistanceWrongFalsely : Prop := hyperinvertibleMinimumDistanceRow.holds Try.pinned (OpenSpec.ofChange hyperinvertibleMinimumDistanceWrong)

/-- 'privitylaw05.InterpolateWeightsSumToOne': WHATEVER THE INPUT: true; the input reads as it did. -/
def interpolateWeightsSumToOneSpec : ChangeSpec := { name := "interpolateWeightsSumToOne", fn := fun _ => fun
  | [d1, d2, d3] => { results := [.lit (.bool true)], args := [d1, d2, d3] }
  | _ => none }
def interpolateWeightsSumToOneRow : OpenClaim := { program := "ytmdoaijkaaaglaa", sum := "27f38db5bd5c4e19fa92e685ea96852fefd80af0bb83308b3c7a661729b1ad60", func := "privity/privitylaw05.InterpolateWeightsSumToOne", spec := "interpolateWeightsSumToOne", inPlace := ["math/bits.Add64"], unfollowed := true, recurses := true, apart := false }
def InterpolateWeightsSumToOneSaid : Prop := interpolateWeightsSumToOneRow.holds Try.pinned (OpenSpec.ofChange interpolateWeightsSumToOneSpec)

/-- ITS FALSE NEIGHBOUR: 'it returns false'. Refute it at one input. -/
def interpolateWeightsSumToOneWrong : ChangeSpec := { name := "interpolateWeightsSumToOne", fn := fun _ => fun
  | [d1, d2, d3] => { results := [.lit (.bool false)], args := [d1, d2, d3] }
  | _ => none }
def InterpolateWeightsSumToOneWrongFalsely : Prop := interpolateWeightsSumToOneRow.holds Try.pinned (OpenSpec.ofChange interpolateWeightsSumToOneWrong)

/-- 'privitylaw05.InterpolatePassesThroughPoints': WHATEVER THE INPUT: true; the input reads as it did. -/
def interpolatePassesThroughPointsSpec : ChangeSpec := { name := "interpolatePassesThroughPoints", fn := fun _ => fun
  | [d1, d2] => { results := [.lit (.bool true)], args := [d1, d2] }
  | _ => none }
def interpolatePassesThroughPointsRow : OpenClaim := { program := "ytmdoaijkaaaglaa", sum := "27f38db5bd5c4e19fa92e685ea96852fefd80af0bb83308b3c7a661729b1ad60", func := "privity/privitylaw05.InterpolatePassesThroughPoints", spec := "interpolatePassesThroughPoints", inPlace := ["math/bits.Add64"], unfollowed := true, recurses := true, apart := false }
def InterpolatePassesThroughPointsSaid : Prop := interpolatePassesThroughPointsRow.holds Try.pinned (OpenSpec.ofChange interpolatePassesThroughPointsSpec)

/-- ITS FALSE NEIGHBOUR: 'it returns false'. Refute it at one input. -/
def interpolatePassesThroughPointsWrong : ChangeSpec := { name := "interpolatePassesThroughPoints", fn := fun _ => fun
  | [d1, d2] => { results := [.lit (.bool false)], args := [d1, d2] }
  | _ => none }
def InterpolatePassesThroughPointsWrongFalsely : Prop := interpolatePassesThroughPointsRow.holds Try.pinned (OpenSpec.ofChange interpolatePassesThroughPointsWrong)

/- THE SECOND FORM. 'bulk': how many values and letters a reading holds, each counted each time it is reached (what is shared counts as often as it is met; a slice's spare places count too). A statement '..UptoSaid' is the law's where the arguments, and the package variables that the reading takes, are together of bulk at most 1048576: NARROWER than '..Said'. Prove '..Said' where nothing that the law and all that it calls make is longer than what came in: it says more and counts as full. Else prove '..UptoSaid'. A law counts once. -/
mutual
def uptoBulk {H : Type} : DataW H → Nat
  | .lit (.string bytes) => bytes.length + 1
  | .lit _ => 1
  | .nil => 1
  | .ptr d => uptoBulk d + 1
  | .slice elems spare => uptoBulkAll elems + uptoBulkAll spare + 1
  | .agg parts => uptoBulkAll parts + 1
  | .iface _ d => uptoBulk d + 1
  | .map entries => uptoBulkEntries entries + 1
  | .held _ => 1
def uptoBulkAll {H : Type} : List (DataW H) → Nat
  | [] => 0
  | d :: r => uptoBulk d + uptoBulkAll r
def uptoBulkEntries {H : Type} : List (Lit × DataW H) → Nat
  | [] => 0
  | x :: r => uptoBulkEntry x + uptoBulkEntries r
def uptoBulkEntry {H : Type} : Lit × DataW H → Nat
  | (.string bytes, d) => bytes.length + uptoBulk d + 1
  | (_, d) => uptoBulk d + 1
 end
def uptoSmall : (H : Type) → List (DataW H) → Bool := fun _ ds => decide (uptoBulkAll ds ≤ 1048576)
def OpenSpec.upto (s : _root_.Go.ChangeSpec) : _root_.Go.OpenSpec := { _root_.Go.OpenSpec.ofChange s with cond := some uptoSmall }

/-- 'privitylaw07.HyperinvertibleNewMatchesReference', WHERE WHAT IT READS IS OF BULK AT MOST 1048576: true; the input reads as it did. -/
def hyperinvertibleNewMatchesReferenceUptoRow : OpenClaim := { program := "ytmdoaijkaaaglaa", sum := "27f38db5bd5c4e19fa92e685ea96852fefd80af0bb83308b3c7a661729b1ad60", func := "privity/privitylaw07.HyperinvertibleNewMatchesReference", spec := "hyperinvertibleNewMatchesReference", inPlace := ["math/bits.Add64"], unfollowed := true, recurses := true, apart := false, narrowed := true }
def HyperinvertibleNewMatchesReferenceUptoSaid : Prop := hyperinvertibleNewMatchesReferenceUptoRow.holds Try.pinned (OpenSpec.upto hyperinvertibleNewMatchesReferenceSpec)

/-- 'privitylaw07.HyperinvertibleSubmatrixMatchesReference', WHERE WHAT IT READS IS OF BULK AT MOST 1048576: true; the input reads as it did. -/
def hyperinvertibleSubmatrixMatchesReferenceUptoRow : OpenClaim := { program := "ytmdoaijkaaaglaa", sum := "27f38db5bd5c4e19fa92e685ea96852fefd80af0bb83308b3c7a661729b1ad60", func := "privity/privitylaw07.HyperinvertibleSubmatrixMatchesReference", spec := "hyperinvertibleSubmatrixMatchesReference", inPlace := ["math/bits.Add64"], unfollowed := true, recurses := true, apart := false, narrowed := true }
def HyperinvertibleSubmatrixMatchesReferenceUptoSaid : Prop := hyperinvertibleSubmatrixMatchesReferenceUptoRow.holds Try.pinned (OpenSpec.upto hyperinvertibleSubmatrixMatchesReferenceSpec)

/-- 'privitylaw07.HyperinvertibleCompleteMatchesReference', WHERE WHAT IT READS IS OF BULK AT MOST 1048576: true; the input reads as it did. -/
def hyperinvertibleCompleteMatchesReferenceUptoRow : OpenClaim := { program := "ytmdoaijkaaaglaa", sum := "27f38db5bd5c4e19fa92e685ea96852fefd80af0bb83308b3c7a661729b1ad60", func := "privity/privitylaw07.HyperinvertibleCompleteMatchesReference", spec := "hyperinvertibleCompleteMatchesReference", inPlace := ["math/bits.Add64"], unfollowed := true, recurses := true, apart := false, narrowed := true }
def HyperinvertibleCompleteMatchesReferenceUptoSaid : Prop := hyperinvertibleCompleteMatchesReferenceUptoRow.holds Try.pinned (OpenSpec.upto hyperinvertibleCompleteMatchesReferenceSpec)

/-- 'privitylaw07.HyperinvertibleNewExtrapolates', WHERE WHAT IT READS IS OF BULK AT MOST 1048576: true; the input reads as it did. -/
def hyperinvertibleNewExtrapolatesUptoRow : OpenClaim := { program := "ytmdoaijkaaaglaa", sum := "27f38db5bd5c4e19fa92e685ea96852fefd80af0bb83308b3c7a661729b1ad60", func := "privity/privitylaw07.HyperinvertibleNewExtrapolates", spec := "hyperinvertibleNewExtrapolates", inPlace := ["math/bits.Add64"], unfollowed := true, recurses := true, apart := false, narrowed := true }
def HyperinvertibleNewExtrapolatesUptoSaid : Prop := hyperinvertibleNewExtrapolatesUptoRow.holds Try.pinned (OpenSpec.upto hyperinvertibleNewExtrapolatesSpec)

/-- 'privitylaw07.HyperinvertibleEverySquareSubmatrix', WHERE WHAT IT READS IS OF BULK AT MOST 1048576: true; the input reads as it did. -/
def hyperinvertibleEverySquareSubmatrixUptoRow : OpenClaim := { program := "ytmdoaijkaaaglaa", sum := "27f38db5bd5c4e19fa92e685ea96852fefd80af0bb83308b3c7a661729b1ad60", func := "privity/privitylaw07.HyperinvertibleEverySquareSubmatrix", spec := "hyperinvertibleEverySquareSubmatrix", inPlace := ["math/bits.Add64"], unfollowed := true, recurses := true, apart := false, narrowed := true }
def HyperinvertibleEverySquareSubmatrixUptoSaid : Prop := hyperinvertibleEverySquareSubmatrixUptoRow.holds Try.pinned (OpenSpec.upto hyperinvertibleEverySquareSubmatrixSpec)

/-- 'privitylaw07.HyperinvertibleOutputsAreFree', WHERE WHAT IT READS IS OF BULK AT MOST 1048576: true; the input reads as it did. -/
def hyperinvertibleOutputsAreFreeUptoRow : OpenClaim := { program := "ytmdoaijkaaaglaa", sum := "27f38db5bd5c4e19fa92e685ea96852fefd80af0bb83308b3c7a661729b1ad60", func := "privity/privitylaw07.HyperinvertibleOutputsAreFree", spec := "hyperinvertibleOutputsAreFree", inPlace := ["math/bits.Add64"], unfollowed := true, recurses := true, apart := false, narrowed := true }
def HyperinvertibleOutputsAreFreeUptoSaid : Prop := hyperinvertibleOutputsAreFreeUptoRow.holds Try.pinned (OpenSpec.upto hyperinvertibleOutputsAreFreeSpec)

/-- 'privitylaw07.HyperinvertibleMinimumDistance', WHERE WHAT IT READS IS OF BULK AT MOST 1048576: true; the input reads as it did. -/
def hyperinvertibleMinimumDistanceUptoRow : OpenClaim := { program := "ytmdoaijkaaaglaa", sum := "27f38db5bd5c4e19fa92e685ea96852fefd80af0bb83308b3c7a661729b1ad60", func := "privity/privitylaw07.HyperinvertibleMinimumDistance", spec := "hyperinvertibleMinimumDistance", inPlace := ["math/bits.Add64"], unfollowed := true, recurses := true, apart := false, narrowed := true }
def HyperinvertibleMinimumDistanceUptoSaid : Prop := hyperinvertibleMinimumDistanceUptoRow.holds Try.pinned (OpenSpec.upto hyperinvertibleMinimumDistanceSpec)

/-- 'privitylaw05.InterpolateWeightsSumToOne', WHERE WHAT IT READS IS OF BULK AT MOST 1048576: true; the input reads as it did. -/
def interpolateWeightsSumToOneUptoRow : OpenClaim := { program := "ytmdoaijkaaaglaa", sum := "27f38db5bd5c4e19fa92e685ea96852fefd80af0bb83308b3c7a661729b1ad60", func := "privity/privitylaw05.InterpolateWeightsSumToOne", spec := "interpolateWeightsSumToOne", inPlace := ["math/bits.Add64"], unfollowed := true, recurses := true, apart := false, narrowed := true }
def InterpolateWeightsSumToOneUptoSaid : Prop := interpolateWeightsSumToOneUptoRow.holds Try.pinned (OpenSpec.upto interpolateWeightsSumToOneSpec)

/-- 'privitylaw05.InterpolatePassesThroughPoints', WHERE WHAT IT READS IS OF BULK AT MOST 1048576: true; the input reads as it did. -/
def interpolatePassesThroughPointsUptoRow : OpenClaim := { program := "ytmdoaijkaaaglaa", sum := "27f38db5bd5c4e19fa92e685ea96852fefd80af0bb83308b3c7a661729b1ad60", func := "privity/privitylaw05.InterpolatePassesThroughPoints", spec := "interpolatePassesThroughPoints", inPlace := ["math/bits.Add64"], unfollowed := true, recurses := true, apart := false, narrowed := true }
def InterpolatePassesThroughPointsUptoSaid : Prop := interpolatePassesThroughPointsUptoRow.holds Try.pinned (OpenSpec.upto interpolatePassesThroughPointsSpec)

end Rows
end Go.Proofs.Ytmdoaijkaaaglaa
