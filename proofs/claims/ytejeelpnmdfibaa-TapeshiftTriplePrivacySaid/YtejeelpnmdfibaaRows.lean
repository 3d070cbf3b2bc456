/-
  No cell of these rows narrows 'for every input' (looked for: loops, veiled, ifaces, maps, wideKeys, modest, calm, conditions, laid).
  DERIVED. THE GIVEN ROWS OF THIS SEAT. 9 by the template 'for every input the law returns true; each argument reads behind the call as it read before'; 0 by the template 'total and deterministic' (their statements: YtejeelpnmdfibaaTotals.lean).
  GIVEN WITH THE SEED: the statements are not yours to turn. If you find one false, say at which input.
  Laid BY PROGRAM, IN A SANDBOX (cutbox-rows.mjs): the forced cells as the released guide's own fill.sh prints them over the translation 05f3fd21200c96f5… (all of the seat's roots in one cut). By AI agents, Wed Nov 11 2026. No macro, syntax, notation, axiom, sorry.
-/
import Derived.Test.YtejeelpnmdfibaaChecked
import GoSem.Claim
import GoSem.ClaimJoined
import GoSem.ClaimMapViews
import Derived.JoinedTies
import Derived.KernelRfl
namespace Go.Proofs.Ytejeelpnmdfibaa
/- THE CELL 'sum', in the pinned program and in every row, IS THE sha256 OF THE DUMP (.gsa) THAT YtejeelpnmdfibaaProg.lean LOADS. Nothing in Lean hashes anything: it is a label: what it is worth is what the hold of that sum in a sandbox is worth. -/
noncomputable def Try.pinned : Pinned := { name := "ytejeelpnmdfibaa", sum := "05f3fd21200c96f566d4046524eae624bf79cc1feb410139bad19dd5fc0ff6b1", checked := Try.checked }
namespace Rows
def none {H : Type} : Left H := { results := [], args := [] }

/-- 'privitylaw43.TapeshiftSharingPrivacy': WHATEVER THE INPUT: true; the input reads as it did. -/
def tapeshiftSharingPrivacySpec : ChangeSpec := { name := "tapeshiftSharingPrivacy", fn := fun _ => fun
  | [d] => { results := [.lit (.bool true)], args := [d] }
  | _ => none }
def tapeshiftSharingPrivacyRow : OpenClaim := { program := "ytejeelpnmdfibaa", sum := "05f3fd21200c96f566d4046524eae624bf79cc1feb410139bad19dd5fc0ff6b1", func := "privity/privitylaw43.TapeshiftSharingPrivacy", spec := "tapeshiftSharingPrivacy", inPlace := ["math/bits.Add64"], unfollowed := true, recurses := true, apart := false }
def TapeshiftSharingPrivacySaid : Prop := tapeshiftSharingPrivacyRow.holds Try.pinned (OpenSpec.ofChange tapeshiftSharingPrivacySpec)

/-- ITS FALSE NEIGHBOUR: 'it returns false'. Refute it at one input. -/
def tapeshiftSharingPrivacyWrong : ChangeSpec := { name := "tapeshiftSharingPrivacy", fn := fun _ => fun
  | [d] => { results := [.lit (.bool false)], args := [d] }
  | _ => none }
def TapeshiftSharingPrivacyWrongFalsely : Prop := tapeshiftSharingPrivacyRow.holds Try.pinned (OpenSpec.ofChange tapeshiftSharingPrivacyWrong)

/-- 'privitylaw43.TapeshiftLinear': WHATEVER THE INPUT: true; the input reads as it did. -/
def tapeshiftLinearSpec : ChangeSpec := { name := "tapeshiftLinear", fn := fun _ => fun
  | [d] => { results := [.lit (.bool true)], args := [d] }
  | _ => none }
def tapeshiftLinearRow : OpenClaim := { program := "ytejeelpnmdfibaa", sum := "05f3fd21200c96f566d4046524eae624bf79cc1feb410139bad19dd5fc0ff6b1", func := "privity/privitylaw43.TapeshiftLinear", spec := "tapeshiftLinear", inPlace := ["math/bits.Add64"], unfollowed := true, recurses := true, apart := false }
def TapeshiftLinearSaid : Prop := tapeshiftLinearRow.holds Try.pinned (OpenSpec.ofChange tapeshiftLinearSpec)

/-- ITS FALSE NEIGHBOUR: 'it returns false'. Refute it at one input. -/
def tapeshiftLinearWrong : ChangeSpec := { name := "tapeshiftLinear", fn := fun _ => fun
  | [d] => { results := [.lit (.bool false)], args := [d] }
  | _ => none }
def TapeshiftLinearWrongFalsely : Prop := tapeshiftLinearRow.holds Try.pinned (OpenSpec.ofChange tapeshiftLinearWrong)

/-- 'privitylaw43.TapeshiftComplete': WHATEVER THE INPUT: true; the input reads as it did. -/
def tapeshiftCompleteSpec : ChangeSpec := { name := "tapeshiftComplete", fn := fun _ => fun
  | [d1, d2] => { results := [.lit (.bool true)], args := [d1, d2] }
  | _ => none }
def tapeshiftCompleteRow : OpenClaim := { program := "ytejeelpnmdfibaa", sum := "05f3fd21200c96f566d4046524eae624bf79cc1feb410139bad19dd5fc0ff6b1", func := "privity/privitylaw43.TapeshiftComplete", spec := "tapeshiftComplete", inPlace := ["math/bits.Add64"], unfollowed := true, recurses := true, apart := false }
def TapeshiftCompleteSaid : Prop := tapeshiftCompleteRow.holds Try.pinned (OpenSpec.ofChange tapeshiftCompleteSpec)

/-- ITS FALSE NEIGHBOUR: 'it returns false'. Refute it at one input. -/
def tapeshiftCompleteWrong : ChangeSpec := { name := "tapeshiftComplete", fn := fun _ => fun
  | [d1, d2] => { results := [.lit (.bool false)], args := [d1, d2] }
  | _ => none }
def TapeshiftCompleteWrongFalsely : Prop := tapeshiftCompleteRow.holds Try.pinned (OpenSpec.ofChange tapeshiftCompleteWrong)

/-- 'privitylaw43.TapeshiftShift': WHATEVER THE INPUT: true; the input reads as it did. -/
def tapeshiftShiftSpec : ChangeSpec := { name := "tapeshiftShift", fn := fun _ => fun
  | [d] => { results := [.lit (.bool true)], args := [d] }
  | _ => none }
def tapeshiftShiftRow : OpenClaim := { program := "ytejeelpnmdfibaa", sum := "05f3fd21200c96f566d4046524eae624bf79cc1feb410139bad19dd5fc0ff6b1", func := "privity/privitylaw43.TapeshiftShift", spec := "tapeshiftShift", inPlace := ["math/bits.Add64"], unfollowed := true, recurses := true, apart := false }
def TapeshiftShiftSaid : Prop := tapeshiftShiftRow.holds Try.pinned (OpenSpec.ofChange tapeshiftShiftSpec)

/-- ITS FALSE NEIGHBOUR: 'it returns false'. Refute it at one input. -/
def tapeshiftShiftWrong : ChangeSpec := { name := "tapeshiftShift", fn := fun _ => fun
  | [d] => { results := [.lit (.bool false)], args := [d] }
  | _ => none }
def TapeshiftShiftWrongFalsely : Prop := tapeshiftShiftRow.holds Try.pinned (OpenSpec.ofChange tapeshiftShiftWrong)

/-- 'privitylaw43.TapeshiftInverse': WHATEVER THE INPUT: true; the input reads as it did. -/
def tapeshiftInverseSpec : ChangeSpec := { name := "tapeshiftInverse", fn := fun _ => fun
  | [d] => { results := [.lit (.bool true)], args := [d] }
  | _ => none }
def tapeshiftInverseRow : OpenClaim := { program := "ytejeelpnmdfibaa", sum := "05f3fd21200c96f566d4046524eae624bf79cc1feb410139bad19dd5fc0ff6b1", func := "privity/privitylaw43.TapeshiftInverse", spec := "tapeshiftInverse", inPlace := ["math/bits.Add64"], unfollowed := true, recurses := true, apart := false }
def TapeshiftInverseSaid : Prop := tapeshiftInverseRow.holds Try.pinned (OpenSpec.ofChange tapeshiftInverseSpec)

/-- ITS FALSE NEIGHBOUR: 'it returns false'. Refute it at one input. -/
def tapeshiftInverseWrong : ChangeSpec := { name := "tapeshiftInverse", fn := fun _ => fun
  | [d] => { results := [.lit (.bool false)], args := [d] }
  | _ => none }
def TapeshiftInverseWrongFalsely : Prop := tapeshiftInverseRow.holds Try.pinned (OpenSpec.ofChange tapeshiftInverseWrong)

/-- 'privitylaw43.TapeshiftTriplePrivacy': WHATEVER THE INPUT: true; the input reads as it did. -/
def tapeshiftTriplePrivacySpec : ChangeSpec := { name := "tapeshiftTriplePrivacy", fn := fun _ => fun
  | [d] => { results := [.lit (.bool true)], args := [d] }
  | _ => none }
def tapeshiftTriplePrivacyRow : OpenClaim := { program := "ytejeelpnmdfibaa", sum := "05f3fd21200c96f566d4046524eae624bf79cc1feb410139bad19dd5fc0ff6b1", func := "privity/privitylaw43.TapeshiftTriplePrivacy", spec := "tapeshiftTriplePrivacy", inPlace := ["math/bits.Add64"], unfollowed := true, recurses := true, apart := false }
def TapeshiftTriplePrivacySaid : Prop := tapeshiftTriplePrivacyRow.holds Try.pinned (OpenSpec.ofChange tapeshiftTriplePrivacySpec)

/-- ITS FALSE NEIGHBOUR: 'it returns false'. Refute it at one input. -/
def tapeshiftTriplePrivacyWrong : ChangeSpec := { name := "tapeshiftTriplePrivacy", fn := fun _ => fun
  | [d] => { results := [.lit (.bool false)], args := [d] }
  | _ => none }
def TapeshiftTriplePrivacyWrongFalsely : Prop := tapeshiftTriplePrivacyRow.holds Try.pinned (OpenSpec.ofChange tapeshiftTriplePrivacyWrong)

/-- 'privitylaw43.TapeshiftIdentity': WHATEVER THE INPUT: true; the input reads as it did. -/
def tapeshiftIdentitySpec : ChangeSpec := { name := "tapeshiftIdentity", fn := fun _ => fun
  | [d] => { results := [.lit (.bool true)], args := [d] }
  | _ => none }
def tapeshiftIdentityRow : OpenClaim := { program := "ytejeelpnmdfibaa", sum := "05f3fd21200c96f566d4046524eae624bf79cc1feb410139bad19dd5fc0ff6b1", func := "privity/privitylaw43.TapeshiftIdentity", spec := "tapeshiftIdentity", inPlace := ["math/bits.Add64"], unfollowed := true, recurses := true, apart := false }
def TapeshiftIdentitySaid : Prop := tapeshiftIdentityRow.holds Try.pinned (OpenSpec.ofChange tapeshiftIdentitySpec)

/-- ITS FALSE NEIGHBOUR: 'it returns false'. Refute it at one input. -/
def tapeshiftIdentityWrong : ChangeSpec := { name := "tapeshiftIdentity", fn := fun _ => fun
  | [d] => { results := [.lit (.bool false)], args := [d] }
  | _ => none }
def TapeshiftIdentityWrongFalsely : Prop := tapeshiftIdentityRow.holds Try.pinned (OpenSpec.ofChange tapeshiftIdentityWrong)

/-- 'privitylaw10.BivariateRowAndEval': WHATEVER THE INPUT: true; the input reads as it did. -/
def bivariateRowAndEvalSpec : ChangeSpec := { name := "bivariateRowAndEval", fn := fun _ => fun
  | [d1, d2, d3] => { results := [.lit (.bool true)], args := [d1, d2, d3] }
  | _ => none }
def bivariateRowAndEvalRow : OpenClaim := { program := "ytejeelpnmdfibaa", sum := "05f3fd21200c96f566d4046524eae624bf79cc1feb410139bad19dd5fc0ff6b1", func := "privity/privitylaw10.BivariateRowAndEval", spec := "bivariateRowAndEval", inPlace := ["math/bits.Add64"], unfollowed := true, recurses := true, apart := false }
def BivariateRowAndEvalSaid : Prop := bivariateRowAndEvalRow.holds Try.pinned (OpenSpec.ofChange bivariateRowAndEvalSpec)

/-- ITS FALSE NEIGHBOUR: 'it returns false'. Refute it at one input. -/
def bivariateRowAndEvalWrong : ChangeSpec := { name := "bivariateRowAndEval", fn := fun _ => fun
  | [d1, d2, d3] => { results := [.lit (.bool false)], args := [d1, d2, d3] }
  | _ => none }
def BivariateRowAndEvalWrongFalsely : Prop := bivariateRowAndEvalRow.holds Try.pinned (OpenSpec.ofChange bivariateRowAndEvalWrong)

/-- 'privitylaw10.BivariateRowsAgree': WHATEVER THE INPUT: true; the input reads as it did. -/
def bivariateRowsAgreeSpec : ChangeSpec := { name := "bivariateRowsAgree", fn := fun _ => fun
  | [d1, d2, d3] => { results := [.lit (.bool true)], args := [d1, d2, d3] }
  | _ => none }
def bivariateRowsAgreeRow : OpenClaim := { program := "ytejeelpnmdfibaa", sum := "05f3fd21200c96f566d4046524eae624bf79cc1feb410139bad19dd5fc0ff6b1", func := "privity/privitylaw10.BivariateRowsAgree", spec := "bivariateRowsAgree", inPlace := ["math/bits.Add64"], unfollowed := true, recurses := true, apart := false }
def BivariateRowsAgreeSaid : Prop := bivariateRowsAgreeRow.holds Try.pinned (OpenSpec.ofChange bivariateRowsAgreeSpec)

/-- ITS FALSE NEIGHBOUR: 'it returns false'. Refute it at one input. -/
def bivariateRowsAgreeWrong : ChangeSpec := { name := "bivariateRowsAgree", fn := fun _ => fun
  | [d1, d2, d3] => { results := [.lit (.bool false)], args := [d1, d2, d3] }
  | _ => none }
def BivariateRowsAgreeWrongFalsely : Prop := bivariateRowsAgreeRow.holds Try.pinned (OpenSpec.ofChange bivariateRowsAgreeWrong)

/- THE SECOND FORM. 'bulk': how many values and letters a reading holds, each counted each time it is reached (what is shared counts as often as it is met; a slice's spare places count too). A statement '..UptoSaid' is the law's where the arguments, and the package variables that the reading takes, are together of bulk at most 1048576: NARROWER than '..Said'. Prove '..Said' where nothing that the law and all that it calls make is longer than what came in: it says more and counts as full. Else prove '..UptoSaid'. A law counts once. -/
mutual
def uptoBulk {H : Type} : DataW H → Nat
  | .lit (.string bytes) => bytes.length + 1
  | .lit _ => 1
  | .nil => 1
  | .ptr d => uptoBulk d + 1
  | .slice elems spare => uptoBulkAll elems + uptoBulkAll spare + 1
  | .agg parts => uptoBulkAll parts + 1
  | .iface _ d => uptoBulk d + 1
  | .map entries => uptoBulkEntries entries + 1
  | .held _ => 1
def uptoBulkAll {H : Type} : List (DataW H) → Nat
  | [] => 0
  | d :: r => uptoBulk d + uptoBulkAll r
def uptoBulkEntries {H : Type} : List (Lit × DataW H) → Nat
  | [] => 0
  | x :: r => uptoBulkEntry x + uptoBulkEntries r
def uptoBulkEntry {H : Type} : Lit × DataW H → Nat
  | (.string bytes, d) => bytes.length + uptoBulk d + 1
  | (_, d) => uptoBulk d + 1
 end
def uptoSmall : (H : Type) → List (DataW H) → Bool := fun _ ds => decide (uptoBulkAll ds ≤ 1048576)
def OpenSpec.upto (s : _root_.Go.ChangeSpec) : _root_.Go.OpenSpec := { _root_.Go.OpenSpec.ofChange s with cond := some uptoSmall }

/-- 'privitylaw43.TapeshiftSharingPrivacy', WHERE WHAT IT READS IS OF BULK AT MOST 1048576: true; the input reads as it did. -/
def tapeshiftSharingPrivacyUptoRow : OpenClaim := { program := "ytejeelpnmdfibaa", sum := "05f3fd21200c96f566d4046524eae624bf79cc1feb410139bad19dd5fc0ff6b1", func := "privity/privitylaw43.TapeshiftSharingPrivacy", spec := "tapeshiftSharingPrivacy", inPlace := ["math/bits.Add64"], unfollowed := true, recurses := true, apart := false, narrowed := true }
def TapeshiftSharingPrivacyUptoSaid : Prop := tapeshiftSharingPrivacyUptoRow.holds Try.pinned (OpenSpec.upto tapeshiftSharingPrivacySpec)

/-- 'privitylaw43.TapeshiftLinear', WHERE WHAT IT READS IS OF BULK AT MOST 1048576: true; the input reads as it did. -/
def tapeshiftLinearUptoRow : OpenClaim := { program := "ytejeelpnmdfibaa", sum := "05f3fd21200c96f566d4046524eae624bf79cc1feb410139bad19dd5fc0ff6b1", func := "privity/privitylaw43.TapeshiftLinear", spec := "tapeshiftLinear", inPlace := ["math/bits.Add64"], unfollowed := true, recurses := true, apart := false, narrowed := true }
def TapeshiftLinearUptoSaid : Prop := tapeshiftLinearUptoRow.holds Try.pinned (OpenSpec.upto tapeshiftLinearSpec)

/-- 'privitylaw43.TapeshiftComplete', WHERE WHAT IT READS IS OF BULK AT MOST 1048576: true; the input reads as it did. -/
def tapeshiftCompleteUptoRow : OpenClaim := { program := "ytejeelpnmdfibaa", sum := "05f3fd21200c96f566d4046524eae624bf79cc1feb410139bad19dd5fc0ff6b1", func := "privity/privitylaw43.TapeshiftComplete", spec := "tapeshiftComplete", inPlace := ["math/bits.Add64"], unfollowed := true, recurses := true, apart := false, narrowed := true }
def TapeshiftCompleteUptoSaid : Prop := tapeshiftCompleteUptoRow.holds Try.pinned (OpenSpec.upto tapeshiftCompleteSpec)

/-- 'privitylaw43.TapeshiftShift', WHERE WHAT IT READS IS OF BULK AT MOST 1048576: true; the input reads as it did. -/
def tapeshiftShiftUptoRow : OpenClaim := { program := "ytejeelpnmdfibaa", sum := "05f3fd21200c96f566d4046524eae624bf79cc1feb410139bad19dd5fc0ff6b1", func := "privity/privitylaw43.TapeshiftShift", spec := "tapeshiftShift", inPlace := ["math/bits.Add64"], unfollowed := true, recurses := true, apart := false, narrowed := true }
def TapeshiftShiftUptoSaid : Prop := tapeshiftShiftUptoRow.holds Try.pinned (OpenSpec.upto tapeshiftShiftSpec)

/-- 'privitylaw43.TapeshiftInverse', WHERE WHAT IT READS IS OF BULK AT MOST 1048576: true; the input reads as it did. -/
def tapeshiftInverseUptoRow : OpenClaim := { program := "ytejeelpnmdfibaa", sum := "05f3fd21200c96f566d4046524eae624bf79cc1feb410139bad19dd5fc0ff6b1", func := "privity/privitylaw43.TapeshiftInverse", spec := "tapeshiftInverse", inPlace := ["math/bits.Add64"], unfollowed := true, recurses := true, apart := false, narrowed := true }
def TapeshiftInverseUptoSaid : Prop := tapeshiftInverseUptoRow.holds Try.pinned (OpenSpec.upto tapeshiftInverseSpec)

/-- 'privitylaw43.TapeshiftTriplePrivacy', WHERE WHAT IT READS IS OF BULK AT MOST 1048576: true; the input reads as it did. -/
def tapeshiftTriplePrivacyUptoRow : OpenClaim := { program := "ytejeelpnmdfibaa", sum := "05f3fd21200c96f566d4046524eae624bf79cc1feb410139bad19dd5fc0ff6b1", func := "privity/privitylaw43.TapeshiftTriplePrivacy", spec := "tapeshiftTriplePrivacy", inPlace := ["math/bits.Add64"], unfollowed := true, recurses := true, apart := false, narrowed := true }
def TapeshiftTriplePrivacyUptoSaid : Prop := tapeshiftTriplePrivacyUptoRow.holds Try.pinned (OpenSpec.upto tapeshiftTriplePrivacySpec)

/-- 'privitylaw43.TapeshiftIdentity', WHERE WHAT IT READS IS OF BULK AT MOST 1048576: true; the input reads as it did. -/
def tapeshiftIdentityUptoRow : OpenClaim := { program := "ytejeelpnmdfibaa", sum := "05f3fd21200c96f566d4046524eae624bf79cc1feb410139bad19dd5fc0ff6b1", func := "privity/privitylaw43.TapeshiftIdentity", spec := "tapeshiftIdentity", inPlace := ["math/bits.Add64"], unfollowed := true, recurses := true, apart := false, narrowed := true }
def TapeshiftIdentityUptoSaid : Prop := tapeshiftIdentityUptoRow.holds Try.pinned (OpenSpec.upto tapeshiftIdentitySpec)

/-- 'privitylaw10.BivariateRowAndEval', WHERE WHAT IT READS IS OF BULK AT MOST 1048576: true; the input reads as it did. -/
def bivariateRowAndEvalUptoRow : OpenClaim := { program := "ytejeelpnmdfibaa", sum := "05f3fd21200c96f566d4046524eae624bf79cc1feb410139bad19dd5fc0ff6b1", func := "privity/privitylaw10.BivariateRowAndEval", spec := "bivariateRowAndEval", inPlace := ["math/bits.Add64"], unfollowed := true, recurses := true, apart := false, narrowed := true }
def BivariateRowAndEvalUptoSaid : Prop := bivariateRowAndEvalUptoRow.holds Try.pinned (OpenSpec.upto bivariateRowAndEvalSpec)

/-- 'privitylaw10.BivariateRowsAgree', WHERE WHAT IT READS IS OF BULK AT MOST 1048576: true; the input reads as it did. -/
def bivariateRowsAgreeUptoRow : OpenClaim := { program := "ytejeelpnmdfibaa", sum := "05f3fd21200c96f566d4046524eae624bf79cc1feb410139bad19dd5fc0ff6b1", func := "privity/privitylaw10.BivariateRowsAgree", spec := "bivariateRowsAgree", inPlace := ["math/bits.Add64"], unfollowed := true, recurses := true, apart := false, narrowed := true }
def BivariateRowsAgreeUptoSaid : Prop := bivariateRowsAgreeUptoRow.holds Try.pinned (OpenSpec.upto bivariateRowsAgreeSpec)

end Rows
end Go.Proofs.Ytejeelpnmdfibaa
