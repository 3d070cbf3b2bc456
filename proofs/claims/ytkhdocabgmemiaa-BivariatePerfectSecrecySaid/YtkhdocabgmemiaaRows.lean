/-
  No cell of these rows narrows 'for every input' (looked for: loops, veiled, ifaces, maps, wideKeys, modest, calm, conditions, laid).
  DERIVED. THE GIVEN ROWS OF THIS SEAT. 10 by the template 'for every input the law returns true; each argument reads behind the call as it read before'; 0 by the template 'total and deterministic' (their statements: YtkhdocabgmemiaaTotals.lean).
  GIVEN WITH THE SEED: the statements are not yours to turn. If you find one false, say at which input.
  Laid BY PROGRAM, IN A SANDBOX (cutbox-rows.mjs): the forced cells as the released guide's own fill.sh prints them over the translation 8e2c55f7007ffb44… (all of the seat's roots in one cut). By AI agents, Wed Nov 11 2026. No macro, syntax, notation, axiom, sorry.
-/
import Derived.Test.YtkhdocabgmemiaaChecked
import GoSem.Claim
import GoSem.ClaimJoined
import GoSem.ClaimMapViews
import Derived.JoinedTies
import Derived.KernelRfl
namespace Go.Proofs.Ytkhdocabgmemiaa
/- THE CELL 'sum', in the pinned program and in every row, IS THE sha256 OF THE DUMP (.gsa) THAT YtkhdocabgmemiaaProg.lean LOADS. Nothing in Lean hashes anything: it is a label: what it is worth is what the hold of that sum in a sandbox is worth. -/
noncomputable def Try.pinned : Pinned := { name := "ytkhdocabgmemiaa", sum := "8e2c55f7007ffb44d27a06c0402e453e7130d8accd8560d9482057181c922cdb", checked := Try.checked }
namespace Rows
def none {H : Type} : Left H := { results := [], args := [] }

/-- 'privitylaw10.BivariateNew': WHATEVER THE INPUT: true; the input reads as it did. -/
def bivariateNewSpec : ChangeSpec := { name := "bivariateNew", fn := fun _ => fun
  | [d1, d2] => { results := [.lit (.bool true)], args := [d1, d2] }
  | _ => none }
def bivariateNewRow : OpenClaim := { program := "ytkhdocabgmemiaa", sum := "8e2c55f7007ffb44d27a06c0402e453e7130d8accd8560d9482057181c922cdb", func := "privity/privitylaw10.BivariateNew", spec := "bivariateNew", inPlace := ["math/bits.Add64"], unfollowed := true, recurses := true, apart := false }
def BivariateNewSaid : Prop := bivariateNewRow.holds Try.pinned (OpenSpec.ofChange bivariateNewSpec)

/-- ITS FALSE NEIGHBOUR: 'it returns false'. Refute it at one input. -/
def bivariateNewWrong : ChangeSpec := { name := "bivariateNew", fn := fun _ => fun
  | [d1, d2] => { results := [.lit (.bool false)], args := [d1, d2] }
  | _ => none }
def BivariateNewWrongFalsely : Prop := bivariateNewRow.holds Try.pinned (OpenSpec.ofChange bivariateNewWrong)

/-- 'privitylaw10.BivariateIsSymmetric': WHATEVER THE INPUT: true; the input reads as it did. -/
def bivariateIsSymmetricSpec : ChangeSpec := { name := "bivariateIsSymmetric", fn := fun _ => fun
  | [d] => { results := [.lit (.bool true)], args := [d] }
  | _ => none }
def bivariateIsSymmetricRow : OpenClaim := { program := "ytkhdocabgmemiaa", sum := "8e2c55f7007ffb44d27a06c0402e453e7130d8accd8560d9482057181c922cdb", func := "privity/privitylaw10.BivariateIsSymmetric", spec := "bivariateIsSymmetric", inPlace := ["math/bits.Add64"], unfollowed := true, recurses := true, apart := false }
def BivariateIsSymmetricSaid : Prop := bivariateIsSymmetricRow.holds Try.pinned (OpenSpec.ofChange bivariateIsSymmetricSpec)

/-- ITS FALSE NEIGHBOUR: 'it returns false'. Refute it at one input. -/
def bivariateIsSymmetricWrong : ChangeSpec := { name := "bivariateIsSymmetric", fn := fun _ => fun
  | [d] => { results := [.lit (.bool false)], args := [d] }
  | _ => none }
def BivariateIsSymmetricWrongFalsely : Prop := bivariateIsSymmetricRow.holds Try.pinned (OpenSpec.ofChange bivariateIsSymmetricWrong)

/-- 'privitylaw10.BivariatePairwiseAgreement': WHATEVER THE INPUT: true; the input reads as it did. -/
def bivariatePairwiseAgreementSpec : ChangeSpec := { name := "bivariatePairwiseAgreement", fn := fun _ => fun
  | [d] => { results := [.lit (.bool true)], args := [d] }
  | _ => none }
def bivariatePairwiseAgreementRow : OpenClaim := { program := "ytkhdocabgmemiaa", sum := "8e2c55f7007ffb44d27a06c0402e453e7130d8accd8560d9482057181c922cdb", func := "privity/privitylaw10.BivariatePairwiseAgreement", spec := "bivariatePairwiseAgreement", inPlace := ["math/bits.Add64"], unfollowed := true, recurses := true, apart := false }
def BivariatePairwiseAgreementSaid : Prop := bivariatePairwiseAgreementRow.holds Try.pinned (OpenSpec.ofChange bivariatePairwiseAgreementSpec)

/-- ITS FALSE NEIGHBOUR: 'it returns false'. Refute it at one input. -/
def bivariatePairwiseAgreementWrong : ChangeSpec := { name := "bivariatePairwiseAgreement", fn := fun _ => fun
  | [d] => { results := [.lit (.bool false)], args := [d] }
  | _ => none }
def BivariatePairwiseAgreementWrongFalsely : Prop := bivariatePairwiseAgreementRow.holds Try.pinned (OpenSpec.ofChange bivariatePairwiseAgreementWrong)

/-- 'privitylaw10.BivariatePerfectSecrecy': WHATEVER THE INPUT: true; the input reads as it did. -/
def bivariatePerfectSecrecySpec : ChangeSpec := { name := "bivariatePerfectSecrecy", fn := fun _ => fun
  | [d] => { results := [.lit (.bool true)], args := [d] }
  | _ => none }
def bivariatePerfectSecrecyRow : OpenClaim := { program := "ytkhdocabgmemiaa", sum := "8e2c55f7007ffb44d27a06c0402e453e7130d8accd8560d9482057181c922cdb", func := "privity/privitylaw10.BivariatePerfectSecrecy", spec := "bivariatePerfectSecrecy", inPlace := ["math/bits.Add64"], unfollowed := true, recurses := true, apart := false }
def BivariatePerfectSecrecySaid : Prop := bivariatePerfectSecrecyRow.holds Try.pinned (OpenSpec.ofChange bivariatePerfectSecrecySpec)

/-- ITS FALSE NEIGHBOUR: 'it returns false'. Refute it at one input. -/
def bivariatePerfectSecrecyWrong : ChangeSpec := { name := "bivariatePerfectSecrecy", fn := fun _ => fun
  | [d] => { results := [.lit (.bool false)], args := [d] }
  | _ => none }
def BivariatePerfectSecrecyWrongFalsely : Prop := bivariatePerfectSecrecyRow.holds Try.pinned (OpenSpec.ofChange bivariatePerfectSecrecyWrong)

/-- 'privitylaw10.BivariateUniqueTranslation': WHATEVER THE INPUT: true; the input reads as it did. -/
def bivariateUniqueTranslationSpec : ChangeSpec := { name := "bivariateUniqueTranslation", fn := fun _ => fun
  | [d1, d2] => { results := [.lit (.bool true)], args := [d1, d2] }
  | _ => none }
def bivariateUniqueTranslationRow : OpenClaim := { program := "ytkhdocabgmemiaa", sum := "8e2c55f7007ffb44d27a06c0402e453e7130d8accd8560d9482057181c922cdb", func := "privity/privitylaw10.BivariateUniqueTranslation", spec := "bivariateUniqueTranslation", inPlace := ["math/bits.Add64"], unfollowed := true, recurses := true, apart := false }
def BivariateUniqueTranslationSaid : Prop := bivariateUniqueTranslationRow.holds Try.pinned (OpenSpec.ofChange bivariateUniqueTranslationSpec)

/-- ITS FALSE NEIGHBOUR: 'it returns false'. Refute it at one input. -/
def bivariateUniqueTranslationWrong : ChangeSpec := { name := "bivariateUniqueTranslation", fn := fun _ => fun
  | [d1, d2] => { results := [.lit (.bool false)], args := [d1, d2] }
  | _ => none }
def BivariateUniqueTranslationWrongFalsely : Prop := bivariateUniqueTranslationRow.holds Try.pinned (OpenSpec.ofChange bivariateUniqueTranslationWrong)

/-- 'privitylaw10.BivariateReconstruction': WHATEVER THE INPUT: true; the input reads as it did. -/
def bivariateReconstructionSpec : ChangeSpec := { name := "bivariateReconstruction", fn := fun _ => fun
  | [d1, d2] => { results := [.lit (.bool true)], args := [d1, d2] }
  | _ => none }
def bivariateReconstructionRow : OpenClaim := { program := "ytkhdocabgmemiaa", sum := "8e2c55f7007ffb44d27a06c0402e453e7130d8accd8560d9482057181c922cdb", func := "privity/privitylaw10.BivariateReconstruction", spec := "bivariateReconstruction", inPlace := ["math/bits.Add64"], unfollowed := true, recurses := true, apart := false }
def BivariateReconstructionSaid : Prop := bivariateReconstructionRow.holds Try.pinned (OpenSpec.ofChange bivariateReconstructionSpec)

/-- ITS FALSE NEIGHBOUR: 'it returns false'. Refute it at one input. -/
def bivariateReconstructionWrong : ChangeSpec := { name := "bivariateReconstruction", fn := fun _ => fun
  | [d1, d2] => { results := [.lit (.bool false)], args := [d1, d2] }
  | _ => none }
def BivariateReconstructionWrongFalsely : Prop := bivariateReconstructionRow.holds Try.pinned (OpenSpec.ofChange bivariateReconstructionWrong)

/-- 'privitylaw10.BivariateSharesAndSums': WHATEVER THE INPUT: true; the input reads as it did. -/
def bivariateSharesAndSumsSpec : ChangeSpec := { name := "bivariateSharesAndSums", fn := fun _ => fun
  | [d1, d2] => { results := [.lit (.bool true)], args := [d1, d2] }
  | _ => none }
def bivariateSharesAndSumsRow : OpenClaim := { program := "ytkhdocabgmemiaa", sum := "8e2c55f7007ffb44d27a06c0402e453e7130d8accd8560d9482057181c922cdb", func := "privity/privitylaw10.BivariateSharesAndSums", spec := "bivariateSharesAndSums", inPlace := ["math/bits.Add64"], unfollowed := true, recurses := true, apart := false }
def BivariateSharesAndSumsSaid : Prop := bivariateSharesAndSumsRow.holds Try.pinned (OpenSpec.ofChange bivariateSharesAndSumsSpec)

/-- ITS FALSE NEIGHBOUR: 'it returns false'. Refute it at one input. -/
def bivariateSharesAndSumsWrong : ChangeSpec := { name := "bivariateSharesAndSums", fn := fun _ => fun
  | [d1, d2] => { results := [.lit (.bool false)], args := [d1, d2] }
  | _ => none }
def BivariateSharesAndSumsWrongFalsely : Prop := bivariateSharesAndSumsRow.holds Try.pinned (OpenSpec.ofChange bivariateSharesAndSumsWrong)

/-- 'privitylaw43.TapeshiftSharingPrivacy': WHATEVER THE INPUT: true; the input reads as it did. -/
def tapeshiftSharingPrivacySpec : ChangeSpec := { name := "tapeshiftSharingPrivacy", fn := fun _ => fun
  | [d] => { results := [.lit (.bool true)], args := [d] }
  | _ => none }
def tapeshiftSharingPrivacyRow : OpenClaim := { program := "ytkhdocabgmemiaa", sum := "8e2c55f7007ffb44d27a06c0402e453e7130d8accd8560d9482057181c922cdb", func := "privity/privitylaw43.TapeshiftSharingPrivacy", spec := "tapeshiftSharingPrivacy", inPlace := ["math/bits.Add64"], unfollowed := true, recurses := true, apart := false }
def TapeshiftSharingPrivacySaid : Prop := tapeshiftSharingPrivacyRow.holds Try.pinned (OpenSpec.ofChange tapeshiftSharingPrivacySpec)

/-- ITS FALSE NEIGHBOUR: 'it returns false'. Refute it at one input. -/
def tapeshiftSharingPrivacyWrong : ChangeSpec := { name := "tapeshiftSharingPrivacy", fn := fun _ => fun
  | [d] => { results := [.lit (.bool false)], args := [d] }
  | _ => none }
def TapeshiftSharingPrivacyWrongFalsely : Prop := tapeshiftSharingPrivacyRow.holds Try.pinned (OpenSpec.ofChange tapeshiftSharingPrivacyWrong)

/-- 'privitylaw43.TapeshiftLinear': WHATEVER THE INPUT: true; the input reads as it did. -/
def tapeshiftLinearSpec : ChangeSpec := { name := "tapeshiftLinear", fn := fun _ => fun
  | [d] => { results := [.lit (.bool true)], args := [d] }
  | _ => none }
def tapeshiftLinearRow : OpenClaim := { program := "ytkhdocabgmemiaa", sum := "8e2c55f7007ffb44d27a06c0402e453e7130d8accd8560d9482057181c922cdb", func := "privity/privitylaw43.TapeshiftLinear", spec := "tapeshiftLinear", inPlace := ["math/bits.Add64"], unfollowed := true, recurses := true, apart := false }
def TapeshiftLinearSaid : Prop := tapeshiftLinearRow.holds Try.pinned (OpenSpec.ofChange tapeshiftLinearSpec)

/-- ITS FALSE NEIGHBOUR: 'it returns false'. Refute it at one input. -/
def tapeshiftLinearWrong : ChangeSpec := { name := "tapeshiftLinear", fn := fun _ => fun
  | [d] => { results := [.lit (.bool false)], args := [d] }
  | _ => none }
def TapeshiftLinearWrongFalsely : Prop := tapeshiftLinearRow.holds Try.pinned (OpenSpec.ofChange tapeshiftLinearWrong)

/-- 'privitylaw43.TapeshiftComplete': WHATEVER THE INPUT: true; the input reads as it did. -/
def tapeshiftCompleteSpec : ChangeSpec := { name := "tapeshiftComplete", fn := fun _ => fun
  | [d1, d2] => { results := [.lit (.bool true)], args := [d1, d2] }
  | _ => none }
def tapeshiftCompleteRow : OpenClaim := { program := "ytkhdocabgmemiaa", sum := "8e2c55f7007ffb44d27a06c0402e453e7130d8accd8560d9482057181c922cdb", func := "privity/privitylaw43.TapeshiftComplete", spec := "tapeshiftComplete", inPlace := ["math/bits.Add64"], unfollowed := true, recurses := true, apart := false }
def TapeshiftCompleteSaid : Prop := tapeshiftCompleteRow.holds Try.pinned (OpenSpec.ofChange tapeshiftCompleteSpec)

/-- ITS FALSE NEIGHBOUR: 'it returns false'. Refute it at one input. -/
def tapeshiftCompleteWrong : ChangeSpec := { name := "tapeshiftComplete", fn := fun _ => fun
  | [d1, d2] => { results := [.lit (.bool false)], args := [d1, d2] }
  | _ => none }
def TapeshiftCompleteWrongFalsely : Prop := tapeshiftCompleteRow.holds Try.pinned (OpenSpec.ofChange tapeshiftCompleteWrong)

/- THE SECOND FORM. 'bulk': how many values and letters a reading holds, each counted each time it is reached (what is shared counts as often as it is met; a slice's spare places count too). A statement '..UptoSaid' is the law's where the arguments, and the package variables that the reading takes, are together of bulk at most 1048576: NARROWER than '..Said'. Prove '..Said' where nothing that the law and all that it calls make is longer than what came in: it says more and counts as full. Else prove '..UptoSaid'. A law counts once. -/
mutual
def uptoBulk {H : Type} : DataW H → Nat
  | .lit (.string bytes) => bytes.length + 1
  | .lit _ => 1
  | .nil => 1
  | .ptr d => uptoBulk d + 1
  | .slice elems spare => uptoBulkAll elems + uptoBulkAll spare + 1
  | .agg parts => uptoBulkAll parts + 1
  | .iface _ d => uptoBulk d + 1
  | .map entries => uptoBulkEntries entries + 1
  | .held _ => 1
def uptoBulkAll {H : Type} : List (DataW H) → Nat
  | [] => 0
  | d :: r => uptoBulk d + uptoBulkAll r
def uptoBulkEntries {H : Type} : List (Lit × DataW H) → Nat
  | [] => 0
  | x :: r => uptoBulkEntry x + uptoBulkEntries r
def uptoBulkEntry {H : Type} : Lit × DataW H → Nat
  | (.string bytes, d) => bytes.length + uptoBulk d + 1
  | (_, d) => uptoBulk d + 1
 end
def uptoSmall : (H : Type) → List (DataW H) → Bool := fun _ ds => decide (uptoBulkAll ds ≤ 1048576)
def OpenSpec.upto (s : _root_.Go.ChangeSpec) : _root_.Go.OpenSpec := { _root_.Go.OpenSpec.ofChange s with cond := some uptoSmall }

/-- 'privitylaw10.BivariateNew', WHERE WHAT IT READS IS OF BULK AT MOST 1048576: true; the input reads as it did. -/
def bivariateNewUptoRow : OpenClaim := { program := "ytkhdocabgmemiaa", sum := "8e2c55f7007ffb44d27a06c0402e453e7130d8accd8560d9482057181c922cdb", func := "privity/privitylaw10.BivariateNew", spec := "bivariateNew", inPlace := ["math/bits.Add64"], unfollowed := true, recurses := true, apart := false, narrowed := true }
def BivariateNewUptoSaid : Prop := bivariateNewUptoRow.holds Try.pinned (OpenSpec.upto bivariateNewSpec)

/-- 'privitylaw10.BivariateIsSymmetric', WHERE WHAT IT READS IS OF BULK AT MOST 1048576: true; the input reads as it did. -/
def bivariateIsSymmetricUptoRow : OpenClaim := { program := "ytkhdocabgmemiaa", sum := "8e2c55f7007ffb44d27a06c0402e453e7130d8accd8560d9482057181c922cdb", func := "privity/privitylaw10.BivariateIsSymmetric", spec := "bivariateIsSymmetric", inPlace := ["math/bits.Add64"], unfollowed := true, recurses := true, apart := false, narrowed := true }
def BivariateIsSymmetricUptoSaid : Prop := bivariateIsSymmetricUptoRow.holds Try.pinned (OpenSpec.upto bivariateIsSymmetricSpec)

/-- 'privitylaw10.BivariatePairwiseAgreement', WHERE WHAT IT READS IS OF BULK AT MOST 1048576: true; the input reads as it did. -/
def bivariatePairwiseAgreementUptoRow : OpenClaim := { program := "ytkhdocabgmemiaa", sum := "8e2c55f7007ffb44d27a06c0402e453e7130d8accd8560d9482057181c922cdb", func := "privity/privitylaw10.BivariatePairwiseAgreement", spec := "bivariatePairwiseAgreement", inPlace := ["math/bits.Add64"], unfollowed := true, recurses := true, apart := false, narrowed := true }
def BivariatePairwiseAgreementUptoSaid : Prop := bivariatePairwiseAgreementUptoRow.holds Try.pinned (OpenSpec.upto bivariatePairwiseAgreementSpec)

/-- 'privitylaw10.BivariatePerfectSecrecy', WHERE WHAT IT READS IS OF BULK AT MOST 1048576: true; the input reads as it did. -/
def bivariatePerfectSecrecyUptoRow : OpenClaim := { program := "ytkhdocabgmemiaa", sum := "8e2c55f7007ffb44d27a06c0402e453e7130d8accd8560d9482057181c922cdb", func := "privity/privitylaw10.BivariatePerfectSecrecy", spec := "bivariatePerfectSecrecy", inPlace := ["math/bits.Add64"], unfollowed := true, recurses := true, apart := false, narrowed := true }
def BivariatePerfectSecrecyUptoSaid : Prop := bivariatePerfectSecrecyUptoRow.holds Try.pinned (OpenSpec.upto bivariatePerfectSecrecySpec)

/-- 'privitylaw10.BivariateUniqueTranslation', WHERE WHAT IT READS IS OF BULK AT MOST 1048576: true; the input reads as it did. -/
def bivariateUniqueTranslationUptoRow : OpenClaim := { program := "ytkhdocabgmemiaa", sum := "8e2c55f7007ffb44d27a06c0402e453e7130d8accd8560d9482057181c922cdb", func := "privity/privitylaw10.BivariateUniqueTranslation", spec := "bivariateUniqueTranslation", inPlace := ["math/bits.Add64"], unfollowed := true, recurses := true, apart := false, narrowed := true }
def BivariateUniqueTranslationUptoSaid : Prop := bivariateUniqueTranslationUptoRow.holds Try.pinned (OpenSpec.upto bivariateUniqueTranslationSpec)

/-- 'privitylaw10.BivariateReconstruction', WHERE WHAT IT READS IS OF BULK AT MOST 1048576: true; the input reads as it did. -/
def bivariateReconstructionUptoRow : OpenClaim := { program := "ytkhdocabgmemiaa", sum := "8e2c55f7007ffb44d27a06c0402e453e7130d8accd8560d9482057181c922cdb", func := "privity/privitylaw10.BivariateReconstruction", spec := "bivariateReconstruction", inPlace := ["math/bits.Add64"], unfollowed := true, recurses := true, apart := false, narrowed := true }
def BivariateReconstructionUptoSaid : Prop := bivariateReconstructionUptoRow.holds Try.pinned (OpenSpec.upto bivariateReconstructionSpec)

/-- 'privitylaw10.BivariateSharesAndSums', WHERE WHAT IT READS IS OF BULK AT MOST 1048576: true; the input reads as it did. -/
def bivariateSharesAndSumsUptoRow : OpenClaim := { program := "ytkhdocabgmemiaa", sum := "8e2c55f7007ffb44d27a06c0402e453e7130d8accd8560d9482057181c922cdb", func := "privity/privitylaw10.BivariateSharesAndSums", spec := "bivariateSharesAndSums", inPlace := ["math/bits.Add64"], unfollowed := true, recurses := true, apart := false, narrowed := true }
def BivariateSharesAndSumsUptoSaid : Prop := bivariateSharesAndSumsUptoRow.holds Try.pinned (OpenSpec.upto bivariateSharesAndSumsSpec)

/-- 'privitylaw43.TapeshiftSharingPrivacy', WHERE WHAT IT READS IS OF BULK AT MOST 1048576: true; the input reads as it did. -/
def tapeshiftSharingPrivacyUptoRow : OpenClaim := { program := "ytkhdocabgmemiaa", sum := "8e2c55f7007ffb44d27a06c0402e453e7130d8accd8560d9482057181c922cdb", func := "privity/privitylaw43.TapeshiftSharingPrivacy", spec := "tapeshiftSharingPrivacy", inPlace := ["math/bits.Add64"], unfollowed := true, recurses := true, apart := false, narrowed := true }
def TapeshiftSharingPrivacyUptoSaid : Prop := tapeshiftSharingPrivacyUptoRow.holds Try.pinned (OpenSpec.upto tapeshiftSharingPrivacySpec)

/-- 'privitylaw43.TapeshiftLinear', WHERE WHAT IT READS IS OF BULK AT MOST 1048576: true; the input reads as it did. -/
def tapeshiftLinearUptoRow : OpenClaim := { program := "ytkhdocabgmemiaa", sum := "8e2c55f7007ffb44d27a06c0402e453e7130d8accd8560d9482057181c922cdb", func := "privity/privitylaw43.TapeshiftLinear", spec := "tapeshiftLinear", inPlace := ["math/bits.Add64"], unfollowed := true, recurses := true, apart := false, narrowed := true }
def TapeshiftLinearUptoSaid : Prop := tapeshiftLinearUptoRow.holds Try.pinned (OpenSpec.upto tapeshiftLinearSpec)

/-- 'privitylaw43.TapeshiftComplete', WHERE WHAT IT READS IS OF BULK AT MOST 1048576: true; the input reads as it did. -/
def tapeshiftCompleteUptoRow : OpenClaim := { program := "ytkhdocabgmemiaa", sum := "8e2c55f7007ffb44d27a06c0402e453e7130d8accd8560d9482057181c922cdb", func := "privity/privitylaw43.TapeshiftComplete", spec := "tapeshiftComplete", inPlace := ["math/bits.Add64"], unfollowed := true, recurses := true, apart := false, narrowed := true }
def TapeshiftCompleteUptoSaid : Prop := tapeshiftCompleteUptoRow.holds Try.pinned (OpenSpec.upto tapeshiftCompleteSpec)

end Rows
end Go.Proofs.Ytkhdocabgmemiaa
