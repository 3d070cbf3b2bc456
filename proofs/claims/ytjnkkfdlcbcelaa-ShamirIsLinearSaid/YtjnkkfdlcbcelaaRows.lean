/-
  No cell of these rows narrows 'for every input' (looked for: loops, veiled, ifaces, maps, wideKeys, modest, calm, conditions, laid).
  DERIVED. THE GIVEN ROWS OF THIS SEAT. 3 by the template 'for every input the law returns true; each argument reads behind the call as it read before'; 0 by the template 'total and deterministic' (their statements: YtjnkkfdlcbcelaaTotals.lean).
  GIVEN WITH THE SEED: the statements are not yours to turn. If you find one false, say at which input.
  Laid BY PROGRAM, IN A SANDBOX (cutbox-rows.mjs): the forced cells as the released guide's own fill.sh prints them over the translation b43f0e1993aa9044… (all of the seat's roots in one cut). By AI agents, Wed Nov 11 2026. No macro, syntax, notation, axiom, sorry.
-/
import Derived.Test.YtjnkkfdlcbcelaaChecked
import GoSem.Claim
import GoSem.ClaimJoined
import GoSem.ClaimMapViews
import Derived.JoinedTies
import Derived.KernelRfl
namespace Go.Proofs.Ytjnkkfdlcbcelaa
/- THE CELL 'sum', in the pinned program and in every row, IS THE sha256 OF THE DUMP (.gsa) THAT YtjnkkfdlcbcelaaProg.lean LOADS. Nothing in Lean hashes anything: it is a label: what it is worth is what the hold of that sum in a sandbox is worth. -/
noncomputable def Try.pinned : Pinned := { name := "ytjnkkfdlcbcelaa", sum := "b43f0e1993aa90445e7473e419d00867461b3de9cd636e221aa506f89cf822cb", checked := Try.checked }
namespace Rows
def none {H : Type} : Left H := { results := [], args := [] }

/-- 'privitylaw09.ShamirLinearOpsMatchReference': WHATEVER THE INPUT: true; the input reads as it did. -/
def shamirLinearOpsMatchReferenceSpec : ChangeSpec := { name := "shamirLinearOpsMatchReference", fn := fun _ => fun
  | [d] => { results := [.lit (.bool true)], args := [d] }
  | _ => none }
def shamirLinearOpsMatchReferenceRow : OpenClaim := { program := "ytjnkkfdlcbcelaa", sum := "b43f0e1993aa90445e7473e419d00867461b3de9cd636e221aa506f89cf822cb", func := "privity/privitylaw09.ShamirLinearOpsMatchReference", spec := "shamirLinearOpsMatchReference", inPlace := ["math/bits.Add64"], unfollowed := true, recurses := true, apart := false }
def ShamirLinearOpsMatchReferenceSaid : Prop := shamirLinearOpsMatchReferenceRow.holds Try.pinned (OpenSpec.ofChange shamirLinearOpsMatchReferenceSpec)

/-- ITS FALSE NEIGHBOUR: 'it returns false'. Refute it at one input. -/
def shamirLinearOpsMatchReferenceWrong : ChangeSpec := { name := "shamirLinearOpsMatchReference", fn := fun _ => fun
  | [d] => { results := [.lit (.bool false)], args := [d] }
  | _ => none }
def ShamirLinearOpsMatchReferenceWrongFalsely : Prop := shamirLinearOpsMatchReferenceRow.holds Try.pinned (OpenSpec.ofChange shamirLinearOpsMatchReferenceWrong)

/-- 'privitylaw09.ShamirIsLinear': WHATEVER THE INPUT: true; the input reads as it did. -/
def shamirIsLinearSpec : ChangeSpec := { name := "shamirIsLinear", fn := fun _ => fun
  | [d1, d2, d3] => { results := [.lit (.bool true)], args := [d1, d2, d3] }
  | _ => none }
def shamirIsLinearRow : OpenClaim := { program := "ytjnkkfdlcbcelaa", sum := "b43f0e1993aa90445e7473e419d00867461b3de9cd636e221aa506f89cf822cb", func := "privity/privitylaw09.ShamirIsLinear", spec := "shamirIsLinear", inPlace := ["math/bits.Add64"], unfollowed := true, recurses := true, apart := false }
def ShamirIsLinearSaid : Prop := shamirIsLinearRow.holds Try.pinned (OpenSpec.ofChange shamirIsLinearSpec)

/-- ITS FALSE NEIGHBOUR: 'it returns false'. Refute it at one input. -/
def shamirIsLinearWrong : ChangeSpec := { name := "shamirIsLinear", fn := fun _ => fun
  | [d1, d2, d3] => { results := [.lit (.bool false)], args := [d1, d2, d3] }
  | _ => none }
def ShamirIsLinearWrongFalsely : Prop := shamirIsLinearRow.holds Try.pinned (OpenSpec.ofChange shamirIsLinearWrong)

/-- 'privitylaw09.ShamirFitSecretMatchesReference': WHATEVER THE INPUT: true; the input reads as it did. -/
def shamirFitSecretMatchesReferenceSpec : ChangeSpec := { name := "shamirFitSecretMatchesReference", fn := fun _ => fun
  | [d1, d2, d3] => { results := [.lit (.bool true)], args := [d1, d2, d3] }
  | _ => none }
def shamirFitSecretMatchesReferenceRow : OpenClaim := { program := "ytjnkkfdlcbcelaa", sum := "b43f0e1993aa90445e7473e419d00867461b3de9cd636e221aa506f89cf822cb", func := "privity/privitylaw09.ShamirFitSecretMatchesReference", spec := "shamirFitSecretMatchesReference", inPlace := ["math/bits.Add64"], unfollowed := true, recurses := true, apart := false }
def ShamirFitSecretMatchesReferenceSaid : Prop := shamirFitSecretMatchesReferenceRow.holds Try.pinned (OpenSpec.ofChange shamirFitSecretMatchesReferenceSpec)

/-- ITS FALSE NEIGHBOUR: 'it returns false'. Refute it at one input. -/
def shamirFitSecretMatchesReferenceWrong : ChangeSpec := { name := "shamirFitSecretMatchesReference", fn := fun _ => fun
  | [d1, d2, d3] => { results := [.lit (.bool false)], args := [d1, d2, d3] }
  | _ => none }
def ShamirFitSecretMatchesReferenceWrongFalsely : Prop := shamirFitSecretMatchesReferenceRow.holds Try.pinned (OpenSpec.ofChange shamirFitSecretMatchesReferenceWrong)

/- THE SECOND FORM. 'bulk': how many values and letters a reading holds, each counted each time it is reached (what is shared counts as often as it is met; a slice's spare places count too). A statement '..UptoSaid' is the law's where the arguments, and the package variables that the reading takes, are together of bulk at most 1048576: NARROWER than '..Said'. Prove '..Said' where nothing that the law and all that it calls make is longer than what came in: it says more and counts as full. Else prove '..UptoSaid'. A law counts once. -/
mutual
def uptoBulk {H : Type} : DataW H → Nat
  | .lit (.string bytes) => bytes.length + 1
  | .lit _ => 1
  | .nil => 1
  | .ptr d => uptoBulk d + 1
  | .slice elems spare => uptoBulkAll elems + uptoBulkAll spare + 1
  | .agg parts => uptoBulkAll parts + 1
  | .iface _ d => uptoBulk d + 1
  | .map entries => uptoBulkEntries entries + 1
  | .held _ => 1
def uptoBulkAll {H : Type} : List (DataW H) → Nat
  | [] => 0
  | d :: r => uptoBulk d + uptoBulkAll r
def uptoBulkEntries {H : Type} : List (Lit × DataW H) → Nat
  | [] => 0
  | x :: r => uptoBulkEntry x + uptoBulkEntries r
def uptoBulkEntry {H : Type} : Lit × DataW H → Nat
  | (.string bytes, d) => bytes.length + uptoBulk d + 1
  | (_, d) => uptoBulk d + 1
 end
def uptoSmall : (H : Type) → List (DataW H) → Bool := fun _ ds => decide (uptoBulkAll ds ≤ 1048576)
def OpenSpec.upto (s : _root_.Go.ChangeSpec) : _root_.Go.OpenSpec := { _root_.Go.OpenSpec.ofChange s with cond := some uptoSmall }

/-- 'privitylaw09.ShamirLinearOpsMatchReference', WHERE WHAT IT READS IS OF BULK AT MOST 1048576: true; the input reads as it did. -/
def shamirLinearOpsMatchReferenceUptoRow : OpenClaim := { program := "ytjnkkfdlcbcelaa", sum := "b43f0e1993aa90445e7473e419d00867461b3de9cd636e221aa506f89cf822cb", func := "privity/privitylaw09.ShamirLinearOpsMatchReference", spec := "shamirLinearOpsMatchReference", inPlace := ["math/bits.Add64"], unfollowed := true, recurses := true, apart := false, narrowed := true }
def ShamirLinearOpsMatchReferenceUptoSaid : Prop := shamirLinearOpsMatchReferenceUptoRow.holds Try.pinned (OpenSpec.upto shamirLinearOpsMatchReferenceSpec)

/-- 'privitylaw09.ShamirIsLinear', WHERE WHAT IT READS IS OF BULK AT MOST 1048576: true; the input reads as it did. -/
def shamirIsLinearUptoRow : OpenClaim := { program := "ytjnkkfdlcbcelaa", sum := "b43f0e1993aa90445e7473e419d00867461b3de9cd636e221aa506f89cf822cb", func := "privity/privitylaw09.ShamirIsLinear", spec := "shamirIsLinear", inPlace := ["math/bits.Add64"], unfollowed := true, recurses := true, apart := false, narrowed := true }
def ShamirIsLinearUptoSaid : Prop := shamirIsLinearUptoRow.holds Try.pinned (OpenSpec.upto shamirIsLinearSpec)

/-- 'privitylaw09.ShamirFitSecretMatchesReference', WHERE WHAT IT READS IS OF BULK AT MOST 1048576: true; the input reads as it did. -/
def shamirFitSecretMatchesReferenceUptoRow : OpenClaim := { program := "ytjnkkfdlcbcelaa", sum := "b43f0e1993aa90445e7473e419d00867461b3de9cd636e221aa506f89cf822cb", func := "privity/privitylaw09.ShamirFitSecretMatchesReference", spec := "shamirFitSecretMatchesReference", inPlace := ["math/bits.Add64"], unfollowed := true, recurses := true, apart := false, narrowed := true }
def ShamirFitSecretMatchesReferenceUptoSaid : Prop := shamirFitSecretMatchesReferenceUptoRow.holds Try.pinned (OpenSpec.upto shamirFitSecretMatchesReferenceSpec)

end Rows
end Go.Proofs.Ytjnkkfdlcbcelaa
