/-
  No cell of these rows narrows 'for every input' (looked for: loops, veiled, ifaces, maps, wideKeys, modest, calm, conditions, laid).
  DERIVED. THE GIVEN ROWS OF THIS SEAT. 12 by the template 'for every input the law returns true; each argument reads behind the call as it read before'; 0 by the template 'total and deterministic' (their statements: YticigmfmodhfdaaTotals.lean).
  GIVEN WITH THE SEED: the statements are not yours to turn. If you find one false, say at which input.
  Laid BY PROGRAM, IN A SANDBOX (cutbox-rows.mjs): the forced cells as the released guide's own fill.sh prints them over the translation df5af7ef9a40e757… (all of the seat's roots in one cut). By AI agents, Wed Nov 11 2026. No macro, syntax, notation, axiom, sorry.
-/
import Derived.Test.YticigmfmodhfdaaChecked
import GoSem.Claim
import GoSem.ClaimJoined
import GoSem.ClaimMapViews
import Derived.JoinedTies
import Derived.KernelRfl
namespace Go.Proofs.Yticigmfmodhfdaa
/- THE CELL 'sum', in the pinned program and in every row, IS THE sha256 OF THE DUMP (.gsa) THAT YticigmfmodhfdaaProg.lean LOADS. Nothing in Lean hashes anything: it is a label: what it is worth is what the hold of that sum in a sandbox is worth. -/
noncomputable def Try.pinned : Pinned := { name := "yticigmfmodhfdaa", sum := "df5af7ef9a40e757d8218148edb6bd1d90ee275f382aa3ae18991d397d8c5c44", checked := Try.checked }
namespace Rows
def none {H : Type} : Left H := { results := [], args := [] }

/-- 'laws.FnExactTrimPlanes': WHATEVER THE INPUT: true; the input reads as it did. -/
def fnExactTrimPlanesSpec : ChangeSpec := { name := "fnExactTrimPlanes", fn := fun _ => fun
  | [d1, d2] => { results := [.lit (.bool true)], args := [d1, d2] }
  | _ => none }
def fnExactTrimPlanesRow : OpenClaim := { program := "yticigmfmodhfdaa", sum := "df5af7ef9a40e757d8218148edb6bd1d90ee275f382aa3ae18991d397d8c5c44", func := "loop.example/g01080/laws.FnExactTrimPlanes", spec := "fnExactTrimPlanes", unfollowed := true, recurses := true, apart := false }
def FnExactTrimPlanesSaid : Prop := fnExactTrimPlanesRow.holds Try.pinned (OpenSpec.ofChange fnExactTrimPlanesSpec)

/-- ITS FALSE NEIGHBOUR: 'it returns false'. Refute it at one input. -/
def fnExactTrimPlanesWrong : ChangeSpec := { name := "fnExactTrimPlanes", fn := fun _ => fun
  | [d1, d2] => { results := [.lit (.bool false)], args := [d1, d2] }
  | _ => none }
def FnExactTrimPlanesWrongFalsely : Prop := fnExactTrimPlanesRow.holds Try.pinned (OpenSpec.ofChange fnExactTrimPlanesWrong)

/-- 'laws.FnExactEliminateVar': WHATEVER THE INPUT: true; the input reads as it did. -/
def fnExactEliminateVarSpec : ChangeSpec := { name := "fnExactEliminateVar", fn := fun _ => fun
  | [d1, d2] => { results := [.lit (.bool true)], args := [d1, d2] }
  | _ => none }
def fnExactEliminateVarRow : OpenClaim := { program := "yticigmfmodhfdaa", sum := "df5af7ef9a40e757d8218148edb6bd1d90ee275f382aa3ae18991d397d8c5c44", func := "loop.example/g01080/laws.FnExactEliminateVar", spec := "fnExactEliminateVar", unfollowed := true, recurses := true, apart := false }
def FnExactEliminateVarSaid : Prop := fnExactEliminateVarRow.holds Try.pinned (OpenSpec.ofChange fnExactEliminateVarSpec)

/-- ITS FALSE NEIGHBOUR: 'it returns false'. Refute it at one input. -/
def fnExactEliminateVarWrong : ChangeSpec := { name := "fnExactEliminateVar", fn := fun _ => fun
  | [d1, d2] => { results := [.lit (.bool false)], args := [d1, d2] }
  | _ => none }
def FnExactEliminateVarWrongFalsely : Prop := fnExactEliminateVarRow.holds Try.pinned (OpenSpec.ofChange fnExactEliminateVarWrong)

/-- 'laws.FnExactHoleSteps': WHATEVER THE INPUT: true; the input reads as it did. -/
def fnExactHoleStepsSpec : ChangeSpec := { name := "fnExactHoleSteps", fn := fun _ => fun
  | [d1, d2] => { results := [.lit (.bool true)], args := [d1, d2] }
  | _ => none }
def fnExactHoleStepsRow : OpenClaim := { program := "yticigmfmodhfdaa", sum := "df5af7ef9a40e757d8218148edb6bd1d90ee275f382aa3ae18991d397d8c5c44", func := "loop.example/g01080/laws.FnExactHoleSteps", spec := "fnExactHoleSteps", unfollowed := true, recurses := true, apart := false }
def FnExactHoleStepsSaid : Prop := fnExactHoleStepsRow.holds Try.pinned (OpenSpec.ofChange fnExactHoleStepsSpec)

/-- ITS FALSE NEIGHBOUR: 'it returns false'. Refute it at one input. -/
def fnExactHoleStepsWrong : ChangeSpec := { name := "fnExactHoleSteps", fn := fun _ => fun
  | [d1, d2] => { results := [.lit (.bool false)], args := [d1, d2] }
  | _ => none }
def FnExactHoleStepsWrongFalsely : Prop := fnExactHoleStepsRow.holds Try.pinned (OpenSpec.ofChange fnExactHoleStepsWrong)

/-- 'laws.FnExactPigeonPlanes': WHATEVER THE INPUT: true; the input reads as it did. -/
def fnExactPigeonPlanesSpec : ChangeSpec := { name := "fnExactPigeonPlanes", fn := fun _ => fun
  | [d] => { results := [.lit (.bool true)], args := [d] }
  | _ => none }
def fnExactPigeonPlanesRow : OpenClaim := { program := "yticigmfmodhfdaa", sum := "df5af7ef9a40e757d8218148edb6bd1d90ee275f382aa3ae18991d397d8c5c44", func := "loop.example/g01080/laws.FnExactPigeonPlanes", spec := "fnExactPigeonPlanes", unfollowed := true, recurses := true, apart := false }
def FnExactPigeonPlanesSaid : Prop := fnExactPigeonPlanesRow.holds Try.pinned (OpenSpec.ofChange fnExactPigeonPlanesSpec)

/-- ITS FALSE NEIGHBOUR: 'it returns false'. Refute it at one input. -/
def fnExactPigeonPlanesWrong : ChangeSpec := { name := "fnExactPigeonPlanes", fn := fun _ => fun
  | [d] => { results := [.lit (.bool false)], args := [d] }
  | _ => none }
def FnExactPigeonPlanesWrongFalsely : Prop := fnExactPigeonPlanesRow.holds Try.pinned (OpenSpec.ofChange fnExactPigeonPlanesWrong)

/-- 'laws.FnExactClosureAt': WHATEVER THE INPUT: true; the input reads as it did. -/
def fnExactClosureAtSpec : ChangeSpec := { name := "fnExactClosureAt", fn := fun _ => fun
  | [d1, d2] => { results := [.lit (.bool true)], args := [d1, d2] }
  | _ => none }
def fnExactClosureAtRow : OpenClaim := { program := "yticigmfmodhfdaa", sum := "df5af7ef9a40e757d8218148edb6bd1d90ee275f382aa3ae18991d397d8c5c44", func := "loop.example/g01080/laws.FnExactClosureAt", spec := "fnExactClosureAt", unfollowed := true, recurses := true, apart := false }
def FnExactClosureAtSaid : Prop := fnExactClosureAtRow.holds Try.pinned (OpenSpec.ofChange fnExactClosureAtSpec)

/-- ITS FALSE NEIGHBOUR: 'it returns false'. Refute it at one input. -/
def fnExactClosureAtWrong : ChangeSpec := { name := "fnExactClosureAt", fn := fun _ => fun
  | [d1, d2] => { results := [.lit (.bool false)], args := [d1, d2] }
  | _ => none }
def FnExactClosureAtWrongFalsely : Prop := fnExactClosureAtRow.holds Try.pinned (OpenSpec.ofChange fnExactClosureAtWrong)

/-- 'laws.FnExactDerivableClauses': WHATEVER THE INPUT: true; the input reads as it did. -/
def fnExactDerivableClausesSpec : ChangeSpec := { name := "fnExactDerivableClauses", fn := fun _ => fun
  | [d] => { results := [.lit (.bool true)], args := [d] }
  | _ => none }
def fnExactDerivableClausesRow : OpenClaim := { program := "yticigmfmodhfdaa", sum := "df5af7ef9a40e757d8218148edb6bd1d90ee275f382aa3ae18991d397d8c5c44", func := "loop.example/g01080/laws.FnExactDerivableClauses", spec := "fnExactDerivableClauses", unfollowed := true, recurses := true, apart := false }
def FnExactDerivableClausesSaid : Prop := fnExactDerivableClausesRow.holds Try.pinned (OpenSpec.ofChange fnExactDerivableClausesSpec)

/-- ITS FALSE NEIGHBOUR: 'it returns false'. Refute it at one input. -/
def fnExactDerivableClausesWrong : ChangeSpec := { name := "fnExactDerivableClauses", fn := fun _ => fun
  | [d] => { results := [.lit (.bool false)], args := [d] }
  | _ => none }
def FnExactDerivableClausesWrongFalsely : Prop := fnExactDerivableClausesRow.holds Try.pinned (OpenSpec.ofChange fnExactDerivableClausesWrong)

/-- 'laws.FnExactMinimalClosure': WHATEVER THE INPUT: true; the input reads as it did. -/
def fnExactMinimalClosureSpec : ChangeSpec := { name := "fnExactMinimalClosure", fn := fun _ => fun
  | [d1, d2] => { results := [.lit (.bool true)], args := [d1, d2] }
  | _ => none }
def fnExactMinimalClosureRow : OpenClaim := { program := "yticigmfmodhfdaa", sum := "df5af7ef9a40e757d8218148edb6bd1d90ee275f382aa3ae18991d397d8c5c44", func := "loop.example/g01080/laws.FnExactMinimalClosure", spec := "fnExactMinimalClosure", unfollowed := true, recurses := true, apart := false }
def FnExactMinimalClosureSaid : Prop := fnExactMinimalClosureRow.holds Try.pinned (OpenSpec.ofChange fnExactMinimalClosureSpec)

/-- ITS FALSE NEIGHBOUR: 'it returns false'. Refute it at one input. -/
def fnExactMinimalClosureWrong : ChangeSpec := { name := "fnExactMinimalClosure", fn := fun _ => fun
  | [d1, d2] => { results := [.lit (.bool false)], args := [d1, d2] }
  | _ => none }
def FnExactMinimalClosureWrongFalsely : Prop := fnExactMinimalClosureRow.holds Try.pinned (OpenSpec.ofChange fnExactMinimalClosureWrong)

/-- 'laws.FnExactPrimeImplicates': WHATEVER THE INPUT: true; the input reads as it did. -/
def fnExactPrimeImplicatesSpec : ChangeSpec := { name := "fnExactPrimeImplicates", fn := fun _ => fun
  | [d] => { results := [.lit (.bool true)], args := [d] }
  | _ => none }
def fnExactPrimeImplicatesRow : OpenClaim := { program := "yticigmfmodhfdaa", sum := "df5af7ef9a40e757d8218148edb6bd1d90ee275f382aa3ae18991d397d8c5c44", func := "loop.example/g01080/laws.FnExactPrimeImplicates", spec := "fnExactPrimeImplicates", unfollowed := true, recurses := true, apart := false }
def FnExactPrimeImplicatesSaid : Prop := fnExactPrimeImplicatesRow.holds Try.pinned (OpenSpec.ofChange fnExactPrimeImplicatesSpec)

/-- ITS FALSE NEIGHBOUR: 'it returns false'. Refute it at one input. -/
def fnExactPrimeImplicatesWrong : ChangeSpec := { name := "fnExactPrimeImplicates", fn := fun _ => fun
  | [d] => { results := [.lit (.bool false)], args := [d] }
  | _ => none }
def FnExactPrimeImplicatesWrongFalsely : Prop := fnExactPrimeImplicatesRow.holds Try.pinned (OpenSpec.ofChange fnExactPrimeImplicatesWrong)

/-- 'laws.FnExactRoundsAt': WHATEVER THE INPUT: true; the input reads as it did. -/
def fnExactRoundsAtSpec : ChangeSpec := { name := "fnExactRoundsAt", fn := fun _ => fun
  | [d1, d2] => { results := [.lit (.bool true)], args := [d1, d2] }
  | _ => none }
def fnExactRoundsAtRow : OpenClaim := { program := "yticigmfmodhfdaa", sum := "df5af7ef9a40e757d8218148edb6bd1d90ee275f382aa3ae18991d397d8c5c44", func := "loop.example/g01080/laws.FnExactRoundsAt", spec := "fnExactRoundsAt", unfollowed := true, recurses := true, apart := false }
def FnExactRoundsAtSaid : Prop := fnExactRoundsAtRow.holds Try.pinned (OpenSpec.ofChange fnExactRoundsAtSpec)

/-- ITS FALSE NEIGHBOUR: 'it returns false'. Refute it at one input. -/
def fnExactRoundsAtWrong : ChangeSpec := { name := "fnExactRoundsAt", fn := fun _ => fun
  | [d1, d2] => { results := [.lit (.bool false)], args := [d1, d2] }
  | _ => none }
def FnExactRoundsAtWrongFalsely : Prop := fnExactRoundsAtRow.holds Try.pinned (OpenSpec.ofChange fnExactRoundsAtWrong)

/-- 'laws.FnExactSourceOf': WHATEVER THE INPUT: true; the input reads as it did. -/
def fnExactSourceOfSpec : ChangeSpec := { name := "fnExactSourceOf", fn := fun _ => fun
  | [d1, d2, d3] => { results := [.lit (.bool true)], args := [d1, d2, d3] }
  | _ => none }
def fnExactSourceOfRow : OpenClaim := { program := "yticigmfmodhfdaa", sum := "df5af7ef9a40e757d8218148edb6bd1d90ee275f382aa3ae18991d397d8c5c44", func := "loop.example/g01080/laws.FnExactSourceOf", spec := "fnExactSourceOf", unfollowed := true, recurses := true, apart := false }
def FnExactSourceOfSaid : Prop := fnExactSourceOfRow.holds Try.pinned (OpenSpec.ofChange fnExactSourceOfSpec)

/-- ITS FALSE NEIGHBOUR: 'it returns false'. Refute it at one input. -/
def fnExactSourceOfWrong : ChangeSpec := { name := "fnExactSourceOf", fn := fun _ => fun
  | [d1, d2, d3] => { results := [.lit (.bool false)], args := [d1, d2, d3] }
  | _ => none }
def FnExactSourceOfWrongFalsely : Prop := fnExactSourceOfRow.holds Try.pinned (OpenSpec.ofChange fnExactSourceOfWrong)

/-- 'laws.FnExactCertificateDegree': WHATEVER THE INPUT: true; the input reads as it did. -/
def fnExactCertificateDegreeSpec : ChangeSpec := { name := "fnExactCertificateDegree", fn := fun _ => fun
  | [d1, d2, d3] => { results := [.lit (.bool true)], args := [d1, d2, d3] }
  | _ => none }
def fnExactCertificateDegreeRow : OpenClaim := { program := "yticigmfmodhfdaa", sum := "df5af7ef9a40e757d8218148edb6bd1d90ee275f382aa3ae18991d397d8c5c44", func := "loop.example/g01080/laws.FnExactCertificateDegree", spec := "fnExactCertificateDegree", apart := false }
def FnExactCertificateDegreeSaid : Prop := fnExactCertificateDegreeRow.holds Try.pinned (OpenSpec.ofChange fnExactCertificateDegreeSpec)

/-- ITS FALSE NEIGHBOUR: 'it returns false'. Refute it at one input. -/
def fnExactCertificateDegreeWrong : ChangeSpec := { name := "fnExactCertificateDegree", fn := fun _ => fun
  | [d1, d2, d3] => { results := [.lit (.bool false)], args := [d1, d2, d3] }
  | _ => none }
def FnExactCertificateDegreeWrongFalsely : Prop := fnExactCertificateDegreeRow.holds Try.pinned (OpenSpec.ofChange fnExactCertificateDegreeWrong)

/-- 'laws.FnExactPcDegree': WHATEVER THE INPUT: true; the input reads as it did. -/
def fnExactPcDegreeSpec : ChangeSpec := { name := "fnExactPcDegree", fn := fun _ => fun
  | [d1, d2, d3] => { results := [.lit (.bool true)], args := [d1, d2, d3] }
  | _ => none }
def fnExactPcDegreeRow : OpenClaim := { program := "yticigmfmodhfdaa", sum := "df5af7ef9a40e757d8218148edb6bd1d90ee275f382aa3ae18991d397d8c5c44", func := "loop.example/g01080/laws.FnExactPcDegree", spec := "fnExactPcDegree", apart := false }
def FnExactPcDegreeSaid : Prop := fnExactPcDegreeRow.holds Try.pinned (OpenSpec.ofChange fnExactPcDegreeSpec)

/-- ITS FALSE NEIGHBOUR: 'it returns false'. Refute it at one input. -/
def fnExactPcDegreeWrong : ChangeSpec := { name := "fnExactPcDegree", fn := fun _ => fun
  | [d1, d2, d3] => { results := [.lit (.bool false)], args := [d1, d2, d3] }
  | _ => none }
def FnExactPcDegreeWrongFalsely : Prop := fnExactPcDegreeRow.holds Try.pinned (OpenSpec.ofChange fnExactPcDegreeWrong)

/- THE SECOND FORM. 'bulk': how many values and letters a reading holds, each counted each time it is reached (what is shared counts as often as it is met; a slice's spare places count too). A statement '..UptoSaid' is the law's where the arguments, and the package variables that the reading takes, are together of bulk at most 1048576: NARROWER than '..Said'. Prove '..Said' where nothing that the law and all that it calls make is longer than what came in: it says more and counts as full. Else prove '..UptoSaid'. A law counts once. -/
mutual
def uptoBulk {H : Type} : DataW H → Nat
  | .lit (.string bytes) => bytes.length + 1
  | .lit _ => 1
  | .nil => 1
  | .ptr d => uptoBulk d + 1
  | .slice elems spare => uptoBulkAll elems + uptoBulkAll spare + 1
  | .agg parts => uptoBulkAll parts + 1
  | .iface _ d => uptoBulk d + 1
  | .map entries => uptoBulkEntries entries + 1
  | .held _ => 1
def uptoBulkAll {H : Type} : List (DataW H) → Nat
  | [] => 0
  | d :: r => uptoBulk d + uptoBulkAll r
def uptoBulkEntries {H : Type} : List (Lit × DataW H) → Nat
  | [] => 0
  | x :: r => uptoBulkEntry x + uptoBulkEntries r
def uptoBulkEntry {H : Type} : Lit × DataW H → Nat
  | (.string bytes, d) => bytes.length + uptoBulk d + 1
  | (_, d) => uptoBulk d + 1
 end
def uptoSmall : (H : Type) → List (DataW H) → Bool := fun _ ds => decide (uptoBulkAll ds ≤ 1048576)
def OpenSpec.upto (s : _root_.Go.ChangeSpec) : _root_.Go.OpenSpec := { _root_.Go.OpenSpec.ofChange s with cond := some uptoSmall }

/-- 'laws.FnExactTrimPlanes', WHERE WHAT IT READS IS OF BULK AT MOST 1048576: true; the input reads as it did. -/
def fnExactTrimPlanesUptoRow : OpenClaim := { program := "yticigmfmodhfdaa", sum := "df5af7ef9a40e757d8218148edb6bd1d90ee275f382aa3ae18991d397d8c5c44", func := "loop.example/g01080/laws.FnExactTrimPlanes", spec := "fnExactTrimPlanes", unfollowed := true, recurses := true, apart := false, narrowed := true }
def FnExactTrimPlanesUptoSaid : Prop := fnExactTrimPlanesUptoRow.holds Try.pinned (OpenSpec.upto fnExactTrimPlanesSpec)

/-- 'laws.FnExactEliminateVar', WHERE WHAT IT READS IS OF BULK AT MOST 1048576: true; the input reads as it did. -/
def fnExactEliminateVarUptoRow : OpenClaim := { program := "yticigmfmodhfdaa", sum := "df5af7ef9a40e757d8218148edb6bd1d90ee275f382aa3ae18991d397d8c5c44", func := "loop.example/g01080/laws.FnExactEliminateVar", spec := "fnExactEliminateVar", unfollowed := true, recurses := true, apart := false, narrowed := true }
def FnExactEliminateVarUptoSaid : Prop := fnExactEliminateVarUptoRow.holds Try.pinned (OpenSpec.upto fnExactEliminateVarSpec)

/-- 'laws.FnExactHoleSteps', WHERE WHAT IT READS IS OF BULK AT MOST 1048576: true; the input reads as it did. -/
def fnExactHoleStepsUptoRow : OpenClaim := { program := "yticigmfmodhfdaa", sum := "df5af7ef9a40e757d8218148edb6bd1d90ee275f382aa3ae18991d397d8c5c44", func := "loop.example/g01080/laws.FnExactHoleSteps", spec := "fnExactHoleSteps", unfollowed := true, recurses := true, apart := false, narrowed := true }
def FnExactHoleStepsUptoSaid : Prop := fnExactHoleStepsUptoRow.holds Try.pinned (OpenSpec.upto fnExactHoleStepsSpec)

/-- 'laws.FnExactPigeonPlanes', WHERE WHAT IT READS IS OF BULK AT MOST 1048576: true; the input reads as it did. -/
def fnExactPigeonPlanesUptoRow : OpenClaim := { program := "yticigmfmodhfdaa", sum := "df5af7ef9a40e757d8218148edb6bd1d90ee275f382aa3ae18991d397d8c5c44", func := "loop.example/g01080/laws.FnExactPigeonPlanes", spec := "fnExactPigeonPlanes", unfollowed := true, recurses := true, apart := false, narrowed := true }
def FnExactPigeonPlanesUptoSaid : Prop := fnExactPigeonPlanesUptoRow.holds Try.pinned (OpenSpec.upto fnExactPigeonPlanesSpec)

/-- 'laws.FnExactClosureAt', WHERE WHAT IT READS IS OF BULK AT MOST 1048576: true; the input reads as it did. -/
def fnExactClosureAtUptoRow : OpenClaim := { program := "yticigmfmodhfdaa", sum := "df5af7ef9a40e757d8218148edb6bd1d90ee275f382aa3ae18991d397d8c5c44", func := "loop.example/g01080/laws.FnExactClosureAt", spec := "fnExactClosureAt", unfollowed := true, recurses := true, apart := false, narrowed := true }
def FnExactClosureAtUptoSaid : Prop := fnExactClosureAtUptoRow.holds Try.pinned (OpenSpec.upto fnExactClosureAtSpec)

/-- 'laws.FnExactDerivableClauses', WHERE WHAT IT READS IS OF BULK AT MOST 1048576: true; the input reads as it did. -/
def fnExactDerivableClausesUptoRow : OpenClaim := { program := "yticigmfmodhfdaa", sum := "df5af7ef9a40e757d8218148edb6bd1d90ee275f382aa3ae18991d397d8c5c44", func := "loop.example/g01080/laws.FnExactDerivableClauses", spec := "fnExactDerivableClauses", unfollowed := true, recurses := true, apart := false, narrowed := true }
def FnExactDerivableClausesUptoSaid : Prop := fnExactDerivableClausesUptoRow.holds Try.pinned (OpenSpec.upto fnExactDerivableClausesSpec)

/-- 'laws.FnExactMinimalClosure', WHERE WHAT IT READS IS OF BULK AT MOST 1048576: true; the input reads as it did. -/
def fnExactMinimalClosureUptoRow : OpenClaim := { program := "yticigmfmodhfdaa", sum := "df5af7ef9a40e757d8218148edb6bd1d90ee275f382aa3ae18991d397d8c5c44", func := "loop.example/g01080/laws.FnExactMinimalClosure", spec := "fnExactMinimalClosure", unfollowed := true, recurses := true, apart := false, narrowed := true }
def FnExactMinimalClosureUptoSaid : Prop := fnExactMinimalClosureUptoRow.holds Try.pinned (OpenSpec.upto fnExactMinimalClosureSpec)

/-- 'laws.FnExactPrimeImplicates', WHERE WHAT IT READS IS OF BULK AT MOST 1048576: true; the input reads as it did. -/
def fnExactPrimeImplicatesUptoRow : OpenClaim := { program := "yticigmfmodhfdaa", sum := "df5af7ef9a40e757d8218148edb6bd1d90ee275f382aa3ae18991d397d8c5c44", func := "loop.example/g01080/laws.FnExactPrimeImplicates", spec := "fnExactPrimeImplicates", unfollowed := true, recurses := true, apart := false, narrowed := true }
def FnExactPrimeImplicatesUptoSaid : Prop := fnExactPrimeImplicatesUptoRow.holds Try.pinned (OpenSpec.upto fnExactPrimeImplicatesSpec)

/-- 'laws.FnExactRoundsAt', WHERE WHAT IT READS IS OF BULK AT MOST 1048576: true; the input reads as it did. -/
def fnExactRoundsAtUptoRow : OpenClaim := { program := "yticigmfmodhfdaa", sum := "df5af7ef9a40e757d8218148edb6bd1d90ee275f382aa3ae18991d397d8c5c44", func := "loop.example/g01080/laws.FnExactRoundsAt", spec := "fnExactRoundsAt", unfollowed := true, recurses := true, apart := false, narrowed := true }
def FnExactRoundsAtUptoSaid : Prop := fnExactRoundsAtUptoRow.holds Try.pinned (OpenSpec.upto fnExactRoundsAtSpec)

/-- 'laws.FnExactSourceOf', WHERE WHAT IT READS IS OF BULK AT MOST 1048576: true; the input reads as it did. -/
def fnExactSourceOfUptoRow : OpenClaim := { program := "yticigmfmodhfdaa", sum := "df5af7ef9a40e757d8218148edb6bd1d90ee275f382aa3ae18991d397d8c5c44", func := "loop.example/g01080/laws.FnExactSourceOf", spec := "fnExactSourceOf", unfollowed := true, recurses := true, apart := false, narrowed := true }
def FnExactSourceOfUptoSaid : Prop := fnExactSourceOfUptoRow.holds Try.pinned (OpenSpec.upto fnExactSourceOfSpec)

/-- 'laws.FnExactCertificateDegree', WHERE WHAT IT READS IS OF BULK AT MOST 1048576: true; the input reads as it did. -/
def fnExactCertificateDegreeUptoRow : OpenClaim := { program := "yticigmfmodhfdaa", sum := "df5af7ef9a40e757d8218148edb6bd1d90ee275f382aa3ae18991d397d8c5c44", func := "loop.example/g01080/laws.FnExactCertificateDegree", spec := "fnExactCertificateDegree", apart := false, narrowed := true }
def FnExactCertificateDegreeUptoSaid : Prop := fnExactCertificateDegreeUptoRow.holds Try.pinned (OpenSpec.upto fnExactCertificateDegreeSpec)

/-- 'laws.FnExactPcDegree', WHERE WHAT IT READS IS OF BULK AT MOST 1048576: true; the input reads as it did. -/
def fnExactPcDegreeUptoRow : OpenClaim := { program := "yticigmfmodhfdaa", sum := "df5af7ef9a40e757d8218148edb6bd1d90ee275f382aa3ae18991d397d8c5c44", func := "loop.example/g01080/laws.FnExactPcDegree", spec := "fnExactPcDegree", apart := false, narrowed := true }
def FnExactPcDegreeUptoSaid : Prop := fnExactPcDegreeUptoRow.holds Try.pinned (OpenSpec.upto fnExactPcDegreeSpec)

end Rows
end Go.Proofs.Yticigmfmodhfdaa
