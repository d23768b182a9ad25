/-
  No cell of these rows narrows 'for every input' (looked for: loops, veiled, ifaces, maps, wideKeys, modest, calm, conditions, laid).
  DERIVED. THE GIVEN ROWS OF THIS SEAT. 11 by the template 'for every input the law returns true; each argument reads behind the call as it read before'; 0 by the template 'total and deterministic' (their statements: YtcpflbfcglcjfaaTotals.lean).
  GIVEN WITH THE SEED: the statements are not yours to turn. If you find one false, say at which input.
  Laid BY PROGRAM, IN A SANDBOX (cutbox-rows.mjs): the forced cells as the released guide's own fill.sh prints them over the translation bbec941762d00d7d… (all of the seat's roots in one cut). By AI agents, Wed Nov 11 2026. No macro, syntax, notation, axiom, sorry.
-/
import Derived.Test.YtcpflbfcglcjfaaChecked
import GoSem.Claim
import GoSem.ClaimJoined
import GoSem.ClaimMapViews
import Derived.JoinedTies
import Derived.KernelRfl
namespace Go.Proofs.Ytcpflbfcglcjfaa
/- THE CELL 'sum', in the pinned program and in every row, IS THE sha256 OF THE DUMP (.gsa) THAT YtcpflbfcglcjfaaProg.lean LOADS. Nothing in Lean hashes anything: it is a label: what it is worth is what the hold of that sum in a sandbox is worth. -/
noncomputable def Try.pinned : Pinned := { name := "ytcpflbfcglcjfaa", sum := "bbec941762d00d7dbd4cd9a2c7a696a41c6ab3ddb9079b6f6f1dd849c9caf69c", checked := Try.checked }
namespace Rows
def none {H : Type} : Left H := { results := [], args := [] }

/-- 'laws.FnExactHoleSteps': WHATEVER THE INPUT: true; the input reads as it did. -/
def fnExactHoleStepsSpec : ChangeSpec := { name := "fnExactHoleSteps", fn := fun _ => fun
  | [d1, d2] => { results := [.lit (.bool true)], args := [d1, d2] }
  | _ => none }
def fnExactHoleStepsRow : OpenClaim := { program := "ytcpflbfcglcjfaa", sum := "bbec941762d00d7dbd4cd9a2c7a696a41c6ab3ddb9079b6f6f1dd849c9caf69c", func := "loop.example/g01080/laws.FnExactHoleSteps", spec := "fnExactHoleSteps", unfollowed := true, recurses := true, apart := false }
def FnExactHoleStepsSaid : Prop := fnExactHoleStepsRow.holds Try.pinned (OpenSpec.ofChange fnExactHoleStepsSpec)

/-- ITS FALSE NEIGHBOUR: 'it returns false'. Refute it at one input. -/
def fnExactHoleStepsWrong : ChangeSpec := { name := "fnExactHoleSteps", fn := fun _ => fun
  | [d1, d2] => { results := [.lit (.bool false)], args := [d1, d2] }
  | _ => none }
def FnExactHoleStepsWrongFalsely : Prop := fnExactHoleStepsRow.holds Try.pinned (OpenSpec.ofChange fnExactHoleStepsWrong)

/-- 'laws.FnExactPigeonPlanes': WHATEVER THE INPUT: true; the input reads as it did. -/
def fnExactPigeonPlanesSpec : ChangeSpec := { name := "fnExactPigeonPlanes", fn := fun _ => fun
  | [d] => { results := [.lit (.bool true)], args := [d] }
  | _ => none }
def fnExactPigeonPlanesRow : OpenClaim := { program := "ytcpflbfcglcjfaa", sum := "bbec941762d00d7dbd4cd9a2c7a696a41c6ab3ddb9079b6f6f1dd849c9caf69c", func := "loop.example/g01080/laws.FnExactPigeonPlanes", spec := "fnExactPigeonPlanes", unfollowed := true, recurses := true, apart := false }
def FnExactPigeonPlanesSaid : Prop := fnExactPigeonPlanesRow.holds Try.pinned (OpenSpec.ofChange fnExactPigeonPlanesSpec)

/-- ITS FALSE NEIGHBOUR: 'it returns false'. Refute it at one input. -/
def fnExactPigeonPlanesWrong : ChangeSpec := { name := "fnExactPigeonPlanes", fn := fun _ => fun
  | [d] => { results := [.lit (.bool false)], args := [d] }
  | _ => none }
def FnExactPigeonPlanesWrongFalsely : Prop := fnExactPigeonPlanesRow.holds Try.pinned (OpenSpec.ofChange fnExactPigeonPlanesWrong)

/-- 'laws.FnExactEliminateVar': WHATEVER THE INPUT: true; the input reads as it did. -/
def fnExactEliminateVarSpec : ChangeSpec := { name := "fnExactEliminateVar", fn := fun _ => fun
  | [d1, d2] => { results := [.lit (.bool true)], args := [d1, d2] }
  | _ => none }
def fnExactEliminateVarRow : OpenClaim := { program := "ytcpflbfcglcjfaa", sum := "bbec941762d00d7dbd4cd9a2c7a696a41c6ab3ddb9079b6f6f1dd849c9caf69c", func := "loop.example/g01080/laws.FnExactEliminateVar", spec := "fnExactEliminateVar", unfollowed := true, recurses := true, apart := false }
def FnExactEliminateVarSaid : Prop := fnExactEliminateVarRow.holds Try.pinned (OpenSpec.ofChange fnExactEliminateVarSpec)

/-- ITS FALSE NEIGHBOUR: 'it returns false'. Refute it at one input. -/
def fnExactEliminateVarWrong : ChangeSpec := { name := "fnExactEliminateVar", fn := fun _ => fun
  | [d1, d2] => { results := [.lit (.bool false)], args := [d1, d2] }
  | _ => none }
def FnExactEliminateVarWrongFalsely : Prop := fnExactEliminateVarRow.holds Try.pinned (OpenSpec.ofChange fnExactEliminateVarWrong)

/-- 'laws.FnExactClosureAt': WHATEVER THE INPUT: true; the input reads as it did. -/
def fnExactClosureAtSpec : ChangeSpec := { name := "fnExactClosureAt", fn := fun _ => fun
  | [d1, d2] => { results := [.lit (.bool true)], args := [d1, d2] }
  | _ => none }
def fnExactClosureAtRow : OpenClaim := { program := "ytcpflbfcglcjfaa", sum := "bbec941762d00d7dbd4cd9a2c7a696a41c6ab3ddb9079b6f6f1dd849c9caf69c", func := "loop.example/g01080/laws.FnExactClosureAt", spec := "fnExactClosureAt", unfollowed := true, recurses := true, apart := false }
def FnExactClosureAtSaid : Prop := fnExactClosureAtRow.holds Try.pinned (OpenSpec.ofChange fnExactClosureAtSpec)

/-- ITS FALSE NEIGHBOUR: 'it returns false'. Refute it at one input. -/
def fnExactClosureAtWrong : ChangeSpec := { name := "fnExactClosureAt", fn := fun _ => fun
  | [d1, d2] => { results := [.lit (.bool false)], args := [d1, d2] }
  | _ => none }
def FnExactClosureAtWrongFalsely : Prop := fnExactClosureAtRow.holds Try.pinned (OpenSpec.ofChange fnExactClosureAtWrong)

/-- 'laws.FnExactDerivableClauses': WHATEVER THE INPUT: true; the input reads as it did. -/
def fnExactDerivableClausesSpec : ChangeSpec := { name := "fnExactDerivableClauses", fn := fun _ => fun
  | [d] => { results := [.lit (.bool true)], args := [d] }
  | _ => none }
def fnExactDerivableClausesRow : OpenClaim := { program := "ytcpflbfcglcjfaa", sum := "bbec941762d00d7dbd4cd9a2c7a696a41c6ab3ddb9079b6f6f1dd849c9caf69c", func := "loop.example/g01080/laws.FnExactDerivableClauses", spec := "fnExactDerivableClauses", unfollowed := true, recurses := true, apart := false }
def FnExactDerivableClausesSaid : Prop := fnExactDerivableClausesRow.holds Try.pinned (OpenSpec.ofChange fnExactDerivableClausesSpec)

/-- ITS FALSE NEIGHBOUR: 'it returns false'. Refute it at one input. -/
def fnExactDerivableClausesWrong : ChangeSpec := { name := "fnExactDerivableClauses", fn := fun _ => fun
  | [d] => { results := [.lit (.bool false)], args := [d] }
  | _ => none }
def FnExactDerivableClausesWrongFalsely : Prop := fnExactDerivableClausesRow.holds Try.pinned (OpenSpec.ofChange fnExactDerivableClausesWrong)

/-- 'laws.FnExactRoundsAt': WHATEVER THE INPUT: true; the input reads as it did. -/
def fnExactRoundsAtSpec : ChangeSpec := { name := "fnExactRoundsAt", fn := fun _ => fun
  | [d1, d2] => { results := [.lit (.bool true)], args := [d1, d2] }
  | _ => none }
def fnExactRoundsAtRow : OpenClaim := { program := "ytcpflbfcglcjfaa", sum := "bbec941762d00d7dbd4cd9a2c7a696a41c6ab3ddb9079b6f6f1dd849c9caf69c", func := "loop.example/g01080/laws.FnExactRoundsAt", spec := "fnExactRoundsAt", unfollowed := true, recurses := true, apart := false }
def FnExactRoundsAtSaid : Prop := fnExactRoundsAtRow.holds Try.pinned (OpenSpec.ofChange fnExactRoundsAtSpec)

/-- ITS FALSE NEIGHBOUR: 'it returns false'. Refute it at one input. -/
def fnExactRoundsAtWrong : ChangeSpec := { name := "fnExactRoundsAt", fn := fun _ => fun
  | [d1, d2] => { results := [.lit (.bool false)], args := [d1, d2] }
  | _ => none }
def FnExactRoundsAtWrongFalsely : Prop := fnExactRoundsAtRow.holds Try.pinned (OpenSpec.ofChange fnExactRoundsAtWrong)

/-- 'laws.FnExactSourceOf': WHATEVER THE INPUT: true; the input reads as it did. -/
def fnExactSourceOfSpec : ChangeSpec := { name := "fnExactSourceOf", fn := fun _ => fun
  | [d1, d2, d3] => { results := [.lit (.bool true)], args := [d1, d2, d3] }
  | _ => none }
def fnExactSourceOfRow : OpenClaim := { program := "ytcpflbfcglcjfaa", sum := "bbec941762d00d7dbd4cd9a2c7a696a41c6ab3ddb9079b6f6f1dd849c9caf69c", func := "loop.example/g01080/laws.FnExactSourceOf", spec := "fnExactSourceOf", unfollowed := true, recurses := true, apart := false }
def FnExactSourceOfSaid : Prop := fnExactSourceOfRow.holds Try.pinned (OpenSpec.ofChange fnExactSourceOfSpec)

/-- ITS FALSE NEIGHBOUR: 'it returns false'. Refute it at one input. -/
def fnExactSourceOfWrong : ChangeSpec := { name := "fnExactSourceOf", fn := fun _ => fun
  | [d1, d2, d3] => { results := [.lit (.bool false)], args := [d1, d2, d3] }
  | _ => none }
def FnExactSourceOfWrongFalsely : Prop := fnExactSourceOfRow.holds Try.pinned (OpenSpec.ofChange fnExactSourceOfWrong)

/-- 'laws.FnExactMinimalClosure': WHATEVER THE INPUT: true; the input reads as it did. -/
def fnExactMinimalClosureSpec : ChangeSpec := { name := "fnExactMinimalClosure", fn := fun _ => fun
  | [d1, d2] => { results := [.lit (.bool true)], args := [d1, d2] }
  | _ => none }
def fnExactMinimalClosureRow : OpenClaim := { program := "ytcpflbfcglcjfaa", sum := "bbec941762d00d7dbd4cd9a2c7a696a41c6ab3ddb9079b6f6f1dd849c9caf69c", func := "loop.example/g01080/laws.FnExactMinimalClosure", spec := "fnExactMinimalClosure", unfollowed := true, recurses := true, apart := false }
def FnExactMinimalClosureSaid : Prop := fnExactMinimalClosureRow.holds Try.pinned (OpenSpec.ofChange fnExactMinimalClosureSpec)

/-- ITS FALSE NEIGHBOUR: 'it returns false'. Refute it at one input. -/
def fnExactMinimalClosureWrong : ChangeSpec := { name := "fnExactMinimalClosure", fn := fun _ => fun
  | [d1, d2] => { results := [.lit (.bool false)], args := [d1, d2] }
  | _ => none }
def FnExactMinimalClosureWrongFalsely : Prop := fnExactMinimalClosureRow.holds Try.pinned (OpenSpec.ofChange fnExactMinimalClosureWrong)

/-- 'laws.FnExactPrimeImplicates': WHATEVER THE INPUT: true; the input reads as it did. -/
def fnExactPrimeImplicatesSpec : ChangeSpec := { name := "fnExactPrimeImplicates", fn := fun _ => fun
  | [d] => { results := [.lit (.bool true)], args := [d] }
  | _ => none }
def fnExactPrimeImplicatesRow : OpenClaim := { program := "ytcpflbfcglcjfaa", sum := "bbec941762d00d7dbd4cd9a2c7a696a41c6ab3ddb9079b6f6f1dd849c9caf69c", func := "loop.example/g01080/laws.FnExactPrimeImplicates", spec := "fnExactPrimeImplicates", unfollowed := true, recurses := true, apart := false }
def FnExactPrimeImplicatesSaid : Prop := fnExactPrimeImplicatesRow.holds Try.pinned (OpenSpec.ofChange fnExactPrimeImplicatesSpec)

/-- ITS FALSE NEIGHBOUR: 'it returns false'. Refute it at one input. -/
def fnExactPrimeImplicatesWrong : ChangeSpec := { name := "fnExactPrimeImplicates", fn := fun _ => fun
  | [d] => { results := [.lit (.bool false)], args := [d] }
  | _ => none }
def FnExactPrimeImplicatesWrongFalsely : Prop := fnExactPrimeImplicatesRow.holds Try.pinned (OpenSpec.ofChange fnExactPrimeImplicatesWrong)

/-- 'laws.FnClausePolys': WHATEVER THE INPUT: true; the input reads as it did. -/
def fnClausePolysSpec : ChangeSpec := { name := "fnClausePolys", fn := fun _ => fun
  | [d] => { results := [.lit (.bool true)], args := [d] }
  | _ => none }
def fnClausePolysRow : OpenClaim := { program := "ytcpflbfcglcjfaa", sum := "bbec941762d00d7dbd4cd9a2c7a696a41c6ab3ddb9079b6f6f1dd849c9caf69c", func := "loop.example/g01080/laws.FnClausePolys", spec := "fnClausePolys", unfollowed := true, recurses := true, apart := false }
def FnClausePolysSaid : Prop := fnClausePolysRow.holds Try.pinned (OpenSpec.ofChange fnClausePolysSpec)

/-- ITS FALSE NEIGHBOUR: 'it returns false'. Refute it at one input. -/
def fnClausePolysWrong : ChangeSpec := { name := "fnClausePolys", fn := fun _ => fun
  | [d] => { results := [.lit (.bool false)], args := [d] }
  | _ => none }
def FnClausePolysWrongFalsely : Prop := fnClausePolysRow.holds Try.pinned (OpenSpec.ofChange fnClausePolysWrong)

/-- 'laws.FnClauses': WHATEVER THE INPUT: true; the input reads as it did. -/
def fnClausesSpec : ChangeSpec := { name := "fnClauses", fn := fun _ => fun
  | [d] => { results := [.lit (.bool true)], args := [d] }
  | _ => none }
def fnClausesRow : OpenClaim := { program := "ytcpflbfcglcjfaa", sum := "bbec941762d00d7dbd4cd9a2c7a696a41c6ab3ddb9079b6f6f1dd849c9caf69c", func := "loop.example/g01080/laws.FnClauses", spec := "fnClauses", unfollowed := true, recurses := true, apart := false }
def FnClausesSaid : Prop := fnClausesRow.holds Try.pinned (OpenSpec.ofChange fnClausesSpec)

/-- ITS FALSE NEIGHBOUR: 'it returns false'. Refute it at one input. -/
def fnClausesWrong : ChangeSpec := { name := "fnClauses", fn := fun _ => fun
  | [d] => { results := [.lit (.bool false)], args := [d] }
  | _ => none }
def FnClausesWrongFalsely : Prop := fnClausesRow.holds Try.pinned (OpenSpec.ofChange fnClausesWrong)

/- THE SECOND FORM. 'bulk': how many values and letters a reading holds, each counted each time it is reached (what is shared counts as often as it is met; a slice's spare places count too). A statement '..UptoSaid' is the law's where the arguments, and the package variables that the reading takes, are together of bulk at most 1048576: NARROWER than '..Said'. Prove '..Said' where nothing that the law and all that it calls make is longer than what came in: it says more and counts as full. Else prove '..UptoSaid'. A law counts once. -/
mutual
def uptoBulk {H : Type} : DataW H → Nat
  | .lit (.string bytes) => bytes.length + 1
  | .lit _ => 1
  | .nil => 1
  | .ptr d => uptoBulk d + 1
  | .slice elems spare => uptoBulkAll elems + uptoBulkAll spare + 1
  | .agg parts => uptoBulkAll parts + 1
  | .iface _ d => uptoBulk d + 1
  | .map entries => uptoBulkEntries entries + 1
  | .held _ => 1
def uptoBulkAll {H : Type} : List (DataW H) → Nat
  | [] => 0
  | d :: r => uptoBulk d + uptoBulkAll r
def uptoBulkEntries {H : Type} : List (Lit × DataW H) → Nat
  | [] => 0
  | x :: r => uptoBulkEntry x + uptoBulkEntries r
def uptoBulkEntry {H : Type} : Lit × DataW H → Nat
  | (.string bytes, d) => bytes.length + uptoBulk d + 1
  | (_, d) => uptoBulk d + 1
 end
def uptoSmall : (H : Type) → List (DataW H) → Bool := fun _ ds => decide (uptoBulkAll ds ≤ 1048576)
def OpenSpec.upto (s : _root_.Go.ChangeSpec) : _root_.Go.OpenSpec := { _root_.Go.OpenSpec.ofChange s with cond := some uptoSmall }

/-- 'laws.FnExactHoleSteps', WHERE WHAT IT READS IS OF BULK AT MOST 1048576: true; the input reads as it did. -/
def fnExactHoleStepsUptoRow : OpenClaim := { program := "ytcpflbfcglcjfaa", sum := "bbec941762d00d7dbd4cd9a2c7a696a41c6ab3ddb9079b6f6f1dd849c9caf69c", func := "loop.example/g01080/laws.FnExactHoleSteps", spec := "fnExactHoleSteps", unfollowed := true, recurses := true, apart := false, narrowed := true }
def FnExactHoleStepsUptoSaid : Prop := fnExactHoleStepsUptoRow.holds Try.pinned (OpenSpec.upto fnExactHoleStepsSpec)

/-- 'laws.FnExactPigeonPlanes', WHERE WHAT IT READS IS OF BULK AT MOST 1048576: true; the input reads as it did. -/
def fnExactPigeonPlanesUptoRow : OpenClaim := { program := "ytcpflbfcglcjfaa", sum := "bbec941762d00d7dbd4cd9a2c7a696a41c6ab3ddb9079b6f6f1dd849c9caf69c", func := "loop.example/g01080/laws.FnExactPigeonPlanes", spec := "fnExactPigeonPlanes", unfollowed := true, recurses := true, apart := false, narrowed := true }
def FnExactPigeonPlanesUptoSaid : Prop := fnExactPigeonPlanesUptoRow.holds Try.pinned (OpenSpec.upto fnExactPigeonPlanesSpec)

/-- 'laws.FnExactEliminateVar', WHERE WHAT IT READS IS OF BULK AT MOST 1048576: true; the input reads as it did. -/
def fnExactEliminateVarUptoRow : OpenClaim := { program := "ytcpflbfcglcjfaa", sum := "bbec941762d00d7dbd4cd9a2c7a696a41c6ab3ddb9079b6f6f1dd849c9caf69c", func := "loop.example/g01080/laws.FnExactEliminateVar", spec := "fnExactEliminateVar", unfollowed := true, recurses := true, apart := false, narrowed := true }
def FnExactEliminateVarUptoSaid : Prop := fnExactEliminateVarUptoRow.holds Try.pinned (OpenSpec.upto fnExactEliminateVarSpec)

/-- 'laws.FnExactClosureAt', WHERE WHAT IT READS IS OF BULK AT MOST 1048576: true; the input reads as it did. -/
def fnExactClosureAtUptoRow : OpenClaim := { program := "ytcpflbfcglcjfaa", sum := "bbec941762d00d7dbd4cd9a2c7a696a41c6ab3ddb9079b6f6f1dd849c9caf69c", func := "loop.example/g01080/laws.FnExactClosureAt", spec := "fnExactClosureAt", unfollowed := true, recurses := true, apart := false, narrowed := true }
def FnExactClosureAtUptoSaid : Prop := fnExactClosureAtUptoRow.holds Try.pinned (OpenSpec.upto fnExactClosureAtSpec)

/-- 'laws.FnExactDerivableClauses', WHERE WHAT IT READS IS OF BULK AT MOST 1048576: true; the input reads as it did. -/
def fnExactDerivableClausesUptoRow : OpenClaim := { program := "ytcpflbfcglcjfaa", sum := "bbec941762d00d7dbd4cd9a2c7a696a41c6ab3ddb9079b6f6f1dd849c9caf69c", func := "loop.example/g01080/laws.FnExactDerivableClauses", spec := "fnExactDerivableClauses", unfollowed := true, recurses := true, apart := false, narrowed := true }
def FnExactDerivableClausesUptoSaid : Prop := fnExactDerivableClausesUptoRow.holds Try.pinned (OpenSpec.upto fnExactDerivableClausesSpec)

/-- 'laws.FnExactRoundsAt', WHERE WHAT IT READS IS OF BULK AT MOST 1048576: true; the input reads as it did. -/
def fnExactRoundsAtUptoRow : OpenClaim := { program := "ytcpflbfcglcjfaa", sum := "bbec941762d00d7dbd4cd9a2c7a696a41c6ab3ddb9079b6f6f1dd849c9caf69c", func := "loop.example/g01080/laws.FnExactRoundsAt", spec := "fnExactRoundsAt", unfollowed := true, recurses := true, apart := false, narrowed := true }
def FnExactRoundsAtUptoSaid : Prop := fnExactRoundsAtUptoRow.holds Try.pinned (OpenSpec.upto fnExactRoundsAtSpec)

/-- 'laws.FnExactSourceOf', WHERE WHAT IT READS IS OF BULK AT MOST 1048576: true; the input reads as it did. -/
def fnExactSourceOfUptoRow : OpenClaim := { program := "ytcpflbfcglcjfaa", sum := "bbec941762d00d7dbd4cd9a2c7a696a41c6ab3ddb9079b6f6f1dd849c9caf69c", func := "loop.example/g01080/laws.FnExactSourceOf", spec := "fnExactSourceOf", unfollowed := true, recurses := true, apart := false, narrowed := true }
def FnExactSourceOfUptoSaid : Prop := fnExactSourceOfUptoRow.holds Try.pinned (OpenSpec.upto fnExactSourceOfSpec)

/-- 'laws.FnExactMinimalClosure', WHERE WHAT IT READS IS OF BULK AT MOST 1048576: true; the input reads as it did. -/
def fnExactMinimalClosureUptoRow : OpenClaim := { program := "ytcpflbfcglcjfaa", sum := "bbec941762d00d7dbd4cd9a2c7a696a41c6ab3ddb9079b6f6f1dd849c9caf69c", func := "loop.example/g01080/laws.FnExactMinimalClosure", spec := "fnExactMinimalClosure", unfollowed := true, recurses := true, apart := false, narrowed := true }
def FnExactMinimalClosureUptoSaid : Prop := fnExactMinimalClosureUptoRow.holds Try.pinned (OpenSpec.upto fnExactMinimalClosureSpec)

/-- 'laws.FnExactPrimeImplicates', WHERE WHAT IT READS IS OF BULK AT MOST 1048576: true; the input reads as it did. -/
def fnExactPrimeImplicatesUptoRow : OpenClaim := { program := "ytcpflbfcglcjfaa", sum := "bbec941762d00d7dbd4cd9a2c7a696a41c6ab3ddb9079b6f6f1dd849c9caf69c", func := "loop.example/g01080/laws.FnExactPrimeImplicates", spec := "fnExactPrimeImplicates", unfollowed := true, recurses := true, apart := false, narrowed := true }
def FnExactPrimeImplicatesUptoSaid : Prop := fnExactPrimeImplicatesUptoRow.holds Try.pinned (OpenSpec.upto fnExactPrimeImplicatesSpec)

/-- 'laws.FnClausePolys', WHERE WHAT IT READS IS OF BULK AT MOST 1048576: true; the input reads as it did. -/
def fnClausePolysUptoRow : OpenClaim := { program := "ytcpflbfcglcjfaa", sum := "bbec941762d00d7dbd4cd9a2c7a696a41c6ab3ddb9079b6f6f1dd849c9caf69c", func := "loop.example/g01080/laws.FnClausePolys", spec := "fnClausePolys", unfollowed := true, recurses := true, apart := false, narrowed := true }
def FnClausePolysUptoSaid : Prop := fnClausePolysUptoRow.holds Try.pinned (OpenSpec.upto fnClausePolysSpec)

/-- 'laws.FnClauses', WHERE WHAT IT READS IS OF BULK AT MOST 1048576: true; the input reads as it did. -/
def fnClausesUptoRow : OpenClaim := { program := "ytcpflbfcglcjfaa", sum := "bbec941762d00d7dbd4cd9a2c7a696a41c6ab3ddb9079b6f6f1dd849c9caf69c", func := "loop.example/g01080/laws.FnClauses", spec := "fnClauses", unfollowed := true, recurses := true, apart := false, narrowed := true }
def FnClausesUptoSaid : Prop := fnClausesUptoRow.holds Try.pinned (OpenSpec.upto fnClausesSpec)

end Rows
end Go.Proofs.Ytcpflbfcglcjfaa
