/-
  No cell of these rows narrows 'for every input' (looked for: loops, veiled, ifaces, maps, wideKeys, modest, calm, conditions, laid).
  DERIVED. THE GIVEN ROWS OF THIS SEAT. 3 by the template 'for every input the law returns true; each argument reads behind the call as it read before'; 0 by the template 'total and deterministic' (their statements: YtailofgkfldepaaGreatTotals.lean).
  GIVEN WITH THE SEED: the statements are not yours to turn. If you find one false, say at which input.
  Laid BY PROGRAM, IN A SANDBOX (cutbox-rows.mjs): the forced cells as the released guide's own fill.sh prints them over the translation 3450c88c2d4d28cb… (all of the seat's roots in one cut). By AI agents, Wed Nov 11 2026. No macro, syntax, notation, axiom, sorry.
-/
import Derived.Test.YtailofgkfldepaaGreatChecked
import GoSem.Claim
import GoSem.ClaimJoined
import GoSem.ClaimMapViews
import Derived.JoinedTies
import Derived.KernelRfl
namespace Go.Proofs.YtailofgkfldepaaGreat
/- THE CELL 'sum', in the pinned program and in every row, IS THE sha256 OF THE DUMP (.gsa) THAT YtailofgkfldepaaGreatProg.lean LOADS. Nothing in Lean hashes anything: it is a label: what it is worth is what the hold of that sum in a sandbox is worth. -/
noncomputable def Tryz.pinned : Pinned := { name := "ytailofgkfldepaagreat", sum := "3450c88c2d4d28cbb031a00cb2015f60c1011cf71f96d2fed703db812db7b75b", checked := Tryz.checked }
namespace Rows
def none {H : Type} : Left H := { results := [], args := [] }

/-- 'laws.FnExactMergeEqual': WHATEVER THE INPUT: true; the input reads as it did. -/
def fnExactMergeEqualSpec : ChangeSpec := { name := "fnExactMergeEqual", fn := fun _ => fun
  | [d1, d2] => { results := [.lit (.bool true)], args := [d1, d2] }
  | _ => none }
def fnExactMergeEqualRow : OpenClaim := { program := "ytailofgkfldepaagreat", sum := "3450c88c2d4d28cbb031a00cb2015f60c1011cf71f96d2fed703db812db7b75b", func := "loop.example/g01080/laws.FnExactMergeEqual", spec := "fnExactMergeEqual", unfollowed := true, recurses := true, apart := false }
def FnExactMergeEqualSaid : Prop := fnExactMergeEqualRow.holds Tryz.pinned (OpenSpec.ofChange fnExactMergeEqualSpec)

/-- ITS FALSE NEIGHBOUR: 'it returns false'. Refute it at one input. -/
def fnExactMergeEqualWrong : ChangeSpec := { name := "fnExactMergeEqual", fn := fun _ => fun
  | [d1, d2] => { results := [.lit (.bool false)], args := [d1, d2] }
  | _ => none }
def FnExactMergeEqualWrongFalsely : Prop := fnExactMergeEqualRow.holds Tryz.pinned (OpenSpec.ofChange fnExactMergeEqualWrong)

/-- 'laws.FnExactAxiomCounts': WHATEVER THE INPUT: true; the input reads as it did. -/
def fnExactAxiomCountsSpec : ChangeSpec := { name := "fnExactAxiomCounts", fn := fun _ => fun
  | [d1, d2] => { results := [.lit (.bool true)], args := [d1, d2] }
  | _ => none }
def fnExactAxiomCountsRow : OpenClaim := { program := "ytailofgkfldepaagreat", sum := "3450c88c2d4d28cbb031a00cb2015f60c1011cf71f96d2fed703db812db7b75b", func := "loop.example/g01080/laws.FnExactAxiomCounts", spec := "fnExactAxiomCounts", unfollowed := true, recurses := true, apart := false }
def FnExactAxiomCountsSaid : Prop := fnExactAxiomCountsRow.holds Tryz.pinned (OpenSpec.ofChange fnExactAxiomCountsSpec)

/-- ITS FALSE NEIGHBOUR: 'it returns false'. Refute it at one input. -/
def fnExactAxiomCountsWrong : ChangeSpec := { name := "fnExactAxiomCounts", fn := fun _ => fun
  | [d1, d2] => { results := [.lit (.bool false)], args := [d1, d2] }
  | _ => none }
def FnExactAxiomCountsWrongFalsely : Prop := fnExactAxiomCountsRow.holds Tryz.pinned (OpenSpec.ofChange fnExactAxiomCountsWrong)

/-- 'laws.FnExactNeededSteps': WHATEVER THE INPUT: true; the input reads as it did. -/
def fnExactNeededStepsSpec : ChangeSpec := { name := "fnExactNeededSteps", fn := fun _ => fun
  | [d1, d2] => { results := [.lit (.bool true)], args := [d1, d2] }
  | _ => none }
def fnExactNeededStepsRow : OpenClaim := { program := "ytailofgkfldepaagreat", sum := "3450c88c2d4d28cbb031a00cb2015f60c1011cf71f96d2fed703db812db7b75b", func := "loop.example/g01080/laws.FnExactNeededSteps", spec := "fnExactNeededSteps", unfollowed := true, recurses := true, apart := false }
def FnExactNeededStepsSaid : Prop := fnExactNeededStepsRow.holds Tryz.pinned (OpenSpec.ofChange fnExactNeededStepsSpec)

/-- ITS FALSE NEIGHBOUR: 'it returns false'. Refute it at one input. -/
def fnExactNeededStepsWrong : ChangeSpec := { name := "fnExactNeededSteps", fn := fun _ => fun
  | [d1, d2] => { results := [.lit (.bool false)], args := [d1, d2] }
  | _ => none }
def FnExactNeededStepsWrongFalsely : Prop := fnExactNeededStepsRow.holds Tryz.pinned (OpenSpec.ofChange fnExactNeededStepsWrong)

/- THE SECOND FORM. 'bulk': how many values and letters a reading holds, each counted each time it is reached (what is shared counts as often as it is met; a slice's spare places count too). A statement '..UptoSaid' is the law's where the arguments, and the package variables that the reading takes, are together of bulk at most 1048576: NARROWER than '..Said'. Prove '..Said' where nothing that the law and all that it calls make is longer than what came in: it says more and counts as full. Else prove '..UptoSaid'. A law counts once. -/
mutual
def uptoBulk {H : Type} : DataW H → Nat
  | .lit (.string bytes) => bytes.length + 1
  | .lit _ => 1
  | .nil => 1
  | .ptr d => uptoBulk d + 1
  | .slice elems spare => uptoBulkAll elems + uptoBulkAll spare + 1
  | .agg parts => uptoBulkAll parts + 1
  | .iface _ d => uptoBulk d + 1
  | .map entries => uptoBulkEntries entries + 1
  | .held _ => 1
def uptoBulkAll {H : Type} : List (DataW H) → Nat
  | [] => 0
  | d :: r => uptoBulk d + uptoBulkAll r
def uptoBulkEntries {H : Type} : List (Lit × DataW H) → Nat
  | [] => 0
  | x :: r => uptoBulkEntry x + uptoBulkEntries r
def uptoBulkEntry {H : Type} : Lit × DataW H → Nat
  | (.string bytes, d) => bytes.length + uptoBulk d + 1
  | (_, d) => uptoBulk d + 1
 end
def uptoSmall : (H : Type) → List (DataW H) → Bool := fun _ ds => decide (uptoBulkAll ds ≤ 1048576)
def OpenSpec.upto (s : _root_.Go.ChangeSpec) : _root_.Go.OpenSpec := { _root_.Go.OpenSpec.ofChange s with cond := some uptoSmall }

/-- 'laws.FnExactMergeEqual', WHERE WHAT IT READS IS OF BULK AT MOST 1048576: true; the input reads as it did. -/
def fnExactMergeEqualUptoRow : OpenClaim := { program := "ytailofgkfldepaagreat", sum := "3450c88c2d4d28cbb031a00cb2015f60c1011cf71f96d2fed703db812db7b75b", func := "loop.example/g01080/laws.FnExactMergeEqual", spec := "fnExactMergeEqual", unfollowed := true, recurses := true, apart := false, narrowed := true }
def FnExactMergeEqualUptoSaid : Prop := fnExactMergeEqualUptoRow.holds Tryz.pinned (OpenSpec.upto fnExactMergeEqualSpec)

/-- 'laws.FnExactAxiomCounts', WHERE WHAT IT READS IS OF BULK AT MOST 1048576: true; the input reads as it did. -/
def fnExactAxiomCountsUptoRow : OpenClaim := { program := "ytailofgkfldepaagreat", sum := "3450c88c2d4d28cbb031a00cb2015f60c1011cf71f96d2fed703db812db7b75b", func := "loop.example/g01080/laws.FnExactAxiomCounts", spec := "fnExactAxiomCounts", unfollowed := true, recurses := true, apart := false, narrowed := true }
def FnExactAxiomCountsUptoSaid : Prop := fnExactAxiomCountsUptoRow.holds Tryz.pinned (OpenSpec.upto fnExactAxiomCountsSpec)

/-- 'laws.FnExactNeededSteps', WHERE WHAT IT READS IS OF BULK AT MOST 1048576: true; the input reads as it did. -/
def fnExactNeededStepsUptoRow : OpenClaim := { program := "ytailofgkfldepaagreat", sum := "3450c88c2d4d28cbb031a00cb2015f60c1011cf71f96d2fed703db812db7b75b", func := "loop.example/g01080/laws.FnExactNeededSteps", spec := "fnExactNeededSteps", unfollowed := true, recurses := true, apart := false, narrowed := true }
def FnExactNeededStepsUptoSaid : Prop := fnExactNeededStepsUptoRow.holds Tryz.pinned (OpenSpec.upto fnExactNeededStepsSpec)

end Rows
end Go.Proofs.YtailofgkfldepaaGreat
