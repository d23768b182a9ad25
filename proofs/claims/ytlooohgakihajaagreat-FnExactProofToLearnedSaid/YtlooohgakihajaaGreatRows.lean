/-
  No cell of these rows narrows 'for every input' (looked for: loops, veiled, ifaces, maps, wideKeys, modest, calm, conditions, laid).
  DERIVED. THE GIVEN ROWS OF THIS SEAT. 8 by the template 'for every input the law returns true; each argument reads behind the call as it read before'; 0 by the template 'total and deterministic' (their statements: YtlooohgakihajaaGreatTotals.lean).
  GIVEN WITH THE SEED: the statements are not yours to turn. If you find one false, say at which input.
  Laid BY PROGRAM, IN A SANDBOX (cutbox-rows.mjs): the forced cells as the released guide's own fill.sh prints them over the translation bbc9bb54664a25e9… (all of the seat's roots in one cut). By AI agents, Wed Nov 11 2026. No macro, syntax, notation, axiom, sorry.
-/
import Derived.Test.YtlooohgakihajaaGreatChecked
import GoSem.Claim
import GoSem.ClaimJoined
import GoSem.ClaimMapViews
import Derived.JoinedTies
import Derived.KernelRfl
namespace Go.Proofs.YtlooohgakihajaaGreat
/- THE CELL 'sum', in the pinned program and in every row, IS THE sha256 OF THE DUMP (.gsa) THAT YtlooohgakihajaaGreatProg.lean LOADS. Nothing in Lean hashes anything: it is a label: what it is worth is what the hold of that sum in a sandbox is worth. -/
noncomputable def Tryz.pinned : Pinned := { name := "ytlooohgakihajaagreat", sum := "bbc9bb54664a25e95d39984b833ecd4d80dc48cc29d8bd2d6c53376c6cec53b5", checked := Tryz.checked }
namespace Rows
def none {H : Type} : Left H := { results := [], args := [] }

/-- 'laws.FnExactStepUses': WHATEVER THE INPUT: true; the input reads as it did. -/
def fnExactStepUsesSpec : ChangeSpec := { name := "fnExactStepUses", fn := fun _ => fun
  | [d1, d2] => { results := [.lit (.bool true)], args := [d1, d2] }
  | _ => none }
def fnExactStepUsesRow : OpenClaim := { program := "ytlooohgakihajaagreat", sum := "bbc9bb54664a25e95d39984b833ecd4d80dc48cc29d8bd2d6c53376c6cec53b5", func := "loop.example/g01080/laws.FnExactStepUses", spec := "fnExactStepUses", unfollowed := true, recurses := true, apart := false }
def FnExactStepUsesSaid : Prop := fnExactStepUsesRow.holds Tryz.pinned (OpenSpec.ofChange fnExactStepUsesSpec)

/-- ITS FALSE NEIGHBOUR: 'it returns false'. Refute it at one input. -/
def fnExactStepUsesWrong : ChangeSpec := { name := "fnExactStepUses", fn := fun _ => fun
  | [d1, d2] => { results := [.lit (.bool false)], args := [d1, d2] }
  | _ => none }
def FnExactStepUsesWrongFalsely : Prop := fnExactStepUsesRow.holds Tryz.pinned (OpenSpec.ofChange fnExactStepUsesWrong)

/-- 'laws.FnExactStepDepths': WHATEVER THE INPUT: true; the input reads as it did. -/
def fnExactStepDepthsSpec : ChangeSpec := { name := "fnExactStepDepths", fn := fun _ => fun
  | [d1, d2] => { results := [.lit (.bool true)], args := [d1, d2] }
  | _ => none }
def fnExactStepDepthsRow : OpenClaim := { program := "ytlooohgakihajaagreat", sum := "bbc9bb54664a25e95d39984b833ecd4d80dc48cc29d8bd2d6c53376c6cec53b5", func := "loop.example/g01080/laws.FnExactStepDepths", spec := "fnExactStepDepths", unfollowed := true, recurses := true, apart := false }
def FnExactStepDepthsSaid : Prop := fnExactStepDepthsRow.holds Tryz.pinned (OpenSpec.ofChange fnExactStepDepthsSpec)

/-- ITS FALSE NEIGHBOUR: 'it returns false'. Refute it at one input. -/
def fnExactStepDepthsWrong : ChangeSpec := { name := "fnExactStepDepths", fn := fun _ => fun
  | [d1, d2] => { results := [.lit (.bool false)], args := [d1, d2] }
  | _ => none }
def FnExactStepDepthsWrongFalsely : Prop := fnExactStepDepthsRow.holds Tryz.pinned (OpenSpec.ofChange fnExactStepDepthsWrong)

/-- 'laws.FnExactStepLeaves': WHATEVER THE INPUT: true; the input reads as it did. -/
def fnExactStepLeavesSpec : ChangeSpec := { name := "fnExactStepLeaves", fn := fun _ => fun
  | [d1, d2] => { results := [.lit (.bool true)], args := [d1, d2] }
  | _ => none }
def fnExactStepLeavesRow : OpenClaim := { program := "ytlooohgakihajaagreat", sum := "bbc9bb54664a25e95d39984b833ecd4d80dc48cc29d8bd2d6c53376c6cec53b5", func := "loop.example/g01080/laws.FnExactStepLeaves", spec := "fnExactStepLeaves", unfollowed := true, recurses := true, apart := false }
def FnExactStepLeavesSaid : Prop := fnExactStepLeavesRow.holds Tryz.pinned (OpenSpec.ofChange fnExactStepLeavesSpec)

/-- ITS FALSE NEIGHBOUR: 'it returns false'. Refute it at one input. -/
def fnExactStepLeavesWrong : ChangeSpec := { name := "fnExactStepLeaves", fn := fun _ => fun
  | [d1, d2] => { results := [.lit (.bool false)], args := [d1, d2] }
  | _ => none }
def FnExactStepLeavesWrongFalsely : Prop := fnExactStepLeavesRow.holds Tryz.pinned (OpenSpec.ofChange fnExactStepLeavesWrong)

/-- 'laws.FnExactAxiomCounts': WHATEVER THE INPUT: true; the input reads as it did. -/
def fnExactAxiomCountsSpec : ChangeSpec := { name := "fnExactAxiomCounts", fn := fun _ => fun
  | [d1, d2] => { results := [.lit (.bool true)], args := [d1, d2] }
  | _ => none }
def fnExactAxiomCountsRow : OpenClaim := { program := "ytlooohgakihajaagreat", sum := "bbc9bb54664a25e95d39984b833ecd4d80dc48cc29d8bd2d6c53376c6cec53b5", func := "loop.example/g01080/laws.FnExactAxiomCounts", spec := "fnExactAxiomCounts", unfollowed := true, recurses := true, apart := false }
def FnExactAxiomCountsSaid : Prop := fnExactAxiomCountsRow.holds Tryz.pinned (OpenSpec.ofChange fnExactAxiomCountsSpec)

/-- ITS FALSE NEIGHBOUR: 'it returns false'. Refute it at one input. -/
def fnExactAxiomCountsWrong : ChangeSpec := { name := "fnExactAxiomCounts", fn := fun _ => fun
  | [d1, d2] => { results := [.lit (.bool false)], args := [d1, d2] }
  | _ => none }
def FnExactAxiomCountsWrongFalsely : Prop := fnExactAxiomCountsRow.holds Tryz.pinned (OpenSpec.ofChange fnExactAxiomCountsWrong)

/-- 'laws.FnExactNeededSteps': WHATEVER THE INPUT: true; the input reads as it did. -/
def fnExactNeededStepsSpec : ChangeSpec := { name := "fnExactNeededSteps", fn := fun _ => fun
  | [d1, d2] => { results := [.lit (.bool true)], args := [d1, d2] }
  | _ => none }
def fnExactNeededStepsRow : OpenClaim := { program := "ytlooohgakihajaagreat", sum := "bbc9bb54664a25e95d39984b833ecd4d80dc48cc29d8bd2d6c53376c6cec53b5", func := "loop.example/g01080/laws.FnExactNeededSteps", spec := "fnExactNeededSteps", unfollowed := true, recurses := true, apart := false }
def FnExactNeededStepsSaid : Prop := fnExactNeededStepsRow.holds Tryz.pinned (OpenSpec.ofChange fnExactNeededStepsSpec)

/-- ITS FALSE NEIGHBOUR: 'it returns false'. Refute it at one input. -/
def fnExactNeededStepsWrong : ChangeSpec := { name := "fnExactNeededSteps", fn := fun _ => fun
  | [d1, d2] => { results := [.lit (.bool false)], args := [d1, d2] }
  | _ => none }
def FnExactNeededStepsWrongFalsely : Prop := fnExactNeededStepsRow.holds Tryz.pinned (OpenSpec.ofChange fnExactNeededStepsWrong)

/-- 'laws.FnExactProofToLearned': WHATEVER THE INPUT: true; the input reads as it did. -/
def fnExactProofToLearnedSpec : ChangeSpec := { name := "fnExactProofToLearned", fn := fun _ => fun
  | [d1, d2] => { results := [.lit (.bool true)], args := [d1, d2] }
  | _ => none }
def fnExactProofToLearnedRow : OpenClaim := { program := "ytlooohgakihajaagreat", sum := "bbc9bb54664a25e95d39984b833ecd4d80dc48cc29d8bd2d6c53376c6cec53b5", func := "loop.example/g01080/laws.FnExactProofToLearned", spec := "fnExactProofToLearned", unfollowed := true, recurses := true, apart := false }
def FnExactProofToLearnedSaid : Prop := fnExactProofToLearnedRow.holds Tryz.pinned (OpenSpec.ofChange fnExactProofToLearnedSpec)

/-- ITS FALSE NEIGHBOUR: 'it returns false'. Refute it at one input. -/
def fnExactProofToLearnedWrong : ChangeSpec := { name := "fnExactProofToLearned", fn := fun _ => fun
  | [d1, d2] => { results := [.lit (.bool false)], args := [d1, d2] }
  | _ => none }
def FnExactProofToLearnedWrongFalsely : Prop := fnExactProofToLearnedRow.holds Tryz.pinned (OpenSpec.ofChange fnExactProofToLearnedWrong)

/-- 'laws.FnExactMergeEqual': WHATEVER THE INPUT: true; the input reads as it did. -/
def fnExactMergeEqualSpec : ChangeSpec := { name := "fnExactMergeEqual", fn := fun _ => fun
  | [d1, d2] => { results := [.lit (.bool true)], args := [d1, d2] }
  | _ => none }
def fnExactMergeEqualRow : OpenClaim := { program := "ytlooohgakihajaagreat", sum := "bbc9bb54664a25e95d39984b833ecd4d80dc48cc29d8bd2d6c53376c6cec53b5", func := "loop.example/g01080/laws.FnExactMergeEqual", spec := "fnExactMergeEqual", unfollowed := true, recurses := true, apart := false }
def FnExactMergeEqualSaid : Prop := fnExactMergeEqualRow.holds Tryz.pinned (OpenSpec.ofChange fnExactMergeEqualSpec)

/-- ITS FALSE NEIGHBOUR: 'it returns false'. Refute it at one input. -/
def fnExactMergeEqualWrong : ChangeSpec := { name := "fnExactMergeEqual", fn := fun _ => fun
  | [d1, d2] => { results := [.lit (.bool false)], args := [d1, d2] }
  | _ => none }
def FnExactMergeEqualWrongFalsely : Prop := fnExactMergeEqualRow.holds Tryz.pinned (OpenSpec.ofChange fnExactMergeEqualWrong)

/-- 'laws.FnExactIsSpaceRun': WHATEVER THE INPUT: true; the input reads as it did. -/
def fnExactIsSpaceRunSpec : ChangeSpec := { name := "fnExactIsSpaceRun", fn := fun _ => fun
  | [d1, d2] => { results := [.lit (.bool true)], args := [d1, d2] }
  | _ => none }
def fnExactIsSpaceRunRow : OpenClaim := { program := "ytlooohgakihajaagreat", sum := "bbc9bb54664a25e95d39984b833ecd4d80dc48cc29d8bd2d6c53376c6cec53b5", func := "loop.example/g01080/laws.FnExactIsSpaceRun", spec := "fnExactIsSpaceRun", unfollowed := true, recurses := true, apart := false }
def FnExactIsSpaceRunSaid : Prop := fnExactIsSpaceRunRow.holds Tryz.pinned (OpenSpec.ofChange fnExactIsSpaceRunSpec)

/-- ITS FALSE NEIGHBOUR: 'it returns false'. Refute it at one input. -/
def fnExactIsSpaceRunWrong : ChangeSpec := { name := "fnExactIsSpaceRun", fn := fun _ => fun
  | [d1, d2] => { results := [.lit (.bool false)], args := [d1, d2] }
  | _ => none }
def FnExactIsSpaceRunWrongFalsely : Prop := fnExactIsSpaceRunRow.holds Tryz.pinned (OpenSpec.ofChange fnExactIsSpaceRunWrong)

/- THE SECOND FORM. 'bulk': how many values and letters a reading holds, each counted each time it is reached (what is shared counts as often as it is met; a slice's spare places count too). A statement '..UptoSaid' is the law's where the arguments, and the package variables that the reading takes, are together of bulk at most 1048576: NARROWER than '..Said'. Prove '..Said' where nothing that the law and all that it calls make is longer than what came in: it says more and counts as full. Else prove '..UptoSaid'. A law counts once. -/
mutual
def uptoBulk {H : Type} : DataW H → Nat
  | .lit (.string bytes) => bytes.length + 1
  | .lit _ => 1
  | .nil => 1
  | .ptr d => uptoBulk d + 1
  | .slice elems spare => uptoBulkAll elems + uptoBulkAll spare + 1
  | .agg parts => uptoBulkAll parts + 1
  | .iface _ d => uptoBulk d + 1
  | .map entries => uptoBulkEntries entries + 1
  | .held _ => 1
def uptoBulkAll {H : Type} : List (DataW H) → Nat
  | [] => 0
  | d :: r => uptoBulk d + uptoBulkAll r
def uptoBulkEntries {H : Type} : List (Lit × DataW H) → Nat
  | [] => 0
  | x :: r => uptoBulkEntry x + uptoBulkEntries r
def uptoBulkEntry {H : Type} : Lit × DataW H → Nat
  | (.string bytes, d) => bytes.length + uptoBulk d + 1
  | (_, d) => uptoBulk d + 1
 end
def uptoSmall : (H : Type) → List (DataW H) → Bool := fun _ ds => decide (uptoBulkAll ds ≤ 1048576)
def OpenSpec.upto (s : _root_.Go.ChangeSpec) : _root_.Go.OpenSpec := { _root_.Go.OpenSpec.ofChange s with cond := some uptoSmall }

/-- 'laws.FnExactStepUses', WHERE WHAT IT READS IS OF BULK AT MOST 1048576: true; the input reads as it did. -/
def fnExactStepUsesUptoRow : OpenClaim := { program := "ytlooohgakihajaagreat", sum := "bbc9bb54664a25e95d39984b833ecd4d80dc48cc29d8bd2d6c53376c6cec53b5", func := "loop.example/g01080/laws.FnExactStepUses", spec := "fnExactStepUses", unfollowed := true, recurses := true, apart := false, narrowed := true }
def FnExactStepUsesUptoSaid : Prop := fnExactStepUsesUptoRow.holds Tryz.pinned (OpenSpec.upto fnExactStepUsesSpec)

/-- 'laws.FnExactStepDepths', WHERE WHAT IT READS IS OF BULK AT MOST 1048576: true; the input reads as it did. -/
def fnExactStepDepthsUptoRow : OpenClaim := { program := "ytlooohgakihajaagreat", sum := "bbc9bb54664a25e95d39984b833ecd4d80dc48cc29d8bd2d6c53376c6cec53b5", func := "loop.example/g01080/laws.FnExactStepDepths", spec := "fnExactStepDepths", unfollowed := true, recurses := true, apart := false, narrowed := true }
def FnExactStepDepthsUptoSaid : Prop := fnExactStepDepthsUptoRow.holds Tryz.pinned (OpenSpec.upto fnExactStepDepthsSpec)

/-- 'laws.FnExactStepLeaves', WHERE WHAT IT READS IS OF BULK AT MOST 1048576: true; the input reads as it did. -/
def fnExactStepLeavesUptoRow : OpenClaim := { program := "ytlooohgakihajaagreat", sum := "bbc9bb54664a25e95d39984b833ecd4d80dc48cc29d8bd2d6c53376c6cec53b5", func := "loop.example/g01080/laws.FnExactStepLeaves", spec := "fnExactStepLeaves", unfollowed := true, recurses := true, apart := false, narrowed := true }
def FnExactStepLeavesUptoSaid : Prop := fnExactStepLeavesUptoRow.holds Tryz.pinned (OpenSpec.upto fnExactStepLeavesSpec)

/-- 'laws.FnExactAxiomCounts', WHERE WHAT IT READS IS OF BULK AT MOST 1048576: true; the input reads as it did. -/
def fnExactAxiomCountsUptoRow : OpenClaim := { program := "ytlooohgakihajaagreat", sum := "bbc9bb54664a25e95d39984b833ecd4d80dc48cc29d8bd2d6c53376c6cec53b5", func := "loop.example/g01080/laws.FnExactAxiomCounts", spec := "fnExactAxiomCounts", unfollowed := true, recurses := true, apart := false, narrowed := true }
def FnExactAxiomCountsUptoSaid : Prop := fnExactAxiomCountsUptoRow.holds Tryz.pinned (OpenSpec.upto fnExactAxiomCountsSpec)

/-- 'laws.FnExactNeededSteps', WHERE WHAT IT READS IS OF BULK AT MOST 1048576: true; the input reads as it did. -/
def fnExactNeededStepsUptoRow : OpenClaim := { program := "ytlooohgakihajaagreat", sum := "bbc9bb54664a25e95d39984b833ecd4d80dc48cc29d8bd2d6c53376c6cec53b5", func := "loop.example/g01080/laws.FnExactNeededSteps", spec := "fnExactNeededSteps", unfollowed := true, recurses := true, apart := false, narrowed := true }
def FnExactNeededStepsUptoSaid : Prop := fnExactNeededStepsUptoRow.holds Tryz.pinned (OpenSpec.upto fnExactNeededStepsSpec)

/-- 'laws.FnExactProofToLearned', WHERE WHAT IT READS IS OF BULK AT MOST 1048576: true; the input reads as it did. -/
def fnExactProofToLearnedUptoRow : OpenClaim := { program := "ytlooohgakihajaagreat", sum := "bbc9bb54664a25e95d39984b833ecd4d80dc48cc29d8bd2d6c53376c6cec53b5", func := "loop.example/g01080/laws.FnExactProofToLearned", spec := "fnExactProofToLearned", unfollowed := true, recurses := true, apart := false, narrowed := true }
def FnExactProofToLearnedUptoSaid : Prop := fnExactProofToLearnedUptoRow.holds Tryz.pinned (OpenSpec.upto fnExactProofToLearnedSpec)

/-- 'laws.FnExactMergeEqual', WHERE WHAT IT READS IS OF BULK AT MOST 1048576: true; the input reads as it did. -/
def fnExactMergeEqualUptoRow : OpenClaim := { program := "ytlooohgakihajaagreat", sum := "bbc9bb54664a25e95d39984b833ecd4d80dc48cc29d8bd2d6c53376c6cec53b5", func := "loop.example/g01080/laws.FnExactMergeEqual", spec := "fnExactMergeEqual", unfollowed := true, recurses := true, apart := false, narrowed := true }
def FnExactMergeEqualUptoSaid : Prop := fnExactMergeEqualUptoRow.holds Tryz.pinned (OpenSpec.upto fnExactMergeEqualSpec)

/-- 'laws.FnExactIsSpaceRun', WHERE WHAT IT READS IS OF BULK AT MOST 1048576: true; the input reads as it did. -/
def fnExactIsSpaceRunUptoRow : OpenClaim := { program := "ytlooohgakihajaagreat", sum := "bbc9bb54664a25e95d39984b833ecd4d80dc48cc29d8bd2d6c53376c6cec53b5", func := "loop.example/g01080/laws.FnExactIsSpaceRun", spec := "fnExactIsSpaceRun", unfollowed := true, recurses := true, apart := false, narrowed := true }
def FnExactIsSpaceRunUptoSaid : Prop := fnExactIsSpaceRunUptoRow.holds Tryz.pinned (OpenSpec.upto fnExactIsSpaceRunSpec)

end Rows
end Go.Proofs.YtlooohgakihajaaGreat
