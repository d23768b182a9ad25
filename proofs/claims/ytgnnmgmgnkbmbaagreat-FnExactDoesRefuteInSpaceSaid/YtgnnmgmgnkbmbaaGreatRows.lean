/-
  No cell of these rows narrows 'for every input' (looked for: loops, veiled, ifaces, maps, wideKeys, modest, calm, conditions, laid).
  DERIVED. THE GIVEN ROWS OF THIS SEAT. 5 by the template 'for every input the law returns true; each argument reads behind the call as it read before'; 0 by the template 'total and deterministic' (their statements: YtgnnmgmgnkbmbaaGreatTotals.lean).
  GIVEN WITH THE SEED: the statements are not yours to turn. If you find one false, say at which input.
  Laid BY PROGRAM, IN A SANDBOX (cutbox-rows.mjs): the forced cells as the released guide's own fill.sh prints them over the translation d6c0f11641278e5b… (all of the seat's roots in one cut). By AI agents, Wed Nov 11 2026. No macro, syntax, notation, axiom, sorry.
-/
import Derived.Test.YtgnnmgmgnkbmbaaGreatChecked
import GoSem.Claim
import GoSem.ClaimJoined
import GoSem.ClaimMapViews
import Derived.JoinedTies
import Derived.KernelRfl
namespace Go.Proofs.YtgnnmgmgnkbmbaaGreat
/- THE CELL 'sum', in the pinned program and in every row, IS THE sha256 OF THE DUMP (.gsa) THAT YtgnnmgmgnkbmbaaGreatProg.lean LOADS. Nothing in Lean hashes anything: it is a label: what it is worth is what the hold of that sum in a sandbox is worth. -/
noncomputable def Tryz.pinned : Pinned := { name := "ytgnnmgmgnkbmbaagreat", sum := "d6c0f11641278e5b3b288b7c0a0e2a02ed454ced9e6f9b946a5c98e97a44ab7f", checked := Tryz.checked }
namespace Rows
def none {H : Type} : Left H := { results := [], args := [] }

/-- 'laws.FnExactIsSpaceRun': WHATEVER THE INPUT: true; the input reads as it did. -/
def fnExactIsSpaceRunSpec : ChangeSpec := { name := "fnExactIsSpaceRun", fn := fun _ => fun
  | [d1, d2] => { results := [.lit (.bool true)], args := [d1, d2] }
  | _ => none }
def fnExactIsSpaceRunRow : OpenClaim := { program := "ytgnnmgmgnkbmbaagreat", sum := "d6c0f11641278e5b3b288b7c0a0e2a02ed454ced9e6f9b946a5c98e97a44ab7f", func := "loop.example/g01080/laws.FnExactIsSpaceRun", spec := "fnExactIsSpaceRun", unfollowed := true, recurses := true, apart := false }
def FnExactIsSpaceRunSaid : Prop := fnExactIsSpaceRunRow.holds Tryz.pinned (OpenSpec.ofChange fnExactIsSpaceRunSpec)

/-- ITS FALSE NEIGHBOUR: 'it returns false'. Refute it at one input. -/
def fnExactIsSpaceRunWrong : ChangeSpec := { name := "fnExactIsSpaceRun", fn := fun _ => fun
  | [d1, d2] => { results := [.lit (.bool false)], args := [d1, d2] }
  | _ => none }
def FnExactIsSpaceRunWrongFalsely : Prop := fnExactIsSpaceRunRow.holds Tryz.pinned (OpenSpec.ofChange fnExactIsSpaceRunWrong)

/-- 'laws.FnExactSpaceOfRun': WHATEVER THE INPUT: true; the input reads as it did. -/
def fnExactSpaceOfRunSpec : ChangeSpec := { name := "fnExactSpaceOfRun", fn := fun _ => fun
  | [d1, d2] => { results := [.lit (.bool true)], args := [d1, d2] }
  | _ => none }
def fnExactSpaceOfRunRow : OpenClaim := { program := "ytgnnmgmgnkbmbaagreat", sum := "d6c0f11641278e5b3b288b7c0a0e2a02ed454ced9e6f9b946a5c98e97a44ab7f", func := "loop.example/g01080/laws.FnExactSpaceOfRun", spec := "fnExactSpaceOfRun", unfollowed := true, recurses := true, apart := false }
def FnExactSpaceOfRunSaid : Prop := fnExactSpaceOfRunRow.holds Tryz.pinned (OpenSpec.ofChange fnExactSpaceOfRunSpec)

/-- ITS FALSE NEIGHBOUR: 'it returns false'. Refute it at one input. -/
def fnExactSpaceOfRunWrong : ChangeSpec := { name := "fnExactSpaceOfRun", fn := fun _ => fun
  | [d1, d2] => { results := [.lit (.bool false)], args := [d1, d2] }
  | _ => none }
def FnExactSpaceOfRunWrongFalsely : Prop := fnExactSpaceOfRunRow.holds Tryz.pinned (OpenSpec.ofChange fnExactSpaceOfRunWrong)

/-- 'laws.FnExactDoesRefuteInSpace': WHATEVER THE INPUT: true; the input reads as it did. -/
def fnExactDoesRefuteInSpaceSpec : ChangeSpec := { name := "fnExactDoesRefuteInSpace", fn := fun _ => fun
  | [d1, d2, d3] => { results := [.lit (.bool true)], args := [d1, d2, d3] }
  | _ => none }
def fnExactDoesRefuteInSpaceRow : OpenClaim := { program := "ytgnnmgmgnkbmbaagreat", sum := "d6c0f11641278e5b3b288b7c0a0e2a02ed454ced9e6f9b946a5c98e97a44ab7f", func := "loop.example/g01080/laws.FnExactDoesRefuteInSpace", spec := "fnExactDoesRefuteInSpace", unfollowed := true, recurses := true, apart := false }
def FnExactDoesRefuteInSpaceSaid : Prop := fnExactDoesRefuteInSpaceRow.holds Tryz.pinned (OpenSpec.ofChange fnExactDoesRefuteInSpaceSpec)

/-- ITS FALSE NEIGHBOUR: 'it returns false'. Refute it at one input. -/
def fnExactDoesRefuteInSpaceWrong : ChangeSpec := { name := "fnExactDoesRefuteInSpace", fn := fun _ => fun
  | [d1, d2, d3] => { results := [.lit (.bool false)], args := [d1, d2, d3] }
  | _ => none }
def FnExactDoesRefuteInSpaceWrongFalsely : Prop := fnExactDoesRefuteInSpaceRow.holds Tryz.pinned (OpenSpec.ofChange fnExactDoesRefuteInSpaceWrong)

/-- 'laws.FnExactNeededSteps': WHATEVER THE INPUT: true; the input reads as it did. -/
def fnExactNeededStepsSpec : ChangeSpec := { name := "fnExactNeededSteps", fn := fun _ => fun
  | [d1, d2] => { results := [.lit (.bool true)], args := [d1, d2] }
  | _ => none }
def fnExactNeededStepsRow : OpenClaim := { program := "ytgnnmgmgnkbmbaagreat", sum := "d6c0f11641278e5b3b288b7c0a0e2a02ed454ced9e6f9b946a5c98e97a44ab7f", func := "loop.example/g01080/laws.FnExactNeededSteps", spec := "fnExactNeededSteps", unfollowed := true, recurses := true, apart := false }
def FnExactNeededStepsSaid : Prop := fnExactNeededStepsRow.holds Tryz.pinned (OpenSpec.ofChange fnExactNeededStepsSpec)

/-- ITS FALSE NEIGHBOUR: 'it returns false'. Refute it at one input. -/
def fnExactNeededStepsWrong : ChangeSpec := { name := "fnExactNeededSteps", fn := fun _ => fun
  | [d1, d2] => { results := [.lit (.bool false)], args := [d1, d2] }
  | _ => none }
def FnExactNeededStepsWrongFalsely : Prop := fnExactNeededStepsRow.holds Tryz.pinned (OpenSpec.ofChange fnExactNeededStepsWrong)

/-- 'laws.FnExactAxiomCounts': WHATEVER THE INPUT: true; the input reads as it did. -/
def fnExactAxiomCountsSpec : ChangeSpec := { name := "fnExactAxiomCounts", fn := fun _ => fun
  | [d1, d2] => { results := [.lit (.bool true)], args := [d1, d2] }
  | _ => none }
def fnExactAxiomCountsRow : OpenClaim := { program := "ytgnnmgmgnkbmbaagreat", sum := "d6c0f11641278e5b3b288b7c0a0e2a02ed454ced9e6f9b946a5c98e97a44ab7f", func := "loop.example/g01080/laws.FnExactAxiomCounts", spec := "fnExactAxiomCounts", unfollowed := true, recurses := true, apart := false }
def FnExactAxiomCountsSaid : Prop := fnExactAxiomCountsRow.holds Tryz.pinned (OpenSpec.ofChange fnExactAxiomCountsSpec)

/-- ITS FALSE NEIGHBOUR: 'it returns false'. Refute it at one input. -/
def fnExactAxiomCountsWrong : ChangeSpec := { name := "fnExactAxiomCounts", fn := fun _ => fun
  | [d1, d2] => { results := [.lit (.bool false)], args := [d1, d2] }
  | _ => none }
def FnExactAxiomCountsWrongFalsely : Prop := fnExactAxiomCountsRow.holds Tryz.pinned (OpenSpec.ofChange fnExactAxiomCountsWrong)

/- THE SECOND FORM. 'bulk': how many values and letters a reading holds, each counted each time it is reached (what is shared counts as often as it is met; a slice's spare places count too). A statement '..UptoSaid' is the law's where the arguments, and the package variables that the reading takes, are together of bulk at most 1048576: NARROWER than '..Said'. Prove '..Said' where nothing that the law and all that it calls make is longer than what came in: it says more and counts as full. Else prove '..UptoSaid'. A law counts once. -/
mutual
def uptoBulk {H : Type} : DataW H → Nat
  | .lit (.string bytes) => bytes.length + 1
  | .lit _ => 1
  | .nil => 1
  | .ptr d => uptoBulk d + 1
  | .slice elems spare => uptoBulkAll elems + uptoBulkAll spare + 1
  | .agg parts => uptoBulkAll parts + 1
  | .iface _ d => uptoBulk d + 1
  | .map entries => uptoBulkEntries entries + 1
  | .held _ => 1
def uptoBulkAll {H : Type} : List (DataW H) → Nat
  | [] => 0
  | d :: r => uptoBulk d + uptoBulkAll r
def uptoBulkEntries {H : Type} : List (Lit × DataW H) → Nat
  | [] => 0
  | x :: r => uptoBulkEntry x + uptoBulkEntries r
def uptoBulkEntry {H : Type} : Lit × DataW H → Nat
  | (.string bytes, d) => bytes.length + uptoBulk d + 1
  | (_, d) => uptoBulk d + 1
 end
def uptoSmall : (H : Type) → List (DataW H) → Bool := fun _ ds => decide (uptoBulkAll ds ≤ 1048576)
def OpenSpec.upto (s : _root_.Go.ChangeSpec) : _root_.Go.OpenSpec := { _root_.Go.OpenSpec.ofChange s with cond := some uptoSmall }

/-- 'laws.FnExactIsSpaceRun', WHERE WHAT IT READS IS OF BULK AT MOST 1048576: true; the input reads as it did. -/
def fnExactIsSpaceRunUptoRow : OpenClaim := { program := "ytgnnmgmgnkbmbaagreat", sum := "d6c0f11641278e5b3b288b7c0a0e2a02ed454ced9e6f9b946a5c98e97a44ab7f", func := "loop.example/g01080/laws.FnExactIsSpaceRun", spec := "fnExactIsSpaceRun", unfollowed := true, recurses := true, apart := false, narrowed := true }
def FnExactIsSpaceRunUptoSaid : Prop := fnExactIsSpaceRunUptoRow.holds Tryz.pinned (OpenSpec.upto fnExactIsSpaceRunSpec)

/-- 'laws.FnExactSpaceOfRun', WHERE WHAT IT READS IS OF BULK AT MOST 1048576: true; the input reads as it did. -/
def fnExactSpaceOfRunUptoRow : OpenClaim := { program := "ytgnnmgmgnkbmbaagreat", sum := "d6c0f11641278e5b3b288b7c0a0e2a02ed454ced9e6f9b946a5c98e97a44ab7f", func := "loop.example/g01080/laws.FnExactSpaceOfRun", spec := "fnExactSpaceOfRun", unfollowed := true, recurses := true, apart := false, narrowed := true }
def FnExactSpaceOfRunUptoSaid : Prop := fnExactSpaceOfRunUptoRow.holds Tryz.pinned (OpenSpec.upto fnExactSpaceOfRunSpec)

/-- 'laws.FnExactDoesRefuteInSpace', WHERE WHAT IT READS IS OF BULK AT MOST 1048576: true; the input reads as it did. -/
def fnExactDoesRefuteInSpaceUptoRow : OpenClaim := { program := "ytgnnmgmgnkbmbaagreat", sum := "d6c0f11641278e5b3b288b7c0a0e2a02ed454ced9e6f9b946a5c98e97a44ab7f", func := "loop.example/g01080/laws.FnExactDoesRefuteInSpace", spec := "fnExactDoesRefuteInSpace", unfollowed := true, recurses := true, apart := false, narrowed := true }
def FnExactDoesRefuteInSpaceUptoSaid : Prop := fnExactDoesRefuteInSpaceUptoRow.holds Tryz.pinned (OpenSpec.upto fnExactDoesRefuteInSpaceSpec)

/-- 'laws.FnExactNeededSteps', WHERE WHAT IT READS IS OF BULK AT MOST 1048576: true; the input reads as it did. -/
def fnExactNeededStepsUptoRow : OpenClaim := { program := "ytgnnmgmgnkbmbaagreat", sum := "d6c0f11641278e5b3b288b7c0a0e2a02ed454ced9e6f9b946a5c98e97a44ab7f", func := "loop.example/g01080/laws.FnExactNeededSteps", spec := "fnExactNeededSteps", unfollowed := true, recurses := true, apart := false, narrowed := true }
def FnExactNeededStepsUptoSaid : Prop := fnExactNeededStepsUptoRow.holds Tryz.pinned (OpenSpec.upto fnExactNeededStepsSpec)

/-- 'laws.FnExactAxiomCounts', WHERE WHAT IT READS IS OF BULK AT MOST 1048576: true; the input reads as it did. -/
def fnExactAxiomCountsUptoRow : OpenClaim := { program := "ytgnnmgmgnkbmbaagreat", sum := "d6c0f11641278e5b3b288b7c0a0e2a02ed454ced9e6f9b946a5c98e97a44ab7f", func := "loop.example/g01080/laws.FnExactAxiomCounts", spec := "fnExactAxiomCounts", unfollowed := true, recurses := true, apart := false, narrowed := true }
def FnExactAxiomCountsUptoSaid : Prop := fnExactAxiomCountsUptoRow.holds Tryz.pinned (OpenSpec.upto fnExactAxiomCountsSpec)

end Rows
end Go.Proofs.YtgnnmgmgnkbmbaaGreat
