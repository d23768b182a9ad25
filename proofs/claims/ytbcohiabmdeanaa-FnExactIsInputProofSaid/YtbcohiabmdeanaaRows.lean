/-
  No cell of these rows narrows 'for every input' (looked for: loops, veiled, ifaces, maps, wideKeys, modest, calm, conditions, laid).
  DERIVED. THE GIVEN ROWS OF THIS SEAT. 10 by the template 'for every input the law returns true; each argument reads behind the call as it read before'; 0 by the template 'total and deterministic' (their statements: YtbcohiabmdeanaaTotals.lean).
  GIVEN WITH THE SEED: the statements are not yours to turn. If you find one false, say at which input.
  Laid BY PROGRAM, IN A SANDBOX (cutbox-rows.mjs): the forced cells as the released guide's own fill.sh prints them over the translation 1212048fd0ee5c29… (all of the seat's roots in one cut). By AI agents, Wed Nov 11 2026. No macro, syntax, notation, axiom, sorry.
-/
import Derived.Test.YtbcohiabmdeanaaChecked
import GoSem.Claim
import GoSem.ClaimJoined
import GoSem.ClaimMapViews
import Derived.JoinedTies
import Derived.KernelRfl
namespace Go.Proofs.Ytbcohiabmdeanaa
/- THE CELL 'sum', in the pinned program and in every row, IS THE sha256 OF THE DUMP (.gsa) THAT YtbcohiabmdeanaaProg.lean LOADS. Nothing in Lean hashes anything: it is a label: what it is worth is what the hold of that sum in a sandbox is worth. -/
noncomputable def Try.pinned : Pinned := { name := "ytbcohiabmdeanaa", sum := "1212048fd0ee5c29b6c62835d26d6f8aa49f4a81d2ab25dd9522ac75e85365b7", checked := Try.checked }
namespace Rows
def none {H : Type} : Left H := { results := [], args := [] }

/-- 'laws.FnExactIsResStep': WHATEVER THE INPUT: true; the input reads as it did. -/
def fnExactIsResStepSpec : ChangeSpec := { name := "fnExactIsResStep", fn := fun _ => fun
  | [d1, d2, d3] => { results := [.lit (.bool true)], args := [d1, d2, d3] }
  | _ => none }
def fnExactIsResStepRow : OpenClaim := { program := "ytbcohiabmdeanaa", sum := "1212048fd0ee5c29b6c62835d26d6f8aa49f4a81d2ab25dd9522ac75e85365b7", func := "loop.example/g01080/laws.FnExactIsResStep", spec := "fnExactIsResStep", unfollowed := true, recurses := true, apart := false }
def FnExactIsResStepSaid : Prop := fnExactIsResStepRow.holds Try.pinned (OpenSpec.ofChange fnExactIsResStepSpec)

/-- ITS FALSE NEIGHBOUR: 'it returns false'. Refute it at one input. -/
def fnExactIsResStepWrong : ChangeSpec := { name := "fnExactIsResStep", fn := fun _ => fun
  | [d1, d2, d3] => { results := [.lit (.bool false)], args := [d1, d2, d3] }
  | _ => none }
def FnExactIsResStepWrongFalsely : Prop := fnExactIsResStepRow.holds Try.pinned (OpenSpec.ofChange fnExactIsResStepWrong)

/-- 'laws.FnExactIsDerivation': WHATEVER THE INPUT: true; the input reads as it did. -/
def fnExactIsDerivationSpec : ChangeSpec := { name := "fnExactIsDerivation", fn := fun _ => fun
  | [d1, d2] => { results := [.lit (.bool true)], args := [d1, d2] }
  | _ => none }
def fnExactIsDerivationRow : OpenClaim := { program := "ytbcohiabmdeanaa", sum := "1212048fd0ee5c29b6c62835d26d6f8aa49f4a81d2ab25dd9522ac75e85365b7", func := "loop.example/g01080/laws.FnExactIsDerivation", spec := "fnExactIsDerivation", unfollowed := true, recurses := true, apart := false }
def FnExactIsDerivationSaid : Prop := fnExactIsDerivationRow.holds Try.pinned (OpenSpec.ofChange fnExactIsDerivationSpec)

/-- ITS FALSE NEIGHBOUR: 'it returns false'. Refute it at one input. -/
def fnExactIsDerivationWrong : ChangeSpec := { name := "fnExactIsDerivation", fn := fun _ => fun
  | [d1, d2] => { results := [.lit (.bool false)], args := [d1, d2] }
  | _ => none }
def FnExactIsDerivationWrongFalsely : Prop := fnExactIsDerivationRow.holds Try.pinned (OpenSpec.ofChange fnExactIsDerivationWrong)

/-- 'laws.FnExactFirstWrongStep': WHATEVER THE INPUT: true; the input reads as it did. -/
def fnExactFirstWrongStepSpec : ChangeSpec := { name := "fnExactFirstWrongStep", fn := fun _ => fun
  | [d1, d2] => { results := [.lit (.bool true)], args := [d1, d2] }
  | _ => none }
def fnExactFirstWrongStepRow : OpenClaim := { program := "ytbcohiabmdeanaa", sum := "1212048fd0ee5c29b6c62835d26d6f8aa49f4a81d2ab25dd9522ac75e85365b7", func := "loop.example/g01080/laws.FnExactFirstWrongStep", spec := "fnExactFirstWrongStep", unfollowed := true, recurses := true, apart := false }
def FnExactFirstWrongStepSaid : Prop := fnExactFirstWrongStepRow.holds Try.pinned (OpenSpec.ofChange fnExactFirstWrongStepSpec)

/-- ITS FALSE NEIGHBOUR: 'it returns false'. Refute it at one input. -/
def fnExactFirstWrongStepWrong : ChangeSpec := { name := "fnExactFirstWrongStep", fn := fun _ => fun
  | [d1, d2] => { results := [.lit (.bool false)], args := [d1, d2] }
  | _ => none }
def FnExactFirstWrongStepWrongFalsely : Prop := fnExactFirstWrongStepRow.holds Try.pinned (OpenSpec.ofChange fnExactFirstWrongStepWrong)

/-- 'laws.FnExactIsRefutation': WHATEVER THE INPUT: true; the input reads as it did. -/
def fnExactIsRefutationSpec : ChangeSpec := { name := "fnExactIsRefutation", fn := fun _ => fun
  | [d1, d2] => { results := [.lit (.bool true)], args := [d1, d2] }
  | _ => none }
def fnExactIsRefutationRow : OpenClaim := { program := "ytbcohiabmdeanaa", sum := "1212048fd0ee5c29b6c62835d26d6f8aa49f4a81d2ab25dd9522ac75e85365b7", func := "loop.example/g01080/laws.FnExactIsRefutation", spec := "fnExactIsRefutation", unfollowed := true, recurses := true, apart := false }
def FnExactIsRefutationSaid : Prop := fnExactIsRefutationRow.holds Try.pinned (OpenSpec.ofChange fnExactIsRefutationSpec)

/-- ITS FALSE NEIGHBOUR: 'it returns false'. Refute it at one input. -/
def fnExactIsRefutationWrong : ChangeSpec := { name := "fnExactIsRefutation", fn := fun _ => fun
  | [d1, d2] => { results := [.lit (.bool false)], args := [d1, d2] }
  | _ => none }
def FnExactIsRefutationWrongFalsely : Prop := fnExactIsRefutationRow.holds Try.pinned (OpenSpec.ofChange fnExactIsRefutationWrong)

/-- 'laws.FnExactWidthOfProof': WHATEVER THE INPUT: true; the input reads as it did. -/
def fnExactWidthOfProofSpec : ChangeSpec := { name := "fnExactWidthOfProof", fn := fun _ => fun
  | [d1, d2] => { results := [.lit (.bool true)], args := [d1, d2] }
  | _ => none }
def fnExactWidthOfProofRow : OpenClaim := { program := "ytbcohiabmdeanaa", sum := "1212048fd0ee5c29b6c62835d26d6f8aa49f4a81d2ab25dd9522ac75e85365b7", func := "loop.example/g01080/laws.FnExactWidthOfProof", spec := "fnExactWidthOfProof", unfollowed := true, recurses := true, apart := false }
def FnExactWidthOfProofSaid : Prop := fnExactWidthOfProofRow.holds Try.pinned (OpenSpec.ofChange fnExactWidthOfProofSpec)

/-- ITS FALSE NEIGHBOUR: 'it returns false'. Refute it at one input. -/
def fnExactWidthOfProofWrong : ChangeSpec := { name := "fnExactWidthOfProof", fn := fun _ => fun
  | [d1, d2] => { results := [.lit (.bool false)], args := [d1, d2] }
  | _ => none }
def FnExactWidthOfProofWrongFalsely : Prop := fnExactWidthOfProofRow.holds Try.pinned (OpenSpec.ofChange fnExactWidthOfProofWrong)

/-- 'laws.FnExactIsUnitProof': WHATEVER THE INPUT: true; the input reads as it did. -/
def fnExactIsUnitProofSpec : ChangeSpec := { name := "fnExactIsUnitProof", fn := fun _ => fun
  | [d1, d2] => { results := [.lit (.bool true)], args := [d1, d2] }
  | _ => none }
def fnExactIsUnitProofRow : OpenClaim := { program := "ytbcohiabmdeanaa", sum := "1212048fd0ee5c29b6c62835d26d6f8aa49f4a81d2ab25dd9522ac75e85365b7", func := "loop.example/g01080/laws.FnExactIsUnitProof", spec := "fnExactIsUnitProof", unfollowed := true, recurses := true, apart := false }
def FnExactIsUnitProofSaid : Prop := fnExactIsUnitProofRow.holds Try.pinned (OpenSpec.ofChange fnExactIsUnitProofSpec)

/-- ITS FALSE NEIGHBOUR: 'it returns false'. Refute it at one input. -/
def fnExactIsUnitProofWrong : ChangeSpec := { name := "fnExactIsUnitProof", fn := fun _ => fun
  | [d1, d2] => { results := [.lit (.bool false)], args := [d1, d2] }
  | _ => none }
def FnExactIsUnitProofWrongFalsely : Prop := fnExactIsUnitProofRow.holds Try.pinned (OpenSpec.ofChange fnExactIsUnitProofWrong)

/-- 'laws.FnExactIsInputProof': WHATEVER THE INPUT: true; the input reads as it did. -/
def fnExactIsInputProofSpec : ChangeSpec := { name := "fnExactIsInputProof", fn := fun _ => fun
  | [d1, d2] => { results := [.lit (.bool true)], args := [d1, d2] }
  | _ => none }
def fnExactIsInputProofRow : OpenClaim := { program := "ytbcohiabmdeanaa", sum := "1212048fd0ee5c29b6c62835d26d6f8aa49f4a81d2ab25dd9522ac75e85365b7", func := "loop.example/g01080/laws.FnExactIsInputProof", spec := "fnExactIsInputProof", unfollowed := true, recurses := true, apart := false }
def FnExactIsInputProofSaid : Prop := fnExactIsInputProofRow.holds Try.pinned (OpenSpec.ofChange fnExactIsInputProofSpec)

/-- ITS FALSE NEIGHBOUR: 'it returns false'. Refute it at one input. -/
def fnExactIsInputProofWrong : ChangeSpec := { name := "fnExactIsInputProof", fn := fun _ => fun
  | [d1, d2] => { results := [.lit (.bool false)], args := [d1, d2] }
  | _ => none }
def FnExactIsInputProofWrongFalsely : Prop := fnExactIsInputProofRow.holds Try.pinned (OpenSpec.ofChange fnExactIsInputProofWrong)

/-- 'laws.FnExactIsTreeLike': WHATEVER THE INPUT: true; the input reads as it did. -/
def fnExactIsTreeLikeSpec : ChangeSpec := { name := "fnExactIsTreeLike", fn := fun _ => fun
  | [d1, d2] => { results := [.lit (.bool true)], args := [d1, d2] }
  | _ => none }
def fnExactIsTreeLikeRow : OpenClaim := { program := "ytbcohiabmdeanaa", sum := "1212048fd0ee5c29b6c62835d26d6f8aa49f4a81d2ab25dd9522ac75e85365b7", func := "loop.example/g01080/laws.FnExactIsTreeLike", spec := "fnExactIsTreeLike", unfollowed := true, recurses := true, apart := false }
def FnExactIsTreeLikeSaid : Prop := fnExactIsTreeLikeRow.holds Try.pinned (OpenSpec.ofChange fnExactIsTreeLikeSpec)

/-- ITS FALSE NEIGHBOUR: 'it returns false'. Refute it at one input. -/
def fnExactIsTreeLikeWrong : ChangeSpec := { name := "fnExactIsTreeLike", fn := fun _ => fun
  | [d1, d2] => { results := [.lit (.bool false)], args := [d1, d2] }
  | _ => none }
def FnExactIsTreeLikeWrongFalsely : Prop := fnExactIsTreeLikeRow.holds Try.pinned (OpenSpec.ofChange fnExactIsTreeLikeWrong)

/-- 'laws.FnExactPlaneProofBound': WHATEVER THE INPUT: true; the input reads as it did. -/
def fnExactPlaneProofBoundSpec : ChangeSpec := { name := "fnExactPlaneProofBound", fn := fun _ => fun
  | [d1, d2] => { results := [.lit (.bool true)], args := [d1, d2] }
  | _ => none }
def fnExactPlaneProofBoundRow : OpenClaim := { program := "ytbcohiabmdeanaa", sum := "1212048fd0ee5c29b6c62835d26d6f8aa49f4a81d2ab25dd9522ac75e85365b7", func := "loop.example/g01080/laws.FnExactPlaneProofBound", spec := "fnExactPlaneProofBound", unfollowed := true, recurses := true, apart := false }
def FnExactPlaneProofBoundSaid : Prop := fnExactPlaneProofBoundRow.holds Try.pinned (OpenSpec.ofChange fnExactPlaneProofBoundSpec)

/-- ITS FALSE NEIGHBOUR: 'it returns false'. Refute it at one input. -/
def fnExactPlaneProofBoundWrong : ChangeSpec := { name := "fnExactPlaneProofBound", fn := fun _ => fun
  | [d1, d2] => { results := [.lit (.bool false)], args := [d1, d2] }
  | _ => none }
def FnExactPlaneProofBoundWrongFalsely : Prop := fnExactPlaneProofBoundRow.holds Try.pinned (OpenSpec.ofChange fnExactPlaneProofBoundWrong)

/-- 'laws.FnExactIsBench': WHATEVER THE INPUT: true; the input reads as it did. -/
def fnExactIsBenchSpec : ChangeSpec := { name := "fnExactIsBench", fn := fun _ => fun
  | [d] => { results := [.lit (.bool true)], args := [d] }
  | _ => none }
def fnExactIsBenchRow : OpenClaim := { program := "ytbcohiabmdeanaa", sum := "1212048fd0ee5c29b6c62835d26d6f8aa49f4a81d2ab25dd9522ac75e85365b7", func := "loop.example/g01080/laws.FnExactIsBench", spec := "fnExactIsBench", unfollowed := true, recurses := true, apart := false }
def FnExactIsBenchSaid : Prop := fnExactIsBenchRow.holds Try.pinned (OpenSpec.ofChange fnExactIsBenchSpec)

/-- ITS FALSE NEIGHBOUR: 'it returns false'. Refute it at one input. -/
def fnExactIsBenchWrong : ChangeSpec := { name := "fnExactIsBench", fn := fun _ => fun
  | [d] => { results := [.lit (.bool false)], args := [d] }
  | _ => none }
def FnExactIsBenchWrongFalsely : Prop := fnExactIsBenchRow.holds Try.pinned (OpenSpec.ofChange fnExactIsBenchWrong)

/- THE SECOND FORM. 'bulk': how many values and letters a reading holds, each counted each time it is reached (what is shared counts as often as it is met; a slice's spare places count too). A statement '..UptoSaid' is the law's where the arguments, and the package variables that the reading takes, are together of bulk at most 1048576: NARROWER than '..Said'. Prove '..Said' where nothing that the law and all that it calls make is longer than what came in: it says more and counts as full. Else prove '..UptoSaid'. A law counts once. -/
mutual
def uptoBulk {H : Type} : DataW H → Nat
  | .lit (.string bytes) => bytes.length + 1
  | .lit _ => 1
  | .nil => 1
  | .ptr d => uptoBulk d + 1
  | .slice elems spare => uptoBulkAll elems + uptoBulkAll spare + 1
  | .agg parts => uptoBulkAll parts + 1
  | .iface _ d => uptoBulk d + 1
  | .map entries => uptoBulkEntries entries + 1
  | .held _ => 1
def uptoBulkAll {H : Type} : List (DataW H) → Nat
  | [] => 0
  | d :: r => uptoBulk d + uptoBulkAll r
def uptoBulkEntries {H : Type} : List (Lit × DataW H) → Nat
  | [] => 0
  | x :: r => uptoBulkEntry x + uptoBulkEntries r
def uptoBulkEntry {H : Type} : Lit × DataW H → Nat
  | (.string bytes, d) => bytes.length + uptoBulk d + 1
  | (_, d) => uptoBulk d + 1
 end
def uptoSmall : (H : Type) → List (DataW H) → Bool := fun _ ds => decide (uptoBulkAll ds ≤ 1048576)
def OpenSpec.upto (s : _root_.Go.ChangeSpec) : _root_.Go.OpenSpec := { _root_.Go.OpenSpec.ofChange s with cond := some uptoSmall }

/-- 'laws.FnExactIsResStep', WHERE WHAT IT READS IS OF BULK AT MOST 1048576: true; the input reads as it did. -/
def fnExactIsResStepUptoRow : OpenClaim := { program := "ytbcohiabmdeanaa", sum := "1212048fd0ee5c29b6c62835d26d6f8aa49f4a81d2ab25dd9522ac75e85365b7", func := "loop.example/g01080/laws.FnExactIsResStep", spec := "fnExactIsResStep", unfollowed := true, recurses := true, apart := false, narrowed := true }
def FnExactIsResStepUptoSaid : Prop := fnExactIsResStepUptoRow.holds Try.pinned (OpenSpec.upto fnExactIsResStepSpec)

/-- 'laws.FnExactIsDerivation', WHERE WHAT IT READS IS OF BULK AT MOST 1048576: true; the input reads as it did. -/
def fnExactIsDerivationUptoRow : OpenClaim := { program := "ytbcohiabmdeanaa", sum := "1212048fd0ee5c29b6c62835d26d6f8aa49f4a81d2ab25dd9522ac75e85365b7", func := "loop.example/g01080/laws.FnExactIsDerivation", spec := "fnExactIsDerivation", unfollowed := true, recurses := true, apart := false, narrowed := true }
def FnExactIsDerivationUptoSaid : Prop := fnExactIsDerivationUptoRow.holds Try.pinned (OpenSpec.upto fnExactIsDerivationSpec)

/-- 'laws.FnExactFirstWrongStep', WHERE WHAT IT READS IS OF BULK AT MOST 1048576: true; the input reads as it did. -/
def fnExactFirstWrongStepUptoRow : OpenClaim := { program := "ytbcohiabmdeanaa", sum := "1212048fd0ee5c29b6c62835d26d6f8aa49f4a81d2ab25dd9522ac75e85365b7", func := "loop.example/g01080/laws.FnExactFirstWrongStep", spec := "fnExactFirstWrongStep", unfollowed := true, recurses := true, apart := false, narrowed := true }
def FnExactFirstWrongStepUptoSaid : Prop := fnExactFirstWrongStepUptoRow.holds Try.pinned (OpenSpec.upto fnExactFirstWrongStepSpec)

/-- 'laws.FnExactIsRefutation', WHERE WHAT IT READS IS OF BULK AT MOST 1048576: true; the input reads as it did. -/
def fnExactIsRefutationUptoRow : OpenClaim := { program := "ytbcohiabmdeanaa", sum := "1212048fd0ee5c29b6c62835d26d6f8aa49f4a81d2ab25dd9522ac75e85365b7", func := "loop.example/g01080/laws.FnExactIsRefutation", spec := "fnExactIsRefutation", unfollowed := true, recurses := true, apart := false, narrowed := true }
def FnExactIsRefutationUptoSaid : Prop := fnExactIsRefutationUptoRow.holds Try.pinned (OpenSpec.upto fnExactIsRefutationSpec)

/-- 'laws.FnExactWidthOfProof', WHERE WHAT IT READS IS OF BULK AT MOST 1048576: true; the input reads as it did. -/
def fnExactWidthOfProofUptoRow : OpenClaim := { program := "ytbcohiabmdeanaa", sum := "1212048fd0ee5c29b6c62835d26d6f8aa49f4a81d2ab25dd9522ac75e85365b7", func := "loop.example/g01080/laws.FnExactWidthOfProof", spec := "fnExactWidthOfProof", unfollowed := true, recurses := true, apart := false, narrowed := true }
def FnExactWidthOfProofUptoSaid : Prop := fnExactWidthOfProofUptoRow.holds Try.pinned (OpenSpec.upto fnExactWidthOfProofSpec)

/-- 'laws.FnExactIsUnitProof', WHERE WHAT IT READS IS OF BULK AT MOST 1048576: true; the input reads as it did. -/
def fnExactIsUnitProofUptoRow : OpenClaim := { program := "ytbcohiabmdeanaa", sum := "1212048fd0ee5c29b6c62835d26d6f8aa49f4a81d2ab25dd9522ac75e85365b7", func := "loop.example/g01080/laws.FnExactIsUnitProof", spec := "fnExactIsUnitProof", unfollowed := true, recurses := true, apart := false, narrowed := true }
def FnExactIsUnitProofUptoSaid : Prop := fnExactIsUnitProofUptoRow.holds Try.pinned (OpenSpec.upto fnExactIsUnitProofSpec)

/-- 'laws.FnExactIsInputProof', WHERE WHAT IT READS IS OF BULK AT MOST 1048576: true; the input reads as it did. -/
def fnExactIsInputProofUptoRow : OpenClaim := { program := "ytbcohiabmdeanaa", sum := "1212048fd0ee5c29b6c62835d26d6f8aa49f4a81d2ab25dd9522ac75e85365b7", func := "loop.example/g01080/laws.FnExactIsInputProof", spec := "fnExactIsInputProof", unfollowed := true, recurses := true, apart := false, narrowed := true }
def FnExactIsInputProofUptoSaid : Prop := fnExactIsInputProofUptoRow.holds Try.pinned (OpenSpec.upto fnExactIsInputProofSpec)

/-- 'laws.FnExactIsTreeLike', WHERE WHAT IT READS IS OF BULK AT MOST 1048576: true; the input reads as it did. -/
def fnExactIsTreeLikeUptoRow : OpenClaim := { program := "ytbcohiabmdeanaa", sum := "1212048fd0ee5c29b6c62835d26d6f8aa49f4a81d2ab25dd9522ac75e85365b7", func := "loop.example/g01080/laws.FnExactIsTreeLike", spec := "fnExactIsTreeLike", unfollowed := true, recurses := true, apart := false, narrowed := true }
def FnExactIsTreeLikeUptoSaid : Prop := fnExactIsTreeLikeUptoRow.holds Try.pinned (OpenSpec.upto fnExactIsTreeLikeSpec)

/-- 'laws.FnExactPlaneProofBound', WHERE WHAT IT READS IS OF BULK AT MOST 1048576: true; the input reads as it did. -/
def fnExactPlaneProofBoundUptoRow : OpenClaim := { program := "ytbcohiabmdeanaa", sum := "1212048fd0ee5c29b6c62835d26d6f8aa49f4a81d2ab25dd9522ac75e85365b7", func := "loop.example/g01080/laws.FnExactPlaneProofBound", spec := "fnExactPlaneProofBound", unfollowed := true, recurses := true, apart := false, narrowed := true }
def FnExactPlaneProofBoundUptoSaid : Prop := fnExactPlaneProofBoundUptoRow.holds Try.pinned (OpenSpec.upto fnExactPlaneProofBoundSpec)

/-- 'laws.FnExactIsBench', WHERE WHAT IT READS IS OF BULK AT MOST 1048576: true; the input reads as it did. -/
def fnExactIsBenchUptoRow : OpenClaim := { program := "ytbcohiabmdeanaa", sum := "1212048fd0ee5c29b6c62835d26d6f8aa49f4a81d2ab25dd9522ac75e85365b7", func := "loop.example/g01080/laws.FnExactIsBench", spec := "fnExactIsBench", unfollowed := true, recurses := true, apart := false, narrowed := true }
def FnExactIsBenchUptoSaid : Prop := fnExactIsBenchUptoRow.holds Try.pinned (OpenSpec.upto fnExactIsBenchSpec)

end Rows
end Go.Proofs.Ytbcohiabmdeanaa
