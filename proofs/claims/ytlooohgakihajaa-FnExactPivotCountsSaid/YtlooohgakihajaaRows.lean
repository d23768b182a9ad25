/-
  No cell of these rows narrows 'for every input' (looked for: loops, veiled, ifaces, maps, wideKeys, modest, calm, conditions, laid).
  DERIVED. THE GIVEN ROWS OF THIS SEAT. 4 by the template 'for every input the law returns true; each argument reads behind the call as it read before'; 0 by the template 'total and deterministic' (their statements: YtlooohgakihajaaTotals.lean).
  GIVEN WITH THE SEED: the statements are not yours to turn. If you find one false, say at which input.
  Laid BY PROGRAM, IN A SANDBOX (cutbox-rows.mjs): the forced cells as the released guide's own fill.sh prints them over the translation 6e4971200b80c7b6… (all of the seat's roots in one cut). By AI agents, Wed Nov 11 2026. No macro, syntax, notation, axiom, sorry.
-/
import Derived.Test.YtlooohgakihajaaChecked
import GoSem.Claim
import GoSem.ClaimJoined
import GoSem.ClaimMapViews
import Derived.JoinedTies
import Derived.KernelRfl
namespace Go.Proofs.Ytlooohgakihajaa
/- THE CELL 'sum', in the pinned program and in every row, IS THE sha256 OF THE DUMP (.gsa) THAT YtlooohgakihajaaProg.lean LOADS. Nothing in Lean hashes anything: it is a label: what it is worth is what the hold of that sum in a sandbox is worth. -/
noncomputable def Try.pinned : Pinned := { name := "ytlooohgakihajaa", sum := "6e4971200b80c7b6add431b2fe8c4413ed8988036e09ed26c02d1441a87e6b5d", checked := Try.checked }
namespace Rows
def none {H : Type} : Left H := { results := [], args := [] }

/-- 'laws.FnExactResolveOn': WHATEVER THE INPUT: true; the input reads as it did. -/
def fnExactResolveOnSpec : ChangeSpec := { name := "fnExactResolveOn", fn := fun _ => fun
  | [d1, d2, d3, d4] => { results := [.lit (.bool true)], args := [d1, d2, d3, d4] }
  | _ => none }
def fnExactResolveOnRow : OpenClaim := { program := "ytlooohgakihajaa", sum := "6e4971200b80c7b6add431b2fe8c4413ed8988036e09ed26c02d1441a87e6b5d", func := "loop.example/g01080/laws.FnExactResolveOn", spec := "fnExactResolveOn", unfollowed := true, recurses := true, apart := false }
def FnExactResolveOnSaid : Prop := fnExactResolveOnRow.holds Try.pinned (OpenSpec.ofChange fnExactResolveOnSpec)

/-- ITS FALSE NEIGHBOUR: 'it returns false'. Refute it at one input. -/
def fnExactResolveOnWrong : ChangeSpec := { name := "fnExactResolveOn", fn := fun _ => fun
  | [d1, d2, d3, d4] => { results := [.lit (.bool false)], args := [d1, d2, d3, d4] }
  | _ => none }
def FnExactResolveOnWrongFalsely : Prop := fnExactResolveOnRow.holds Try.pinned (OpenSpec.ofChange fnExactResolveOnWrong)

/-- 'laws.FnExactDerivedClause': WHATEVER THE INPUT: true; the input reads as it did. -/
def fnExactDerivedClauseSpec : ChangeSpec := { name := "fnExactDerivedClause", fn := fun _ => fun
  | [d1, d2] => { results := [.lit (.bool true)], args := [d1, d2] }
  | _ => none }
def fnExactDerivedClauseRow : OpenClaim := { program := "ytlooohgakihajaa", sum := "6e4971200b80c7b6add431b2fe8c4413ed8988036e09ed26c02d1441a87e6b5d", func := "loop.example/g01080/laws.FnExactDerivedClause", spec := "fnExactDerivedClause", unfollowed := true, recurses := true, apart := false }
def FnExactDerivedClauseSaid : Prop := fnExactDerivedClauseRow.holds Try.pinned (OpenSpec.ofChange fnExactDerivedClauseSpec)

/-- ITS FALSE NEIGHBOUR: 'it returns false'. Refute it at one input. -/
def fnExactDerivedClauseWrong : ChangeSpec := { name := "fnExactDerivedClause", fn := fun _ => fun
  | [d1, d2] => { results := [.lit (.bool false)], args := [d1, d2] }
  | _ => none }
def FnExactDerivedClauseWrongFalsely : Prop := fnExactDerivedClauseRow.holds Try.pinned (OpenSpec.ofChange fnExactDerivedClauseWrong)

/-- 'laws.FnExactPivotCounts': WHATEVER THE INPUT: true; the input reads as it did. -/
def fnExactPivotCountsSpec : ChangeSpec := { name := "fnExactPivotCounts", fn := fun _ => fun
  | [d1, d2] => { results := [.lit (.bool true)], args := [d1, d2] }
  | _ => none }
def fnExactPivotCountsRow : OpenClaim := { program := "ytlooohgakihajaa", sum := "6e4971200b80c7b6add431b2fe8c4413ed8988036e09ed26c02d1441a87e6b5d", func := "loop.example/g01080/laws.FnExactPivotCounts", spec := "fnExactPivotCounts", unfollowed := true, recurses := true, apart := false }
def FnExactPivotCountsSaid : Prop := fnExactPivotCountsRow.holds Try.pinned (OpenSpec.ofChange fnExactPivotCountsSpec)

/-- ITS FALSE NEIGHBOUR: 'it returns false'. Refute it at one input. -/
def fnExactPivotCountsWrong : ChangeSpec := { name := "fnExactPivotCounts", fn := fun _ => fun
  | [d1, d2] => { results := [.lit (.bool false)], args := [d1, d2] }
  | _ => none }
def FnExactPivotCountsWrongFalsely : Prop := fnExactPivotCountsRow.holds Try.pinned (OpenSpec.ofChange fnExactPivotCountsWrong)

/-- 'laws.FnExactEliminateVar': WHATEVER THE INPUT: true; the input reads as it did. -/
def fnExactEliminateVarSpec : ChangeSpec := { name := "fnExactEliminateVar", fn := fun _ => fun
  | [d1, d2] => { results := [.lit (.bool true)], args := [d1, d2] }
  | _ => none }
def fnExactEliminateVarRow : OpenClaim := { program := "ytlooohgakihajaa", sum := "6e4971200b80c7b6add431b2fe8c4413ed8988036e09ed26c02d1441a87e6b5d", func := "loop.example/g01080/laws.FnExactEliminateVar", spec := "fnExactEliminateVar", unfollowed := true, recurses := true, apart := false }
def FnExactEliminateVarSaid : Prop := fnExactEliminateVarRow.holds Try.pinned (OpenSpec.ofChange fnExactEliminateVarSpec)

/-- ITS FALSE NEIGHBOUR: 'it returns false'. Refute it at one input. -/
def fnExactEliminateVarWrong : ChangeSpec := { name := "fnExactEliminateVar", fn := fun _ => fun
  | [d1, d2] => { results := [.lit (.bool false)], args := [d1, d2] }
  | _ => none }
def FnExactEliminateVarWrongFalsely : Prop := fnExactEliminateVarRow.holds Try.pinned (OpenSpec.ofChange fnExactEliminateVarWrong)

/- THE SECOND FORM. 'bulk': how many values and letters a reading holds, each counted each time it is reached (what is shared counts as often as it is met; a slice's spare places count too). A statement '..UptoSaid' is the law's where the arguments, and the package variables that the reading takes, are together of bulk at most 1048576: NARROWER than '..Said'. Prove '..Said' where nothing that the law and all that it calls make is longer than what came in: it says more and counts as full. Else prove '..UptoSaid'. A law counts once. -/
mutual
def uptoBulk {H : Type} : DataW H → Nat
  | .lit (.string bytes) => bytes.length + 1
  | .lit _ => 1
  | .nil => 1
  | .ptr d => uptoBulk d + 1
  | .slice elems spare => uptoBulkAll elems + uptoBulkAll spare + 1
  | .agg parts => uptoBulkAll parts + 1
  | .iface _ d => uptoBulk d + 1
  | .map entries => uptoBulkEntries entries + 1
  | .held _ => 1
def uptoBulkAll {H : Type} : List (DataW H) → Nat
  | [] => 0
  | d :: r => uptoBulk d + uptoBulkAll r
def uptoBulkEntries {H : Type} : List (Lit × DataW H) → Nat
  | [] => 0
  | x :: r => uptoBulkEntry x + uptoBulkEntries r
def uptoBulkEntry {H : Type} : Lit × DataW H → Nat
  | (.string bytes, d) => bytes.length + uptoBulk d + 1
  | (_, d) => uptoBulk d + 1
 end
def uptoSmall : (H : Type) → List (DataW H) → Bool := fun _ ds => decide (uptoBulkAll ds ≤ 1048576)
def OpenSpec.upto (s : _root_.Go.ChangeSpec) : _root_.Go.OpenSpec := { _root_.Go.OpenSpec.ofChange s with cond := some uptoSmall }

/-- 'laws.FnExactResolveOn', WHERE WHAT IT READS IS OF BULK AT MOST 1048576: true; the input reads as it did. -/
def fnExactResolveOnUptoRow : OpenClaim := { program := "ytlooohgakihajaa", sum := "6e4971200b80c7b6add431b2fe8c4413ed8988036e09ed26c02d1441a87e6b5d", func := "loop.example/g01080/laws.FnExactResolveOn", spec := "fnExactResolveOn", unfollowed := true, recurses := true, apart := false, narrowed := true }
def FnExactResolveOnUptoSaid : Prop := fnExactResolveOnUptoRow.holds Try.pinned (OpenSpec.upto fnExactResolveOnSpec)

/-- 'laws.FnExactDerivedClause', WHERE WHAT IT READS IS OF BULK AT MOST 1048576: true; the input reads as it did. -/
def fnExactDerivedClauseUptoRow : OpenClaim := { program := "ytlooohgakihajaa", sum := "6e4971200b80c7b6add431b2fe8c4413ed8988036e09ed26c02d1441a87e6b5d", func := "loop.example/g01080/laws.FnExactDerivedClause", spec := "fnExactDerivedClause", unfollowed := true, recurses := true, apart := false, narrowed := true }
def FnExactDerivedClauseUptoSaid : Prop := fnExactDerivedClauseUptoRow.holds Try.pinned (OpenSpec.upto fnExactDerivedClauseSpec)

/-- 'laws.FnExactPivotCounts', WHERE WHAT IT READS IS OF BULK AT MOST 1048576: true; the input reads as it did. -/
def fnExactPivotCountsUptoRow : OpenClaim := { program := "ytlooohgakihajaa", sum := "6e4971200b80c7b6add431b2fe8c4413ed8988036e09ed26c02d1441a87e6b5d", func := "loop.example/g01080/laws.FnExactPivotCounts", spec := "fnExactPivotCounts", unfollowed := true, recurses := true, apart := false, narrowed := true }
def FnExactPivotCountsUptoSaid : Prop := fnExactPivotCountsUptoRow.holds Try.pinned (OpenSpec.upto fnExactPivotCountsSpec)

/-- 'laws.FnExactEliminateVar', WHERE WHAT IT READS IS OF BULK AT MOST 1048576: true; the input reads as it did. -/
def fnExactEliminateVarUptoRow : OpenClaim := { program := "ytlooohgakihajaa", sum := "6e4971200b80c7b6add431b2fe8c4413ed8988036e09ed26c02d1441a87e6b5d", func := "loop.example/g01080/laws.FnExactEliminateVar", spec := "fnExactEliminateVar", unfollowed := true, recurses := true, apart := false, narrowed := true }
def FnExactEliminateVarUptoSaid : Prop := fnExactEliminateVarUptoRow.holds Try.pinned (OpenSpec.upto fnExactEliminateVarSpec)

end Rows
end Go.Proofs.Ytlooohgakihajaa
