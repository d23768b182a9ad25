/-
  No cell of these rows narrows 'for every input' (looked for: loops, veiled, ifaces, maps, wideKeys, modest, calm, conditions, laid).
  DERIVED. THE GIVEN ROWS OF THIS SEAT. 3 by the template 'for every input the law returns true; each argument reads behind the call as it read before'; 0 by the template 'total and deterministic' (their statements: YtfaamimlkogcpaaTotals.lean).
  GIVEN WITH THE SEED: the statements are not yours to turn. If you find one false, say at which input.
  Laid BY PROGRAM, IN A SANDBOX (cutbox-rows.mjs): the forced cells as the released guide's own fill.sh prints them over the translation c1c2130284d5bb5e… (all of the seat's roots in one cut). By AI agents, Wed Nov 11 2026. No macro, syntax, notation, axiom, sorry.
-/
import Derived.Test.YtfaamimlkogcpaaChecked
import GoSem.Claim
import GoSem.ClaimJoined
import GoSem.ClaimMapViews
import Derived.JoinedTies
import Derived.KernelRfl
namespace Go.Proofs.Ytfaamimlkogcpaa
/- THE CELL 'sum', in the pinned program and in every row, IS THE sha256 OF THE DUMP (.gsa) THAT YtfaamimlkogcpaaProg.lean LOADS. Nothing in Lean hashes anything: it is a label: what it is worth is what the hold of that sum in a sandbox is worth. -/
noncomputable def Try.pinned : Pinned := { name := "ytfaamimlkogcpaa", sum := "c1c2130284d5bb5ead3244c8d5cce55cef0178786afa425978bf62ec83135d06", checked := Try.checked }
namespace Rows
def none {H : Type} : Left H := { results := [], args := [] }

/-- 'laws.FnExactLeastDegree': WHATEVER THE INPUT: true; the input reads as it did. -/
def fnExactLeastDegreeSpec : ChangeSpec := { name := "fnExactLeastDegree", fn := fun _ => fun
  | [d1, d2] => { results := [.lit (.bool true)], args := [d1, d2] }
  | _ => none }
def fnExactLeastDegreeRow : OpenClaim := { program := "ytfaamimlkogcpaa", sum := "c1c2130284d5bb5ead3244c8d5cce55cef0178786afa425978bf62ec83135d06", func := "loop.example/g01080/laws.FnExactLeastDegree", spec := "fnExactLeastDegree", unfollowed := true, recurses := true, apart := false }
def FnExactLeastDegreeSaid : Prop := fnExactLeastDegreeRow.holds Try.pinned (OpenSpec.ofChange fnExactLeastDegreeSpec)

/-- ITS FALSE NEIGHBOUR: 'it returns false'. Refute it at one input. -/
def fnExactLeastDegreeWrong : ChangeSpec := { name := "fnExactLeastDegree", fn := fun _ => fun
  | [d1, d2] => { results := [.lit (.bool false)], args := [d1, d2] }
  | _ => none }
def FnExactLeastDegreeWrongFalsely : Prop := fnExactLeastDegreeRow.holds Try.pinned (OpenSpec.ofChange fnExactLeastDegreeWrong)

/-- 'laws.FnExactLeastPcDegree': WHATEVER THE INPUT: true; the input reads as it did. -/
def fnExactLeastPcDegreeSpec : ChangeSpec := { name := "fnExactLeastPcDegree", fn := fun _ => fun
  | [d1, d2] => { results := [.lit (.bool true)], args := [d1, d2] }
  | _ => none }
def fnExactLeastPcDegreeRow : OpenClaim := { program := "ytfaamimlkogcpaa", sum := "c1c2130284d5bb5ead3244c8d5cce55cef0178786afa425978bf62ec83135d06", func := "loop.example/g01080/laws.FnExactLeastPcDegree", spec := "fnExactLeastPcDegree", unfollowed := true, recurses := true, apart := false }
def FnExactLeastPcDegreeSaid : Prop := fnExactLeastPcDegreeRow.holds Try.pinned (OpenSpec.ofChange fnExactLeastPcDegreeSpec)

/-- ITS FALSE NEIGHBOUR: 'it returns false'. Refute it at one input. -/
def fnExactLeastPcDegreeWrong : ChangeSpec := { name := "fnExactLeastPcDegree", fn := fun _ => fun
  | [d1, d2] => { results := [.lit (.bool false)], args := [d1, d2] }
  | _ => none }
def FnExactLeastPcDegreeWrongFalsely : Prop := fnExactLeastPcDegreeRow.holds Try.pinned (OpenSpec.ofChange fnExactLeastPcDegreeWrong)

/-- 'laws.FnClausePolys': WHATEVER THE INPUT: true; the input reads as it did. -/
def fnClausePolysSpec : ChangeSpec := { name := "fnClausePolys", fn := fun _ => fun
  | [d] => { results := [.lit (.bool true)], args := [d] }
  | _ => none }
def fnClausePolysRow : OpenClaim := { program := "ytfaamimlkogcpaa", sum := "c1c2130284d5bb5ead3244c8d5cce55cef0178786afa425978bf62ec83135d06", func := "loop.example/g01080/laws.FnClausePolys", spec := "fnClausePolys", unfollowed := true, recurses := true, apart := false }
def FnClausePolysSaid : Prop := fnClausePolysRow.holds Try.pinned (OpenSpec.ofChange fnClausePolysSpec)

/-- ITS FALSE NEIGHBOUR: 'it returns false'. Refute it at one input. -/
def fnClausePolysWrong : ChangeSpec := { name := "fnClausePolys", fn := fun _ => fun
  | [d] => { results := [.lit (.bool false)], args := [d] }
  | _ => none }
def FnClausePolysWrongFalsely : Prop := fnClausePolysRow.holds Try.pinned (OpenSpec.ofChange fnClausePolysWrong)

/- THE SECOND FORM. 'bulk': how many values and letters a reading holds, each counted each time it is reached (what is shared counts as often as it is met; a slice's spare places count too). A statement '..UptoSaid' is the law's where the arguments, and the package variables that the reading takes, are together of bulk at most 1048576: NARROWER than '..Said'. Prove '..Said' where nothing that the law and all that it calls make is longer than what came in: it says more and counts as full. Else prove '..UptoSaid'. A law counts once. -/
mutual
def uptoBulk {H : Type} : DataW H → Nat
  | .lit (.string bytes) => bytes.length + 1
  | .lit _ => 1
  | .nil => 1
  | .ptr d => uptoBulk d + 1
  | .slice elems spare => uptoBulkAll elems + uptoBulkAll spare + 1
  | .agg parts => uptoBulkAll parts + 1
  | .iface _ d => uptoBulk d + 1
  | .map entries => uptoBulkEntries entries + 1
  | .held _ => 1
def uptoBulkAll {H : Type} : List (DataW H) → Nat
  | [] => 0
  | d :: r => uptoBulk d + uptoBulkAll r
def uptoBulkEntries {H : Type} : List (Lit × DataW H) → Nat
  | [] => 0
  | x :: r => uptoBulkEntry x + uptoBulkEntries r
def uptoBulkEntry {H : Type} : Lit × DataW H → Nat
  | (.string bytes, d) => bytes.length + uptoBulk d + 1
  | (_, d) => uptoBulk d + 1
 end
def uptoSmall : (H : Type) → List (DataW H) → Bool := fun _ ds => decide (uptoBulkAll ds ≤ 1048576)
def OpenSpec.upto (s : _root_.Go.ChangeSpec) : _root_.Go.OpenSpec := { _root_.Go.OpenSpec.ofChange s with cond := some uptoSmall }

/-- 'laws.FnExactLeastDegree', WHERE WHAT IT READS IS OF BULK AT MOST 1048576: true; the input reads as it did. -/
def fnExactLeastDegreeUptoRow : OpenClaim := { program := "ytfaamimlkogcpaa", sum := "c1c2130284d5bb5ead3244c8d5cce55cef0178786afa425978bf62ec83135d06", func := "loop.example/g01080/laws.FnExactLeastDegree", spec := "fnExactLeastDegree", unfollowed := true, recurses := true, apart := false, narrowed := true }
def FnExactLeastDegreeUptoSaid : Prop := fnExactLeastDegreeUptoRow.holds Try.pinned (OpenSpec.upto fnExactLeastDegreeSpec)

/-- 'laws.FnExactLeastPcDegree', WHERE WHAT IT READS IS OF BULK AT MOST 1048576: true; the input reads as it did. -/
def fnExactLeastPcDegreeUptoRow : OpenClaim := { program := "ytfaamimlkogcpaa", sum := "c1c2130284d5bb5ead3244c8d5cce55cef0178786afa425978bf62ec83135d06", func := "loop.example/g01080/laws.FnExactLeastPcDegree", spec := "fnExactLeastPcDegree", unfollowed := true, recurses := true, apart := false, narrowed := true }
def FnExactLeastPcDegreeUptoSaid : Prop := fnExactLeastPcDegreeUptoRow.holds Try.pinned (OpenSpec.upto fnExactLeastPcDegreeSpec)

/-- 'laws.FnClausePolys', WHERE WHAT IT READS IS OF BULK AT MOST 1048576: true; the input reads as it did. -/
def fnClausePolysUptoRow : OpenClaim := { program := "ytfaamimlkogcpaa", sum := "c1c2130284d5bb5ead3244c8d5cce55cef0178786afa425978bf62ec83135d06", func := "loop.example/g01080/laws.FnClausePolys", spec := "fnClausePolys", unfollowed := true, recurses := true, apart := false, narrowed := true }
def FnClausePolysUptoSaid : Prop := fnClausePolysUptoRow.holds Try.pinned (OpenSpec.upto fnClausePolysSpec)

end Rows
end Go.Proofs.Ytfaamimlkogcpaa
