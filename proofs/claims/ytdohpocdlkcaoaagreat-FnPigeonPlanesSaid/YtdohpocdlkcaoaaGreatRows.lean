/-
  No cell of these rows narrows 'for every input' (looked for: loops, veiled, ifaces, maps, wideKeys, modest, calm, conditions, laid).
  DERIVED. THE GIVEN ROWS OF THIS SEAT. 2 by the template 'for every input the law returns true; each argument reads behind the call as it read before'; 0 by the template 'total and deterministic' (their statements: YtdohpocdlkcaoaaGreatTotals.lean).
  GIVEN WITH THE SEED: the statements are not yours to turn. If you find one false, say at which input.
  Laid BY PROGRAM, IN A SANDBOX (cutbox-rows.mjs): the forced cells as the released guide's own fill.sh prints them over the translation 44a5b5e2f8213394… (all of the seat's roots in one cut). By AI agents, Wed Nov 11 2026. No macro, syntax, notation, axiom, sorry.
-/
import Derived.Test.YtdohpocdlkcaoaaGreatChecked
import GoSem.Claim
import GoSem.ClaimJoined
import GoSem.ClaimMapViews
import Derived.JoinedTies
import Derived.KernelRfl
namespace Go.Proofs.YtdohpocdlkcaoaaGreat
/- THE CELL 'sum', in the pinned program and in every row, IS THE sha256 OF THE DUMP (.gsa) THAT YtdohpocdlkcaoaaGreatProg.lean LOADS. Nothing in Lean hashes anything: it is a label: what it is worth is what the hold of that sum in a sandbox is worth. -/
noncomputable def Tryz.pinned : Pinned := { name := "ytdohpocdlkcaoaagreat", sum := "44a5b5e2f8213394116bcb0e2590ddbd4a96096ed646caa3d69a2d4610dac916", checked := Tryz.checked }
namespace Rows
def none {H : Type} : Left H := { results := [], args := [] }

/-- 'laws.FnPigeonPlanes': WHATEVER THE INPUT: true; the input reads as it did. -/
def fnPigeonPlanesSpec : ChangeSpec := { name := "fnPigeonPlanes", fn := fun _ => fun
  | [d] => { results := [.lit (.bool true)], args := [d] }
  | _ => none }
def fnPigeonPlanesRow : OpenClaim := { program := "ytdohpocdlkcaoaagreat", sum := "44a5b5e2f8213394116bcb0e2590ddbd4a96096ed646caa3d69a2d4610dac916", func := "loop.example/g01080/laws.FnPigeonPlanes", spec := "fnPigeonPlanes", unfollowed := true, recurses := true, apart := false }
def FnPigeonPlanesSaid : Prop := fnPigeonPlanesRow.holds Tryz.pinned (OpenSpec.ofChange fnPigeonPlanesSpec)

/-- ITS FALSE NEIGHBOUR: 'it returns false'. Refute it at one input. -/
def fnPigeonPlanesWrong : ChangeSpec := { name := "fnPigeonPlanes", fn := fun _ => fun
  | [d] => { results := [.lit (.bool false)], args := [d] }
  | _ => none }
def FnPigeonPlanesWrongFalsely : Prop := fnPigeonPlanesRow.holds Tryz.pinned (OpenSpec.ofChange fnPigeonPlanesWrong)

/-- 'laws.FnParity': WHATEVER THE INPUT: true; the input reads as it did. -/
def fnParitySpec : ChangeSpec := { name := "fnParity", fn := fun _ => fun
  | [d] => { results := [.lit (.bool true)], args := [d] }
  | _ => none }
def fnParityRow : OpenClaim := { program := "ytdohpocdlkcaoaagreat", sum := "44a5b5e2f8213394116bcb0e2590ddbd4a96096ed646caa3d69a2d4610dac916", func := "loop.example/g01080/laws.FnParity", spec := "fnParity", unfollowed := true, recurses := true, apart := false }
def FnParitySaid : Prop := fnParityRow.holds Tryz.pinned (OpenSpec.ofChange fnParitySpec)

/-- ITS FALSE NEIGHBOUR: 'it returns false'. Refute it at one input. -/
def fnParityWrong : ChangeSpec := { name := "fnParity", fn := fun _ => fun
  | [d] => { results := [.lit (.bool false)], args := [d] }
  | _ => none }
def FnParityWrongFalsely : Prop := fnParityRow.holds Tryz.pinned (OpenSpec.ofChange fnParityWrong)

/- THE SECOND FORM. 'bulk': how many values and letters a reading holds, each counted each time it is reached (what is shared counts as often as it is met; a slice's spare places count too). A statement '..UptoSaid' is the law's where the arguments, and the package variables that the reading takes, are together of bulk at most 1048576: NARROWER than '..Said'. Prove '..Said' where nothing that the law and all that it calls make is longer than what came in: it says more and counts as full. Else prove '..UptoSaid'. A law counts once. -/
mutual
def uptoBulk {H : Type} : DataW H → Nat
  | .lit (.string bytes) => bytes.length + 1
  | .lit _ => 1
  | .nil => 1
  | .ptr d => uptoBulk d + 1
  | .slice elems spare => uptoBulkAll elems + uptoBulkAll spare + 1
  | .agg parts => uptoBulkAll parts + 1
  | .iface _ d => uptoBulk d + 1
  | .map entries => uptoBulkEntries entries + 1
  | .held _ => 1
def uptoBulkAll {H : Type} : List (DataW H) → Nat
  | [] => 0
  | d :: r => uptoBulk d + uptoBulkAll r
def uptoBulkEntries {H : Type} : List (Lit × DataW H) → Nat
  | [] => 0
  | x :: r => uptoBulkEntry x + uptoBulkEntries r
def uptoBulkEntry {H : Type} : Lit × DataW H → Nat
  | (.string bytes, d) => bytes.length + uptoBulk d + 1
  | (_, d) => uptoBulk d + 1
 end
def uptoSmall : (H : Type) → List (DataW H) → Bool := fun _ ds => decide (uptoBulkAll ds ≤ 1048576)
def OpenSpec.upto (s : _root_.Go.ChangeSpec) : _root_.Go.OpenSpec := { _root_.Go.OpenSpec.ofChange s with cond := some uptoSmall }

/-- 'laws.FnPigeonPlanes', WHERE WHAT IT READS IS OF BULK AT MOST 1048576: true; the input reads as it did. -/
def fnPigeonPlanesUptoRow : OpenClaim := { program := "ytdohpocdlkcaoaagreat", sum := "44a5b5e2f8213394116bcb0e2590ddbd4a96096ed646caa3d69a2d4610dac916", func := "loop.example/g01080/laws.FnPigeonPlanes", spec := "fnPigeonPlanes", unfollowed := true, recurses := true, apart := false, narrowed := true }
def FnPigeonPlanesUptoSaid : Prop := fnPigeonPlanesUptoRow.holds Tryz.pinned (OpenSpec.upto fnPigeonPlanesSpec)

/-- 'laws.FnParity', WHERE WHAT IT READS IS OF BULK AT MOST 1048576: true; the input reads as it did. -/
def fnParityUptoRow : OpenClaim := { program := "ytdohpocdlkcaoaagreat", sum := "44a5b5e2f8213394116bcb0e2590ddbd4a96096ed646caa3d69a2d4610dac916", func := "loop.example/g01080/laws.FnParity", spec := "fnParity", unfollowed := true, recurses := true, apart := false, narrowed := true }
def FnParityUptoSaid : Prop := fnParityUptoRow.holds Tryz.pinned (OpenSpec.upto fnParitySpec)

end Rows
end Go.Proofs.YtdohpocdlkcaoaaGreat
