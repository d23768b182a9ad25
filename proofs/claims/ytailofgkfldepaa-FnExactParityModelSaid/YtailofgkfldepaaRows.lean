/-
  No cell of these rows narrows 'for every input' (looked for: loops, veiled, ifaces, maps, wideKeys, modest, calm, conditions, laid).
  DERIVED. THE GIVEN ROWS OF THIS SEAT. 7 by the template 'for every input the law returns true; each argument reads behind the call as it read before'; 0 by the template 'total and deterministic' (their statements: YtailofgkfldepaaTotals.lean).
  GIVEN WITH THE SEED: the statements are not yours to turn. If you find one false, say at which input.
  Laid BY PROGRAM, IN A SANDBOX (cutbox-rows.mjs): the forced cells as the released guide's own fill.sh prints them over the translation e9e2ed31830df233… (all of the seat's roots in one cut). By AI agents, Wed Nov 11 2026. No macro, syntax, notation, axiom, sorry.
-/
import Derived.Test.YtailofgkfldepaaChecked
import GoSem.Claim
import GoSem.ClaimJoined
import GoSem.ClaimMapViews
import Derived.JoinedTies
import Derived.KernelRfl
namespace Go.Proofs.Ytailofgkfldepaa
/- THE CELL 'sum', in the pinned program and in every row, IS THE sha256 OF THE DUMP (.gsa) THAT YtailofgkfldepaaProg.lean LOADS. Nothing in Lean hashes anything: it is a label: what it is worth is what the hold of that sum in a sandbox is worth. -/
noncomputable def Try.pinned : Pinned := { name := "ytailofgkfldepaa", sum := "e9e2ed31830df2333723d9fdf3af73e62bdd5dadf50358742ef94fbf800bcb41", checked := Try.checked }
namespace Rows
def none {H : Type} : Left H := { results := [], args := [] }

/-- 'laws.FnExactPartsOf': WHATEVER THE INPUT: true; the input reads as it did. -/
def fnExactPartsOfSpec : ChangeSpec := { name := "fnExactPartsOf", fn := fun _ => fun
  | [d] => { results := [.lit (.bool true)], args := [d] }
  | _ => none }
def fnExactPartsOfRow : OpenClaim := { program := "ytailofgkfldepaa", sum := "e9e2ed31830df2333723d9fdf3af73e62bdd5dadf50358742ef94fbf800bcb41", func := "loop.example/g01080/laws.FnExactPartsOf", spec := "fnExactPartsOf", unfollowed := true, recurses := true, apart := false }
def FnExactPartsOfSaid : Prop := fnExactPartsOfRow.holds Try.pinned (OpenSpec.ofChange fnExactPartsOfSpec)

/-- ITS FALSE NEIGHBOUR: 'it returns false'. Refute it at one input. -/
def fnExactPartsOfWrong : ChangeSpec := { name := "fnExactPartsOf", fn := fun _ => fun
  | [d] => { results := [.lit (.bool false)], args := [d] }
  | _ => none }
def FnExactPartsOfWrongFalsely : Prop := fnExactPartsOfRow.holds Try.pinned (OpenSpec.ofChange fnExactPartsOfWrong)

/-- 'laws.FnExactOddParts': WHATEVER THE INPUT: true; the input reads as it did. -/
def fnExactOddPartsSpec : ChangeSpec := { name := "fnExactOddParts", fn := fun _ => fun
  | [d] => { results := [.lit (.bool true)], args := [d] }
  | _ => none }
def fnExactOddPartsRow : OpenClaim := { program := "ytailofgkfldepaa", sum := "e9e2ed31830df2333723d9fdf3af73e62bdd5dadf50358742ef94fbf800bcb41", func := "loop.example/g01080/laws.FnExactOddParts", spec := "fnExactOddParts", unfollowed := true, recurses := true, apart := false }
def FnExactOddPartsSaid : Prop := fnExactOddPartsRow.holds Try.pinned (OpenSpec.ofChange fnExactOddPartsSpec)

/-- ITS FALSE NEIGHBOUR: 'it returns false'. Refute it at one input. -/
def fnExactOddPartsWrong : ChangeSpec := { name := "fnExactOddParts", fn := fun _ => fun
  | [d] => { results := [.lit (.bool false)], args := [d] }
  | _ => none }
def FnExactOddPartsWrongFalsely : Prop := fnExactOddPartsRow.holds Try.pinned (OpenSpec.ofChange fnExactOddPartsWrong)

/-- 'laws.FnExactParityModel': WHATEVER THE INPUT: true; the input reads as it did. -/
def fnExactParityModelSpec : ChangeSpec := { name := "fnExactParityModel", fn := fun _ => fun
  | [d] => { results := [.lit (.bool true)], args := [d] }
  | _ => none }
def fnExactParityModelRow : OpenClaim := { program := "ytailofgkfldepaa", sum := "e9e2ed31830df2333723d9fdf3af73e62bdd5dadf50358742ef94fbf800bcb41", func := "loop.example/g01080/laws.FnExactParityModel", spec := "fnExactParityModel", unfollowed := true, recurses := true, apart := false }
def FnExactParityModelSaid : Prop := fnExactParityModelRow.holds Try.pinned (OpenSpec.ofChange fnExactParityModelSpec)

/-- ITS FALSE NEIGHBOUR: 'it returns false'. Refute it at one input. -/
def fnExactParityModelWrong : ChangeSpec := { name := "fnExactParityModel", fn := fun _ => fun
  | [d] => { results := [.lit (.bool false)], args := [d] }
  | _ => none }
def FnExactParityModelWrongFalsely : Prop := fnExactParityModelRow.holds Try.pinned (OpenSpec.ofChange fnExactParityModelWrong)

/-- 'laws.FnExactEliminateVar': WHATEVER THE INPUT: true; the input reads as it did. -/
def fnExactEliminateVarSpec : ChangeSpec := { name := "fnExactEliminateVar", fn := fun _ => fun
  | [d1, d2] => { results := [.lit (.bool true)], args := [d1, d2] }
  | _ => none }
def fnExactEliminateVarRow : OpenClaim := { program := "ytailofgkfldepaa", sum := "e9e2ed31830df2333723d9fdf3af73e62bdd5dadf50358742ef94fbf800bcb41", func := "loop.example/g01080/laws.FnExactEliminateVar", spec := "fnExactEliminateVar", unfollowed := true, recurses := true, apart := false }
def FnExactEliminateVarSaid : Prop := fnExactEliminateVarRow.holds Try.pinned (OpenSpec.ofChange fnExactEliminateVarSpec)

/-- ITS FALSE NEIGHBOUR: 'it returns false'. Refute it at one input. -/
def fnExactEliminateVarWrong : ChangeSpec := { name := "fnExactEliminateVar", fn := fun _ => fun
  | [d1, d2] => { results := [.lit (.bool false)], args := [d1, d2] }
  | _ => none }
def FnExactEliminateVarWrongFalsely : Prop := fnExactEliminateVarRow.holds Try.pinned (OpenSpec.ofChange fnExactEliminateVarWrong)

/-- 'laws.FnExactHoleSteps': WHATEVER THE INPUT: true; the input reads as it did. -/
def fnExactHoleStepsSpec : ChangeSpec := { name := "fnExactHoleSteps", fn := fun _ => fun
  | [d1, d2] => { results := [.lit (.bool true)], args := [d1, d2] }
  | _ => none }
def fnExactHoleStepsRow : OpenClaim := { program := "ytailofgkfldepaa", sum := "e9e2ed31830df2333723d9fdf3af73e62bdd5dadf50358742ef94fbf800bcb41", func := "loop.example/g01080/laws.FnExactHoleSteps", spec := "fnExactHoleSteps", unfollowed := true, recurses := true, apart := false }
def FnExactHoleStepsSaid : Prop := fnExactHoleStepsRow.holds Try.pinned (OpenSpec.ofChange fnExactHoleStepsSpec)

/-- ITS FALSE NEIGHBOUR: 'it returns false'. Refute it at one input. -/
def fnExactHoleStepsWrong : ChangeSpec := { name := "fnExactHoleSteps", fn := fun _ => fun
  | [d1, d2] => { results := [.lit (.bool false)], args := [d1, d2] }
  | _ => none }
def FnExactHoleStepsWrongFalsely : Prop := fnExactHoleStepsRow.holds Try.pinned (OpenSpec.ofChange fnExactHoleStepsWrong)

/-- 'laws.FnExactPigeonPlanes': WHATEVER THE INPUT: true; the input reads as it did. -/
def fnExactPigeonPlanesSpec : ChangeSpec := { name := "fnExactPigeonPlanes", fn := fun _ => fun
  | [d] => { results := [.lit (.bool true)], args := [d] }
  | _ => none }
def fnExactPigeonPlanesRow : OpenClaim := { program := "ytailofgkfldepaa", sum := "e9e2ed31830df2333723d9fdf3af73e62bdd5dadf50358742ef94fbf800bcb41", func := "loop.example/g01080/laws.FnExactPigeonPlanes", spec := "fnExactPigeonPlanes", unfollowed := true, recurses := true, apart := false }
def FnExactPigeonPlanesSaid : Prop := fnExactPigeonPlanesRow.holds Try.pinned (OpenSpec.ofChange fnExactPigeonPlanesSpec)

/-- ITS FALSE NEIGHBOUR: 'it returns false'. Refute it at one input. -/
def fnExactPigeonPlanesWrong : ChangeSpec := { name := "fnExactPigeonPlanes", fn := fun _ => fun
  | [d] => { results := [.lit (.bool false)], args := [d] }
  | _ => none }
def FnExactPigeonPlanesWrongFalsely : Prop := fnExactPigeonPlanesRow.holds Try.pinned (OpenSpec.ofChange fnExactPigeonPlanesWrong)

/-- 'laws.FnExactTrimPlanes': WHATEVER THE INPUT: true; the input reads as it did. -/
def fnExactTrimPlanesSpec : ChangeSpec := { name := "fnExactTrimPlanes", fn := fun _ => fun
  | [d1, d2] => { results := [.lit (.bool true)], args := [d1, d2] }
  | _ => none }
def fnExactTrimPlanesRow : OpenClaim := { program := "ytailofgkfldepaa", sum := "e9e2ed31830df2333723d9fdf3af73e62bdd5dadf50358742ef94fbf800bcb41", func := "loop.example/g01080/laws.FnExactTrimPlanes", spec := "fnExactTrimPlanes", unfollowed := true, recurses := true, apart := false }
def FnExactTrimPlanesSaid : Prop := fnExactTrimPlanesRow.holds Try.pinned (OpenSpec.ofChange fnExactTrimPlanesSpec)

/-- ITS FALSE NEIGHBOUR: 'it returns false'. Refute it at one input. -/
def fnExactTrimPlanesWrong : ChangeSpec := { name := "fnExactTrimPlanes", fn := fun _ => fun
  | [d1, d2] => { results := [.lit (.bool false)], args := [d1, d2] }
  | _ => none }
def FnExactTrimPlanesWrongFalsely : Prop := fnExactTrimPlanesRow.holds Try.pinned (OpenSpec.ofChange fnExactTrimPlanesWrong)

/- THE SECOND FORM. 'bulk': how many values and letters a reading holds, each counted each time it is reached (what is shared counts as often as it is met; a slice's spare places count too). A statement '..UptoSaid' is the law's where the arguments, and the package variables that the reading takes, are together of bulk at most 1048576: NARROWER than '..Said'. Prove '..Said' where nothing that the law and all that it calls make is longer than what came in: it says more and counts as full. Else prove '..UptoSaid'. A law counts once. -/
mutual
def uptoBulk {H : Type} : DataW H → Nat
  | .lit (.string bytes) => bytes.length + 1
  | .lit _ => 1
  | .nil => 1
  | .ptr d => uptoBulk d + 1
  | .slice elems spare => uptoBulkAll elems + uptoBulkAll spare + 1
  | .agg parts => uptoBulkAll parts + 1
  | .iface _ d => uptoBulk d + 1
  | .map entries => uptoBulkEntries entries + 1
  | .held _ => 1
def uptoBulkAll {H : Type} : List (DataW H) → Nat
  | [] => 0
  | d :: r => uptoBulk d + uptoBulkAll r
def uptoBulkEntries {H : Type} : List (Lit × DataW H) → Nat
  | [] => 0
  | x :: r => uptoBulkEntry x + uptoBulkEntries r
def uptoBulkEntry {H : Type} : Lit × DataW H → Nat
  | (.string bytes, d) => bytes.length + uptoBulk d + 1
  | (_, d) => uptoBulk d + 1
 end
def uptoSmall : (H : Type) → List (DataW H) → Bool := fun _ ds => decide (uptoBulkAll ds ≤ 1048576)
def OpenSpec.upto (s : _root_.Go.ChangeSpec) : _root_.Go.OpenSpec := { _root_.Go.OpenSpec.ofChange s with cond := some uptoSmall }

/-- 'laws.FnExactPartsOf', WHERE WHAT IT READS IS OF BULK AT MOST 1048576: true; the input reads as it did. -/
def fnExactPartsOfUptoRow : OpenClaim := { program := "ytailofgkfldepaa", sum := "e9e2ed31830df2333723d9fdf3af73e62bdd5dadf50358742ef94fbf800bcb41", func := "loop.example/g01080/laws.FnExactPartsOf", spec := "fnExactPartsOf", unfollowed := true, recurses := true, apart := false, narrowed := true }
def FnExactPartsOfUptoSaid : Prop := fnExactPartsOfUptoRow.holds Try.pinned (OpenSpec.upto fnExactPartsOfSpec)

/-- 'laws.FnExactOddParts', WHERE WHAT IT READS IS OF BULK AT MOST 1048576: true; the input reads as it did. -/
def fnExactOddPartsUptoRow : OpenClaim := { program := "ytailofgkfldepaa", sum := "e9e2ed31830df2333723d9fdf3af73e62bdd5dadf50358742ef94fbf800bcb41", func := "loop.example/g01080/laws.FnExactOddParts", spec := "fnExactOddParts", unfollowed := true, recurses := true, apart := false, narrowed := true }
def FnExactOddPartsUptoSaid : Prop := fnExactOddPartsUptoRow.holds Try.pinned (OpenSpec.upto fnExactOddPartsSpec)

/-- 'laws.FnExactParityModel', WHERE WHAT IT READS IS OF BULK AT MOST 1048576: true; the input reads as it did. -/
def fnExactParityModelUptoRow : OpenClaim := { program := "ytailofgkfldepaa", sum := "e9e2ed31830df2333723d9fdf3af73e62bdd5dadf50358742ef94fbf800bcb41", func := "loop.example/g01080/laws.FnExactParityModel", spec := "fnExactParityModel", unfollowed := true, recurses := true, apart := false, narrowed := true }
def FnExactParityModelUptoSaid : Prop := fnExactParityModelUptoRow.holds Try.pinned (OpenSpec.upto fnExactParityModelSpec)

/-- 'laws.FnExactEliminateVar', WHERE WHAT IT READS IS OF BULK AT MOST 1048576: true; the input reads as it did. -/
def fnExactEliminateVarUptoRow : OpenClaim := { program := "ytailofgkfldepaa", sum := "e9e2ed31830df2333723d9fdf3af73e62bdd5dadf50358742ef94fbf800bcb41", func := "loop.example/g01080/laws.FnExactEliminateVar", spec := "fnExactEliminateVar", unfollowed := true, recurses := true, apart := false, narrowed := true }
def FnExactEliminateVarUptoSaid : Prop := fnExactEliminateVarUptoRow.holds Try.pinned (OpenSpec.upto fnExactEliminateVarSpec)

/-- 'laws.FnExactHoleSteps', WHERE WHAT IT READS IS OF BULK AT MOST 1048576: true; the input reads as it did. -/
def fnExactHoleStepsUptoRow : OpenClaim := { program := "ytailofgkfldepaa", sum := "e9e2ed31830df2333723d9fdf3af73e62bdd5dadf50358742ef94fbf800bcb41", func := "loop.example/g01080/laws.FnExactHoleSteps", spec := "fnExactHoleSteps", unfollowed := true, recurses := true, apart := false, narrowed := true }
def FnExactHoleStepsUptoSaid : Prop := fnExactHoleStepsUptoRow.holds Try.pinned (OpenSpec.upto fnExactHoleStepsSpec)

/-- 'laws.FnExactPigeonPlanes', WHERE WHAT IT READS IS OF BULK AT MOST 1048576: true; the input reads as it did. -/
def fnExactPigeonPlanesUptoRow : OpenClaim := { program := "ytailofgkfldepaa", sum := "e9e2ed31830df2333723d9fdf3af73e62bdd5dadf50358742ef94fbf800bcb41", func := "loop.example/g01080/laws.FnExactPigeonPlanes", spec := "fnExactPigeonPlanes", unfollowed := true, recurses := true, apart := false, narrowed := true }
def FnExactPigeonPlanesUptoSaid : Prop := fnExactPigeonPlanesUptoRow.holds Try.pinned (OpenSpec.upto fnExactPigeonPlanesSpec)

/-- 'laws.FnExactTrimPlanes', WHERE WHAT IT READS IS OF BULK AT MOST 1048576: true; the input reads as it did. -/
def fnExactTrimPlanesUptoRow : OpenClaim := { program := "ytailofgkfldepaa", sum := "e9e2ed31830df2333723d9fdf3af73e62bdd5dadf50358742ef94fbf800bcb41", func := "loop.example/g01080/laws.FnExactTrimPlanes", spec := "fnExactTrimPlanes", unfollowed := true, recurses := true, apart := false, narrowed := true }
def FnExactTrimPlanesUptoSaid : Prop := fnExactTrimPlanesUptoRow.holds Try.pinned (OpenSpec.upto fnExactTrimPlanesSpec)

end Rows
end Go.Proofs.Ytailofgkfldepaa
