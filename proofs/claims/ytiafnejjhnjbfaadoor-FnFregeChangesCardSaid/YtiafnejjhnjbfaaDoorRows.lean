/-
  NARROWER THAN 'FOR EVERY INPUT', by the rows' own cells (each row's printed sentence says how): FnPolarity: laid · FnFregeChanges: laid.
  DERIVED. THE GIVEN ROWS OF THIS SEAT. 2 by the template 'for every input the law returns true; each argument reads behind the call as it read before'; 0 by the template 'total and deterministic' (their statements: YtiafnejjhnjbfaaDoorTotals.lean).
  GIVEN WITH THE SEED: the statements are not yours to turn. If you find one false, say at which input.
  Laid BY PROGRAM, IN A SANDBOX (cutbox-rows.mjs): the forced cells as the released guide's own fill.sh prints them over the translation 65c2bd86b56d17af… (all of the seat's roots in one cut). By AI agents, Wed Nov 11 2026. No macro, syntax, notation, axiom, sorry.
-/
import Derived.Test.YtiafnejjhnjbfaaDoorChecked
import GoSem.PinnedTables
import GoSem.Claim
import GoSem.ClaimJoined
import GoSem.ClaimMapViews
import Derived.JoinedTies
import Derived.KernelRfl
namespace Go.Proofs.YtiafnejjhnjbfaaDoor
/- THE CELL 'sum', in the pinned program and in every row, IS THE sha256 OF THE DUMP (.gsa) THAT YtiafnejjhnjbfaaDoorProg.lean LOADS. Nothing in Lean hashes anything: it is a label: what it is worth is what the hold of that sum in a sandbox is worth. -/
noncomputable def Tryd.pinned : Pinned := { name := "ytiafnejjhnjbfaadoor", sum := "65c2bd86b56d17af1fbaabf36757122be238334c0eb72fdf83e5adaecdf19464", checked := Tryd.checked }
namespace Rows
def none {H : Type} : Left H := { results := [], args := [] }

/- WHAT THE LISTED PACKAGE-LEVEL VARIABLES READ AS WHEN THE CALL BEGINS. Each datum BY PROGRAM (the guide's laid-datum.mjs) off the statement by which the dump's own 'gosem.cut.vars' lays the variable. In a bare row this is a premise. The card (YtiafnejjhnjbfaaDoorCards.lean) ties it to the program's text. -/
def laid_unicode_utf8_acceptRanges {H : Type} : DataW H := .agg [.agg [.lit (.int .u8 128), .lit (.int .u8 191)], .agg [.lit (.int .u8 160), .lit (.int .u8 191)], .agg [.lit (.int .u8 128), .lit (.int .u8 159)], .agg [.lit (.int .u8 144), .lit (.int .u8 191)], .agg [.lit (.int .u8 128), .lit (.int .u8 143)], .agg [.lit (.int .u8 0), .lit (.int .u8 0)], .agg [.lit (.int .u8 0), .lit (.int .u8 0)], .agg [.lit (.int .u8 0), .lit (.int .u8 0)], .agg [.lit (.int .u8 0), .lit (.int .u8 0)], .agg [.lit (.int .u8 0), .lit (.int .u8 0)], .agg [.lit (.int .u8 0), .lit (.int .u8 0)], .agg [.lit (.int .u8 0), .lit (.int .u8 0)], .agg [.lit (.int .u8 0), .lit (.int .u8 0)], .agg [.lit (.int .u8 0), .lit (.int .u8 0)], .agg [.lit (.int .u8 0), .lit (.int .u8 0)], .agg [.lit (.int .u8 0), .lit (.int .u8 0)]]
/-- One of Go's own tables, pinned by name: the form's constant. -/
def laid_unicode_utf8_first : DataW Unit := Go.Pinned.utf8First
def laid_loop_example_g01080_impl_schemes {H : Type} : DataW H := .agg [.lit (.string [40, 97, 62, 40, 98, 62, 97, 41, 41]), .lit (.string [40, 40, 97, 62, 40, 98, 62, 99, 41, 41, 62, 40, 40, 97, 62, 98, 41, 62, 40, 97, 62, 99, 41, 41, 41]), .lit (.string [40, 40, 126, 97, 62, 126, 98, 41, 62, 40, 98, 62, 97, 41, 41]), .lit (.string [40, 40, 97, 38, 98, 41, 62, 97, 41]), .lit (.string [40, 40, 97, 38, 98, 41, 62, 98, 41]), .lit (.string [40, 97, 62, 40, 98, 62, 40, 97, 38, 98, 41, 41, 41]), .lit (.string [40, 97, 62, 40, 97, 124, 98, 41, 41]), .lit (.string [40, 98, 62, 40, 97, 124, 98, 41, 41]), .lit (.string [40, 40, 97, 62, 99, 41, 62, 40, 40, 98, 62, 99, 41, 62, 40, 40, 97, 124, 98, 41, 62, 99, 41, 41, 41]), .lit (.string [49])]

/-- 'laws.FnPolarity': WHATEVER THE INPUT: true; the input reads as it did. -/
def fnPolaritySpec : ChangeSpec := { name := "fnPolarity", fn := fun _ => fun
  | [d] => { results := [.lit (.bool true)], args := [d] }
  | _ => none }
def fnPolarityRow : OpenClaim := { program := "ytiafnejjhnjbfaadoor", sum := "65c2bd86b56d17af1fbaabf36757122be238334c0eb72fdf83e5adaecdf19464", func := "loop.example/g01080/laws.FnPolarity", spec := "fnPolarity", inPlace := ["internal/bytealg.IndexByteString", "internal/bytealg.IndexString", "internal/bytealg.CountString", "internal/abi.NoEscape", "internal/bytealg.MakeNoZero"], recurses := true, named := ["internal/bytealg.MaxLen", "unicode/utf8.first", "unicode/utf8.acceptRanges"], apart := false, laid := [("unicode/utf8.acceptRanges", laid_unicode_utf8_acceptRanges), ("unicode/utf8.first", laid_unicode_utf8_first)] }
def FnPolaritySaid : Prop := fnPolarityRow.holds Tryd.pinned (OpenSpec.ofChange fnPolaritySpec)

/-- ITS FALSE NEIGHBOUR: 'it returns false'. Refute it at one input. -/
def fnPolarityWrong : ChangeSpec := { name := "fnPolarity", fn := fun _ => fun
  | [d] => { results := [.lit (.bool false)], args := [d] }
  | _ => none }
def FnPolarityWrongFalsely : Prop := fnPolarityRow.holds Tryd.pinned (OpenSpec.ofChange fnPolarityWrong)

/-- 'laws.FnFregeChanges': WHATEVER THE INPUT: true; the input reads as it did. -/
def fnFregeChangesSpec : ChangeSpec := { name := "fnFregeChanges", vars := ["loop.example/g01080/impl.schemes"], fn := fun _ => fun
  | [d, g1] => { results := [.lit (.bool true)], args := [d], vars := [g1] }
  | _ => none }
def fnFregeChangesRow : OpenClaim := { program := "ytiafnejjhnjbfaadoor", sum := "65c2bd86b56d17af1fbaabf36757122be238334c0eb72fdf83e5adaecdf19464", func := "loop.example/g01080/laws.FnFregeChanges", spec := "fnFregeChanges", inPlace := ["internal/bytealg.IndexByteString", "internal/bytealg.IndexString", "internal/bytealg.CountString", "internal/abi.NoEscape", "internal/bytealg.MakeNoZero"], unfollowed := true, recurses := true, named := ["internal/bytealg.MaxLen", "loop.example/g01080/impl.schemes", "unicode/utf8.first", "unicode/utf8.acceptRanges"], apart := false, laid := [("unicode/utf8.acceptRanges", laid_unicode_utf8_acceptRanges), ("loop.example/g01080/impl.schemes", laid_loop_example_g01080_impl_schemes), ("unicode/utf8.first", laid_unicode_utf8_first)] }
def FnFregeChangesSaid : Prop := fnFregeChangesRow.holds Tryd.pinned (OpenSpec.ofChange fnFregeChangesSpec)

/-- ITS FALSE NEIGHBOUR: 'it returns false'. Refute it at one input. -/
def fnFregeChangesWrong : ChangeSpec := { name := "fnFregeChanges", vars := ["loop.example/g01080/impl.schemes"], fn := fun _ => fun
  | [d, g1] => { results := [.lit (.bool false)], args := [d], vars := [g1] }
  | _ => none }
def FnFregeChangesWrongFalsely : Prop := fnFregeChangesRow.holds Tryd.pinned (OpenSpec.ofChange fnFregeChangesWrong)

/- THE SECOND FORM. 'bulk': how many values and letters a reading holds, each counted each time it is reached (what is shared counts as often as it is met; a slice's spare places count too). A statement '..UptoSaid' is the law's where the arguments, and the package variables that the reading takes, are together of bulk at most 1048576: NARROWER than '..Said'. Prove '..Said' where nothing that the law and all that it calls make is longer than what came in: it says more and counts as full. Else prove '..UptoSaid'. A law counts once. -/
mutual
def uptoBulk {H : Type} : DataW H → Nat
  | .lit (.string bytes) => bytes.length + 1
  | .lit _ => 1
  | .nil => 1
  | .ptr d => uptoBulk d + 1
  | .slice elems spare => uptoBulkAll elems + uptoBulkAll spare + 1
  | .agg parts => uptoBulkAll parts + 1
  | .iface _ d => uptoBulk d + 1
  | .map entries => uptoBulkEntries entries + 1
  | .held _ => 1
def uptoBulkAll {H : Type} : List (DataW H) → Nat
  | [] => 0
  | d :: r => uptoBulk d + uptoBulkAll r
def uptoBulkEntries {H : Type} : List (Lit × DataW H) → Nat
  | [] => 0
  | x :: r => uptoBulkEntry x + uptoBulkEntries r
def uptoBulkEntry {H : Type} : Lit × DataW H → Nat
  | (.string bytes, d) => bytes.length + uptoBulk d + 1
  | (_, d) => uptoBulk d + 1
 end
def uptoSmall : (H : Type) → List (DataW H) → Bool := fun _ ds => decide (uptoBulkAll ds ≤ 1048576)
def OpenSpec.upto (s : _root_.Go.ChangeSpec) : _root_.Go.OpenSpec := { _root_.Go.OpenSpec.ofChange s with cond := some uptoSmall }

/-- 'laws.FnPolarity', WHERE WHAT IT READS IS OF BULK AT MOST 1048576: true; the input reads as it did. -/
def fnPolarityUptoRow : OpenClaim := { program := "ytiafnejjhnjbfaadoor", sum := "65c2bd86b56d17af1fbaabf36757122be238334c0eb72fdf83e5adaecdf19464", func := "loop.example/g01080/laws.FnPolarity", spec := "fnPolarity", inPlace := ["internal/bytealg.IndexByteString", "internal/bytealg.IndexString", "internal/bytealg.CountString", "internal/abi.NoEscape", "internal/bytealg.MakeNoZero"], recurses := true, named := ["internal/bytealg.MaxLen", "unicode/utf8.first", "unicode/utf8.acceptRanges"], apart := false, laid := [("unicode/utf8.acceptRanges", laid_unicode_utf8_acceptRanges), ("unicode/utf8.first", laid_unicode_utf8_first)], narrowed := true }
def FnPolarityUptoSaid : Prop := fnPolarityUptoRow.holds Tryd.pinned (OpenSpec.upto fnPolaritySpec)

/-- 'laws.FnFregeChanges', WHERE WHAT IT READS IS OF BULK AT MOST 1048576: true; the input reads as it did. -/
def fnFregeChangesUptoRow : OpenClaim := { program := "ytiafnejjhnjbfaadoor", sum := "65c2bd86b56d17af1fbaabf36757122be238334c0eb72fdf83e5adaecdf19464", func := "loop.example/g01080/laws.FnFregeChanges", spec := "fnFregeChanges", inPlace := ["internal/bytealg.IndexByteString", "internal/bytealg.IndexString", "internal/bytealg.CountString", "internal/abi.NoEscape", "internal/bytealg.MakeNoZero"], unfollowed := true, recurses := true, named := ["internal/bytealg.MaxLen", "loop.example/g01080/impl.schemes", "unicode/utf8.first", "unicode/utf8.acceptRanges"], apart := false, laid := [("unicode/utf8.acceptRanges", laid_unicode_utf8_acceptRanges), ("loop.example/g01080/impl.schemes", laid_loop_example_g01080_impl_schemes), ("unicode/utf8.first", laid_unicode_utf8_first)], narrowed := true }
def FnFregeChangesUptoSaid : Prop := fnFregeChangesUptoRow.holds Tryd.pinned (OpenSpec.upto fnFregeChangesSpec)

end Rows
end Go.Proofs.YtiafnejjhnjbfaaDoor
