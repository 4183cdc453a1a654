/-
  NARROWER THAN 'FOR EVERY INPUT', by the rows' own cells (each row's printed sentence says how): DecomposeChecks: laid · DecomposeChanges: laid · DecomposeJoins: laid · DecomposeTwice: laid · DecomposeEmpty: laid.
  DERIVED. THE GIVEN ROWS OF THIS SEAT. 5 by the template 'for every input the law returns true; each argument reads behind the call as it read before'; 0 by the template 'total and deterministic' (their statements: YtipedgkampafjaaGreatDoorTotals.lean).
  GIVEN WITH THE SEED: the statements are not yours to turn. If you find one false, say at which input.
  Laid BY PROGRAM, IN A SANDBOX (cutbox-rows.mjs): the forced cells as the released guide's own fill.sh prints them over the translation 97539bd51c86d375… (all of the seat's roots in one cut). By AI agents, Wed Nov 11 2026. No macro, syntax, notation, axiom, sorry.
-/
import Derived.Test.YtipedgkampafjaaGreatDoorChecked
import GoSem.Claim
import GoSem.ClaimJoined
import GoSem.ClaimMapViews
import Derived.JoinedTies
import Derived.KernelRfl
namespace Go.Proofs.YtipedgkampafjaaGreatDoor
/- THE CELL 'sum', in the pinned program and in every row, IS THE sha256 OF THE DUMP (.gsa) THAT YtipedgkampafjaaGreatDoorProg.lean LOADS. Nothing in Lean hashes anything: it is a label: what it is worth is what the hold of that sum in a sandbox is worth. -/
noncomputable def Tryz.pinned : Pinned := { name := "ytipedgkampafjaagreatdoor", sum := "97539bd51c86d37517b067436d959c6770510bc6c88255e0d260a071c0266b53", checked := Tryz.checked }
namespace Rows
def none {H : Type} : Left H := { results := [], args := [] }

/- WHAT THE LISTED PACKAGE-LEVEL VARIABLES READ AS WHEN THE CALL BEGINS. Each datum BY PROGRAM (the guide's laid-datum.mjs) off the statement by which the dump's own 'gosem.cut.vars' lays the variable. In a bare row this is a premise. The card (YtipedgkampafjaaGreatDoorCards.lean) ties it to the program's text. -/
def laid_unicodetext_ordering_ranges {H : Type} : DataW H := .agg [.agg [.lit (.int .i64 4352), .lit (.int .i64 4370)], .agg [.lit (.int .i64 4449), .lit (.int .i64 4469)], .agg [.lit (.int .i64 4520), .lit (.int .i64 4546)], .agg [.lit (.int .i64 44032), .lit (.int .i64 55203)]]

/-- 'unicodetextlaw21.DecomposeChecks': WHATEVER THE INPUT: true; the input reads as it did. -/
def decomposeChecksSpec : ChangeSpec := { name := "decomposeChecks", fn := fun _ => fun
  | [d] => { results := [.lit (.bool true)], args := [d] }
  | _ => none }
def decomposeChecksRow : OpenClaim := { program := "ytipedgkampafjaagreatdoor", sum := "97539bd51c86d37517b067436d959c6770510bc6c88255e0d260a071c0266b53", func := "unicodetext/unicodetextlaw21.DecomposeChecks", spec := "decomposeChecks", inPlace := ["internal/bytealg.abigen_runtime_cmpstring"], unfollowed := true, recurses := true, named := ["unicodetext/ordering.ranges"], plainKeys := false, apart := false, laid := [("unicodetext/ordering.ranges", laid_unicodetext_ordering_ranges)] }
def DecomposeChecksSaid : Prop := decomposeChecksRow.holds Tryz.pinned (OpenSpec.ofChange decomposeChecksSpec)

/-- ITS FALSE NEIGHBOUR: 'it returns false'. Refute it at one input. -/
def decomposeChecksWrong : ChangeSpec := { name := "decomposeChecks", fn := fun _ => fun
  | [d] => { results := [.lit (.bool false)], args := [d] }
  | _ => none }
def DecomposeChecksWrongFalsely : Prop := decomposeChecksRow.holds Tryz.pinned (OpenSpec.ofChange decomposeChecksWrong)

/-- 'unicodetextlaw21.DecomposeChanges': WHATEVER THE INPUT: true; the input reads as it did. -/
def decomposeChangesSpec : ChangeSpec := { name := "decomposeChanges", fn := fun _ => fun
  | [d1, d2, d3] => { results := [.lit (.bool true)], args := [d1, d2, d3] }
  | _ => none }
def decomposeChangesRow : OpenClaim := { program := "ytipedgkampafjaagreatdoor", sum := "97539bd51c86d37517b067436d959c6770510bc6c88255e0d260a071c0266b53", func := "unicodetext/unicodetextlaw21.DecomposeChanges", spec := "decomposeChanges", inPlace := ["internal/bytealg.abigen_runtime_cmpstring"], unfollowed := true, recurses := true, named := ["unicodetext/ordering.ranges"], plainKeys := false, apart := false, laid := [("unicodetext/ordering.ranges", laid_unicodetext_ordering_ranges)] }
def DecomposeChangesSaid : Prop := decomposeChangesRow.holds Tryz.pinned (OpenSpec.ofChange decomposeChangesSpec)

/-- ITS FALSE NEIGHBOUR: 'it returns false'. Refute it at one input. -/
def decomposeChangesWrong : ChangeSpec := { name := "decomposeChanges", fn := fun _ => fun
  | [d1, d2, d3] => { results := [.lit (.bool false)], args := [d1, d2, d3] }
  | _ => none }
def DecomposeChangesWrongFalsely : Prop := decomposeChangesRow.holds Tryz.pinned (OpenSpec.ofChange decomposeChangesWrong)

/-- 'unicodetextlaw21.DecomposeJoins': WHATEVER THE INPUT: true; the input reads as it did. -/
def decomposeJoinsSpec : ChangeSpec := { name := "decomposeJoins", fn := fun _ => fun
  | [d1, d2, d3] => { results := [.lit (.bool true)], args := [d1, d2, d3] }
  | _ => none }
def decomposeJoinsRow : OpenClaim := { program := "ytipedgkampafjaagreatdoor", sum := "97539bd51c86d37517b067436d959c6770510bc6c88255e0d260a071c0266b53", func := "unicodetext/unicodetextlaw21.DecomposeJoins", spec := "decomposeJoins", inPlace := ["internal/bytealg.abigen_runtime_cmpstring"], unfollowed := true, recurses := true, named := ["unicodetext/ordering.ranges"], plainKeys := false, apart := false, laid := [("unicodetext/ordering.ranges", laid_unicodetext_ordering_ranges)] }
def DecomposeJoinsSaid : Prop := decomposeJoinsRow.holds Tryz.pinned (OpenSpec.ofChange decomposeJoinsSpec)

/-- ITS FALSE NEIGHBOUR: 'it returns false'. Refute it at one input. -/
def decomposeJoinsWrong : ChangeSpec := { name := "decomposeJoins", fn := fun _ => fun
  | [d1, d2, d3] => { results := [.lit (.bool false)], args := [d1, d2, d3] }
  | _ => none }
def DecomposeJoinsWrongFalsely : Prop := decomposeJoinsRow.holds Tryz.pinned (OpenSpec.ofChange decomposeJoinsWrong)

/-- 'unicodetextlaw21.DecomposeTwice': WHATEVER THE INPUT: true; the input reads as it did. -/
def decomposeTwiceSpec : ChangeSpec := { name := "decomposeTwice", fn := fun _ => fun
  | [d1, d2, d3] => { results := [.lit (.bool true)], args := [d1, d2, d3] }
  | _ => none }
def decomposeTwiceRow : OpenClaim := { program := "ytipedgkampafjaagreatdoor", sum := "97539bd51c86d37517b067436d959c6770510bc6c88255e0d260a071c0266b53", func := "unicodetext/unicodetextlaw21.DecomposeTwice", spec := "decomposeTwice", inPlace := ["internal/bytealg.abigen_runtime_cmpstring"], unfollowed := true, recurses := true, named := ["unicodetext/ordering.ranges"], plainKeys := false, apart := false, laid := [("unicodetext/ordering.ranges", laid_unicodetext_ordering_ranges)] }
def DecomposeTwiceSaid : Prop := decomposeTwiceRow.holds Tryz.pinned (OpenSpec.ofChange decomposeTwiceSpec)

/-- ITS FALSE NEIGHBOUR: 'it returns false'. Refute it at one input. -/
def decomposeTwiceWrong : ChangeSpec := { name := "decomposeTwice", fn := fun _ => fun
  | [d1, d2, d3] => { results := [.lit (.bool false)], args := [d1, d2, d3] }
  | _ => none }
def DecomposeTwiceWrongFalsely : Prop := decomposeTwiceRow.holds Tryz.pinned (OpenSpec.ofChange decomposeTwiceWrong)

/-- 'unicodetextlaw21.DecomposeEmpty': WHATEVER THE INPUT: true; the input reads as it did. -/
def decomposeEmptySpec : ChangeSpec := { name := "decomposeEmpty", fn := fun _ => fun
  | [d1, d2, d3] => { results := [.lit (.bool true)], args := [d1, d2, d3] }
  | _ => none }
def decomposeEmptyRow : OpenClaim := { program := "ytipedgkampafjaagreatdoor", sum := "97539bd51c86d37517b067436d959c6770510bc6c88255e0d260a071c0266b53", func := "unicodetext/unicodetextlaw21.DecomposeEmpty", spec := "decomposeEmpty", inPlace := ["internal/bytealg.abigen_runtime_cmpstring"], unfollowed := true, recurses := true, named := ["unicodetext/ordering.ranges"], plainKeys := false, apart := false, laid := [("unicodetext/ordering.ranges", laid_unicodetext_ordering_ranges)] }
def DecomposeEmptySaid : Prop := decomposeEmptyRow.holds Tryz.pinned (OpenSpec.ofChange decomposeEmptySpec)

/-- ITS FALSE NEIGHBOUR: 'it returns false'. Refute it at one input. -/
def decomposeEmptyWrong : ChangeSpec := { name := "decomposeEmpty", fn := fun _ => fun
  | [d1, d2, d3] => { results := [.lit (.bool false)], args := [d1, d2, d3] }
  | _ => none }
def DecomposeEmptyWrongFalsely : Prop := decomposeEmptyRow.holds Tryz.pinned (OpenSpec.ofChange decomposeEmptyWrong)

/- THE SECOND FORM. 'bulk': how many values and letters a reading holds, each counted each time it is reached (what is shared counts as often as it is met; a slice's spare places count too). A statement '..UptoSaid' is the law's where the arguments, and the package variables that the reading takes, are together of bulk at most 1048576: NARROWER than '..Said'. Prove '..Said' where nothing that the law and all that it calls make is longer than what came in: it says more and counts as full. Else prove '..UptoSaid'. A law counts once. -/
mutual
def uptoBulk {H : Type} : DataW H → Nat
  | .lit (.string bytes) => bytes.length + 1
  | .lit _ => 1
  | .nil => 1
  | .ptr d => uptoBulk d + 1
  | .slice elems spare => uptoBulkAll elems + uptoBulkAll spare + 1
  | .agg parts => uptoBulkAll parts + 1
  | .iface _ d => uptoBulk d + 1
  | .map entries => uptoBulkEntries entries + 1
  | .held _ => 1
def uptoBulkAll {H : Type} : List (DataW H) → Nat
  | [] => 0
  | d :: r => uptoBulk d + uptoBulkAll r
def uptoBulkEntries {H : Type} : List (Lit × DataW H) → Nat
  | [] => 0
  | x :: r => uptoBulkEntry x + uptoBulkEntries r
def uptoBulkEntry {H : Type} : Lit × DataW H → Nat
  | (.string bytes, d) => bytes.length + uptoBulk d + 1
  | (_, d) => uptoBulk d + 1
 end
def uptoSmall : (H : Type) → List (DataW H) → Bool := fun _ ds => decide (uptoBulkAll ds ≤ 1048576)
def OpenSpec.upto (s : _root_.Go.ChangeSpec) : _root_.Go.OpenSpec := { _root_.Go.OpenSpec.ofChange s with cond := some uptoSmall }

/-- 'unicodetextlaw21.DecomposeChecks', WHERE WHAT IT READS IS OF BULK AT MOST 1048576: true; the input reads as it did. -/
def decomposeChecksUptoRow : OpenClaim := { program := "ytipedgkampafjaagreatdoor", sum := "97539bd51c86d37517b067436d959c6770510bc6c88255e0d260a071c0266b53", func := "unicodetext/unicodetextlaw21.DecomposeChecks", spec := "decomposeChecks", inPlace := ["internal/bytealg.abigen_runtime_cmpstring"], unfollowed := true, recurses := true, named := ["unicodetext/ordering.ranges"], plainKeys := false, apart := false, laid := [("unicodetext/ordering.ranges", laid_unicodetext_ordering_ranges)], narrowed := true }
def DecomposeChecksUptoSaid : Prop := decomposeChecksUptoRow.holds Tryz.pinned (OpenSpec.upto decomposeChecksSpec)

/-- 'unicodetextlaw21.DecomposeChanges', WHERE WHAT IT READS IS OF BULK AT MOST 1048576: true; the input reads as it did. -/
def decomposeChangesUptoRow : OpenClaim := { program := "ytipedgkampafjaagreatdoor", sum := "97539bd51c86d37517b067436d959c6770510bc6c88255e0d260a071c0266b53", func := "unicodetext/unicodetextlaw21.DecomposeChanges", spec := "decomposeChanges", inPlace := ["internal/bytealg.abigen_runtime_cmpstring"], unfollowed := true, recurses := true, named := ["unicodetext/ordering.ranges"], plainKeys := false, apart := false, laid := [("unicodetext/ordering.ranges", laid_unicodetext_ordering_ranges)], narrowed := true }
def DecomposeChangesUptoSaid : Prop := decomposeChangesUptoRow.holds Tryz.pinned (OpenSpec.upto decomposeChangesSpec)

/-- 'unicodetextlaw21.DecomposeJoins', WHERE WHAT IT READS IS OF BULK AT MOST 1048576: true; the input reads as it did. -/
def decomposeJoinsUptoRow : OpenClaim := { program := "ytipedgkampafjaagreatdoor", sum := "97539bd51c86d37517b067436d959c6770510bc6c88255e0d260a071c0266b53", func := "unicodetext/unicodetextlaw21.DecomposeJoins", spec := "decomposeJoins", inPlace := ["internal/bytealg.abigen_runtime_cmpstring"], unfollowed := true, recurses := true, named := ["unicodetext/ordering.ranges"], plainKeys := false, apart := false, laid := [("unicodetext/ordering.ranges", laid_unicodetext_ordering_ranges)], narrowed := true }
def DecomposeJoinsUptoSaid : Prop := decomposeJoinsUptoRow.holds Tryz.pinned (OpenSpec.upto decomposeJoinsSpec)

/-- 'unicodetextlaw21.DecomposeTwice', WHERE WHAT IT READS IS OF BULK AT MOST 1048576: true; the input reads as it did. -/
def decomposeTwiceUptoRow : OpenClaim := { program := "ytipedgkampafjaagreatdoor", sum := "97539bd51c86d37517b067436d959c6770510bc6c88255e0d260a071c0266b53", func := "unicodetext/unicodetextlaw21.DecomposeTwice", spec := "decomposeTwice", inPlace := ["internal/bytealg.abigen_runtime_cmpstring"], unfollowed := true, recurses := true, named := ["unicodetext/ordering.ranges"], plainKeys := false, apart := false, laid := [("unicodetext/ordering.ranges", laid_unicodetext_ordering_ranges)], narrowed := true }
def DecomposeTwiceUptoSaid : Prop := decomposeTwiceUptoRow.holds Tryz.pinned (OpenSpec.upto decomposeTwiceSpec)

/-- 'unicodetextlaw21.DecomposeEmpty', WHERE WHAT IT READS IS OF BULK AT MOST 1048576: true; the input reads as it did. -/
def decomposeEmptyUptoRow : OpenClaim := { program := "ytipedgkampafjaagreatdoor", sum := "97539bd51c86d37517b067436d959c6770510bc6c88255e0d260a071c0266b53", func := "unicodetext/unicodetextlaw21.DecomposeEmpty", spec := "decomposeEmpty", inPlace := ["internal/bytealg.abigen_runtime_cmpstring"], unfollowed := true, recurses := true, named := ["unicodetext/ordering.ranges"], plainKeys := false, apart := false, laid := [("unicodetext/ordering.ranges", laid_unicodetext_ordering_ranges)], narrowed := true }
def DecomposeEmptyUptoSaid : Prop := decomposeEmptyUptoRow.holds Tryz.pinned (OpenSpec.upto decomposeEmptySpec)

end Rows
end Go.Proofs.YtipedgkampafjaaGreatDoor
