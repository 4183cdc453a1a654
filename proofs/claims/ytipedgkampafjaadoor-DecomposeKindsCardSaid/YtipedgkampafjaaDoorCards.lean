/-
  DERIVED. GIVEN WITH THE SEED: THE CARDS: each row of YtipedgkampafjaaDoorRows.lean that lists a variable, with what it lists TIED to the program's text (the seventh form; the later family's looks); each row that meets fmt, with fmt's text TOLD by the authors' own Lean function (tested against real Go, not proved from fmt's source: count such statements apart). THE CARD IS WHAT COUNTS. Prove the row's statement (the work); the ties are given (YtipedgkampafjaaDoorTie.lean); close each card by the builder's one call (the guide's Derived/Test/ToyasCard.lean, 'card_holds'). Laid BY PROGRAM, IN A SANDBOX (cutbox-door.mjs). By AI agents, Wed Nov 11 2026. No macro, syntax, notation, axiom, sorry.
-/
import Derived.Test.YtipedgkampafjaaDoorRows
import GoSem.ClaimSeven
namespace Go.Proofs.YtipedgkampafjaaDoor
namespace Rows

/-- THE TIED CARD OF 'unicodetextlaw21.DecomposeDistributes'. -/
def decomposeDistributesCard : Claim7 := { stood := { row := decomposeDistributesRow, standIns := [], harness := (true, "a0966ed7559ac995dad48d39cc67bc848167ddc319a5e224172e24aff8927d6d"), looks := false }, kinds := [], alts := [], laidByText := true, laidKinds := [.data], laidTests := true, laidLooks := .later }
def DecomposeDistributesCardSaid : Prop := Claim7.holds Tryd.pinned (.plain (OpenSpec.ofChange decomposeDistributesSpec)) decomposeDistributesCard

/-- THE TIED CARD OF 'unicodetextlaw21.DecomposeKinds'. -/
def decomposeKindsCard : Claim7 := { stood := { row := decomposeKindsRow, standIns := [], harness := (true, "a0966ed7559ac995dad48d39cc67bc848167ddc319a5e224172e24aff8927d6d"), looks := false }, kinds := [], alts := [], laidByText := true, laidKinds := [.data], laidTests := true, laidLooks := .later }
def DecomposeKindsCardSaid : Prop := Claim7.holds Tryd.pinned (.plain (OpenSpec.ofChange decomposeKindsSpec)) decomposeKindsCard

/-- THE SECOND FORM's CARD OF 'unicodetextlaw21.DecomposeDistributes'. -/
def decomposeDistributesUptoCard : Claim7 := { stood := { row := decomposeDistributesUptoRow, standIns := [], harness := (true, "a0966ed7559ac995dad48d39cc67bc848167ddc319a5e224172e24aff8927d6d"), looks := false }, kinds := [], alts := [], laidByText := true, laidKinds := [.data], laidTests := true, laidLooks := .later }
def DecomposeDistributesUptoCardSaid : Prop := Claim7.holds Tryd.pinned (.plain (OpenSpec.upto decomposeDistributesSpec)) decomposeDistributesUptoCard

/-- THE SECOND FORM's CARD OF 'unicodetextlaw21.DecomposeKinds'. -/
def decomposeKindsUptoCard : Claim7 := { stood := { row := decomposeKindsUptoRow, standIns := [], harness := (true, "a0966ed7559ac995dad48d39cc67bc848167ddc319a5e224172e24aff8927d6d"), looks := false }, kinds := [], alts := [], laidByText := true, laidKinds := [.data], laidTests := true, laidLooks := .later }
def DecomposeKindsUptoCardSaid : Prop := Claim7.holds Tryd.pinned (.plain (OpenSpec.upto decomposeKindsSpec)) decomposeKindsUptoCard
end Rows
end Go.Proofs.YtipedgkampafjaaDoor
