/-
  DERIVED. GIVEN WITH THE SEED: THE CARDS: each row of YtipedgkampafjaaGreatDoorRows.lean that lists a variable, with what it lists TIED to the program's text (the seventh form; the later family's looks); each row that meets fmt, with fmt's text TOLD by the authors' own Lean function (tested against real Go, not proved from fmt's source: count such statements apart). THE CARD IS WHAT COUNTS. Prove the row's statement (the work); the ties are given (YtipedgkampafjaaGreatDoorTie.lean); close each card by the builder's one call (the guide's Derived/Test/ToyasCard.lean, 'card_holds'). Laid BY PROGRAM, IN A SANDBOX (cutbox-door.mjs). By AI agents, Wed Nov 11 2026. No macro, syntax, notation, axiom, sorry.
-/
import Derived.Test.YtipedgkampafjaaGreatDoorRows
import GoSem.ClaimSeven
namespace Go.Proofs.YtipedgkampafjaaGreatDoor
namespace Rows

/-- THE TIED CARD OF 'unicodetextlaw21.DecomposeChecks'. -/
def decomposeChecksCard : Claim7 := { stood := { row := decomposeChecksRow, standIns := [], harness := (true, "1a10d2ccb5e82c218a405843a95b3ace432b6316a19c4ba37327593f0388a1c0"), looks := false }, kinds := [], alts := [], laidByText := true, laidKinds := [.data], laidTests := true, laidLooks := .later }
def DecomposeChecksCardSaid : Prop := Claim7.holds Tryz.pinned (.plain (OpenSpec.ofChange decomposeChecksSpec)) decomposeChecksCard

/-- THE TIED CARD OF 'unicodetextlaw21.DecomposeChanges'. -/
def decomposeChangesCard : Claim7 := { stood := { row := decomposeChangesRow, standIns := [], harness := (true, "1a10d2ccb5e82c218a405843a95b3ace432b6316a19c4ba37327593f0388a1c0"), looks := false }, kinds := [], alts := [], laidByText := true, laidKinds := [.data], laidTests := true, laidLooks := .later }
def DecomposeChangesCardSaid : Prop := Claim7.holds Tryz.pinned (.plain (OpenSpec.ofChange decomposeChangesSpec)) decomposeChangesCard

/-- THE TIED CARD OF 'unicodetextlaw21.DecomposeJoins'. -/
def decomposeJoinsCard : Claim7 := { stood := { row := decomposeJoinsRow, standIns := [], harness := (true, "1a10d2ccb5e82c218a405843a95b3ace432b6316a19c4ba37327593f0388a1c0"), looks := false }, kinds := [], alts := [], laidByText := true, laidKinds := [.data], laidTests := true, laidLooks := .later }
def DecomposeJoinsCardSaid : Prop := Claim7.holds Tryz.pinned (.plain (OpenSpec.ofChange decomposeJoinsSpec)) decomposeJoinsCard

/-- THE TIED CARD OF 'unicodetextlaw21.DecomposeTwice'. -/
def decomposeTwiceCard : Claim7 := { stood := { row := decomposeTwiceRow, standIns := [], harness := (true, "1a10d2ccb5e82c218a405843a95b3ace432b6316a19c4ba37327593f0388a1c0"), looks := false }, kinds := [], alts := [], laidByText := true, laidKinds := [.data], laidTests := true, laidLooks := .later }
def DecomposeTwiceCardSaid : Prop := Claim7.holds Tryz.pinned (.plain (OpenSpec.ofChange decomposeTwiceSpec)) decomposeTwiceCard

/-- THE TIED CARD OF 'unicodetextlaw21.DecomposeEmpty'. -/
def decomposeEmptyCard : Claim7 := { stood := { row := decomposeEmptyRow, standIns := [], harness := (true, "1a10d2ccb5e82c218a405843a95b3ace432b6316a19c4ba37327593f0388a1c0"), looks := false }, kinds := [], alts := [], laidByText := true, laidKinds := [.data], laidTests := true, laidLooks := .later }
def DecomposeEmptyCardSaid : Prop := Claim7.holds Tryz.pinned (.plain (OpenSpec.ofChange decomposeEmptySpec)) decomposeEmptyCard

/-- THE SECOND FORM's CARD OF 'unicodetextlaw21.DecomposeChecks'. -/
def decomposeChecksUptoCard : Claim7 := { stood := { row := decomposeChecksUptoRow, standIns := [], harness := (true, "1a10d2ccb5e82c218a405843a95b3ace432b6316a19c4ba37327593f0388a1c0"), looks := false }, kinds := [], alts := [], laidByText := true, laidKinds := [.data], laidTests := true, laidLooks := .later }
def DecomposeChecksUptoCardSaid : Prop := Claim7.holds Tryz.pinned (.plain (OpenSpec.upto decomposeChecksSpec)) decomposeChecksUptoCard

/-- THE SECOND FORM's CARD OF 'unicodetextlaw21.DecomposeChanges'. -/
def decomposeChangesUptoCard : Claim7 := { stood := { row := decomposeChangesUptoRow, standIns := [], harness := (true, "1a10d2ccb5e82c218a405843a95b3ace432b6316a19c4ba37327593f0388a1c0"), looks := false }, kinds := [], alts := [], laidByText := true, laidKinds := [.data], laidTests := true, laidLooks := .later }
def DecomposeChangesUptoCardSaid : Prop := Claim7.holds Tryz.pinned (.plain (OpenSpec.upto decomposeChangesSpec)) decomposeChangesUptoCard

/-- THE SECOND FORM's CARD OF 'unicodetextlaw21.DecomposeJoins'. -/
def decomposeJoinsUptoCard : Claim7 := { stood := { row := decomposeJoinsUptoRow, standIns := [], harness := (true, "1a10d2ccb5e82c218a405843a95b3ace432b6316a19c4ba37327593f0388a1c0"), looks := false }, kinds := [], alts := [], laidByText := true, laidKinds := [.data], laidTests := true, laidLooks := .later }
def DecomposeJoinsUptoCardSaid : Prop := Claim7.holds Tryz.pinned (.plain (OpenSpec.upto decomposeJoinsSpec)) decomposeJoinsUptoCard

/-- THE SECOND FORM's CARD OF 'unicodetextlaw21.DecomposeTwice'. -/
def decomposeTwiceUptoCard : Claim7 := { stood := { row := decomposeTwiceUptoRow, standIns := [], harness := (true, "1a10d2ccb5e82c218a405843a95b3ace432b6316a19c4ba37327593f0388a1c0"), looks := false }, kinds := [], alts := [], laidByText := true, laidKinds := [.data], laidTests := true, laidLooks := .later }
def DecomposeTwiceUptoCardSaid : Prop := Claim7.holds Tryz.pinned (.plain (OpenSpec.upto decomposeTwiceSpec)) decomposeTwiceUptoCard

/-- THE SECOND FORM's CARD OF 'unicodetextlaw21.DecomposeEmpty'. -/
def decomposeEmptyUptoCard : Claim7 := { stood := { row := decomposeEmptyUptoRow, standIns := [], harness := (true, "1a10d2ccb5e82c218a405843a95b3ace432b6316a19c4ba37327593f0388a1c0"), looks := false }, kinds := [], alts := [], laidByText := true, laidKinds := [.data], laidTests := true, laidLooks := .later }
def DecomposeEmptyUptoCardSaid : Prop := Claim7.holds Tryz.pinned (.plain (OpenSpec.upto decomposeEmptySpec)) decomposeEmptyUptoCard
end Rows
end Go.Proofs.YtipedgkampafjaaGreatDoor
