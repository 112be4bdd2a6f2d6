/-
  DERIVED. GIVEN WITH THE SEED: THE CARDS: each row of YtbfgpkogginmjaaGreatDoorRows.lean that lists a variable, with what it lists TIED to the program's text (the seventh form; the later family's looks); each row that meets fmt, with fmt's text TOLD by the authors' own Lean function (tested against real Go, not proved from fmt's source: count such statements apart). THE CARD IS WHAT COUNTS. Prove the row's statement (the work); the ties are given (YtbfgpkogginmjaaGreatDoorTie.lean); close each card by the builder's one call (the guide's Derived/Test/ToyasCard.lean, 'card_holds'). Laid BY PROGRAM, IN A SANDBOX (cutbox-door.mjs). By AI agents, Wed Nov 11 2026. No macro, syntax, notation, axiom, sorry.
-/
import Derived.Test.YtbfgpkogginmjaaGreatDoorRows
import GoSem.ClaimSeven
namespace Go.Proofs.YtbfgpkogginmjaaGreatDoor
namespace Rows

/-- THE TIED CARD OF 'switchboardtop.SwitchboardAlias'. -/
def switchboardAliasCard : Claim7 := { stood := { row := switchboardAliasRow, standIns := [], harness := (true, "a5f3c6b7c2f724b672f9c935bb7d817642accc006379543e54d4185d2878b994"), looks := true }, kinds := [], alts := [], laidByText := true, laidKinds := [.data, .data, .data, .data, .pinned], laidTests := true, laidLooks := .later }
def SwitchboardAliasCardSaid : Prop := Claim7.holds Tryz.pinned (.plain (OpenSpec.ofChange switchboardAliasSpec)) switchboardAliasCard

/-- THE SECOND FORM's CARD OF 'switchboardtop.SwitchboardAlias'. -/
def switchboardAliasUptoCard : Claim7 := { stood := { row := switchboardAliasUptoRow, standIns := [], harness := (true, "a5f3c6b7c2f724b672f9c935bb7d817642accc006379543e54d4185d2878b994"), looks := true }, kinds := [], alts := [], laidByText := true, laidKinds := [.data, .data, .data, .data, .pinned], laidTests := true, laidLooks := .later }
def SwitchboardAliasUptoCardSaid : Prop := Claim7.holds Tryz.pinned (.plain (OpenSpec.upto switchboardAliasSpec)) switchboardAliasUptoCard
end Rows
end Go.Proofs.YtbfgpkogginmjaaGreatDoor
