/-
  DERIVED. GIVEN WITH THE SEED: THE CARDS: each row of YtljbchghbpmghaaGreatDoorRows.lean that lists a variable, with what it lists TIED to the program's text (the seventh form; the later family's looks); each row that meets fmt, with fmt's text TOLD by the authors' own Lean function (tested against real Go, not proved from fmt's source: count such statements apart). THE CARD IS WHAT COUNTS. Prove the row's statement (the work); the ties are given (YtljbchghbpmghaaGreatDoorTie.lean); close each card by the builder's one call (the guide's Derived/Test/ToyasCard.lean, 'card_holds'). Laid BY PROGRAM, IN A SANDBOX (cutbox-door.mjs). By AI agents, Wed Nov 11 2026. No macro, syntax, notation, axiom, sorry.
-/
import Derived.Test.YtljbchghbpmghaaGreatDoorRows
import GoSem.ClaimSeven
namespace Go.Proofs.YtljbchghbpmghaaGreatDoor
namespace Rows

/-- THE TIED CARD OF 'switchboardtop.SwitchboardStream'. -/
def switchboardStreamCard : Claim7 := { stood := { row := switchboardStreamRow, standIns := [], harness := (true, "b01f15c71bb8d04f455dedf6f90bc56e4288d8e0334b45b4f23347b74acade45"), looks := false }, kinds := [], alts := [], laidByText := true, laidKinds := [.data, .pinned], laidTests := true, laidLooks := .later }
def SwitchboardStreamCardSaid : Prop := Claim7.holds Tryz.pinned (.plain (OpenSpec.ofChange switchboardStreamSpec)) switchboardStreamCard

/-- THE TIED CARD OF 'switchboardtop.SwitchboardGreat'. -/
def switchboardGreatCard : Claim7 := { stood := { row := switchboardGreatRow, standIns := [], harness := (true, "b01f15c71bb8d04f455dedf6f90bc56e4288d8e0334b45b4f23347b74acade45"), looks := false }, kinds := [], alts := [], laidByText := true, laidKinds := [.data, .pinned], laidTests := true, laidLooks := .later }
def SwitchboardGreatCardSaid : Prop := Claim7.holds Tryz.pinned (.plain (OpenSpec.ofChange switchboardGreatSpec)) switchboardGreatCard

/-- THE SECOND FORM's CARD OF 'switchboardtop.SwitchboardStream'. -/
def switchboardStreamUptoCard : Claim7 := { stood := { row := switchboardStreamUptoRow, standIns := [], harness := (true, "b01f15c71bb8d04f455dedf6f90bc56e4288d8e0334b45b4f23347b74acade45"), looks := false }, kinds := [], alts := [], laidByText := true, laidKinds := [.data, .pinned], laidTests := true, laidLooks := .later }
def SwitchboardStreamUptoCardSaid : Prop := Claim7.holds Tryz.pinned (.plain (OpenSpec.upto switchboardStreamSpec)) switchboardStreamUptoCard

/-- THE SECOND FORM's CARD OF 'switchboardtop.SwitchboardGreat'. -/
def switchboardGreatUptoCard : Claim7 := { stood := { row := switchboardGreatUptoRow, standIns := [], harness := (true, "b01f15c71bb8d04f455dedf6f90bc56e4288d8e0334b45b4f23347b74acade45"), looks := false }, kinds := [], alts := [], laidByText := true, laidKinds := [.data, .pinned], laidTests := true, laidLooks := .later }
def SwitchboardGreatUptoCardSaid : Prop := Claim7.holds Tryz.pinned (.plain (OpenSpec.upto switchboardGreatSpec)) switchboardGreatUptoCard
end Rows
end Go.Proofs.YtljbchghbpmghaaGreatDoor
