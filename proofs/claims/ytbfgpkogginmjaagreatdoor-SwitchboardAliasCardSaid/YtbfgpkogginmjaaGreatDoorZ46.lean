/- Parts of a proof about aliases: JG. -/
import Derived.Test.YtbfgpkogginmjaaGreatDoorRows
import Derived.SevenTiedAt
import Derived.KernelRfl
section
namespace Go.Proofs.YtbfgpkogginmjaaGreatDoor.switchboardAlias
open Go
theorem cw : Rows.switchboardAliasRow.wfByText (OpenSpec.ofChange Rows.switchboardAliasSpec) = true := by kernel_rfl
theorem cm : Tryz.pinned.checked.prog.mainIs = some (true, ("a5f3c6b7c2f724b672f9c935bb7d817642accc006379543e54d4185d2878b994" : String).toList) := by kernel_rfl
theorem cg : false = Rows.switchboardAliasRow.goesBy Tryz.pinned.checked.prog := by kernel_rfl
end Go.Proofs.YtbfgpkogginmjaaGreatDoor.switchboardAlias
end
