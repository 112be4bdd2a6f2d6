/- Parts of a proof about aliases: JF, JH. -/
import Derived.Test.YtbfgpkogginmjaaGreatDoorRows
import Derived.JoinedOf
import Derived.JoinedCond
import Derived.KernelRfl
section
namespace Go.Proofs.YtbfgpkogginmjaaGreatDoor.switchboardAlias
open Go
theorem and_t {a b : Bool} (h : a = true) (k : b = true) : (a && b) = true := by rw [h, k]; rfl
theorem jf0 : (Rows.switchboardAliasRow.wf (OpenSpec.ofChange (OpenSpec.ofChange Rows.switchboardAliasSpec).bare)) = true := by kernel_rfl
theorem jf1 : (laidOutB Tryz.prog) = true := by kernel_rfl
theorem jf2 : (mapsRowed Tryz.prog) = true := by kernel_rfl
theorem jf3 : (Tryz.f3.params.all (Tryz.prog.readableRec ·)) = true := by kernel_rfl
theorem jf4 : (namedTie Tryz.prog Rows.switchboardAliasRow.named (OpenSpec.ofChange Rows.switchboardAliasSpec).bare.vars) = true := by kernel_rfl
theorem jf5 : (Rows.switchboardAliasRow.stops == []) = true := by kernel_rfl
theorem jf6 : (Tryz.prog.stops == []) = true := by kernel_rfl
theorem jf7 : (Rows.switchboardAliasRow.knobs == []) = true := by kernel_rfl
theorem jf8 : (Tryz.prog.stopKnobs == []) = true := by kernel_rfl
theorem jf9 : (Rows.switchboardAliasRow.inPlace == Tryz.prog.inPlace 3) = true := by kernel_rfl
theorem jf10 : (Rows.switchboardAliasRow.unfollowed == Tryz.prog.unfollowed 3) = true := by kernel_rfl
theorem jf11 : (Rows.switchboardAliasRow.recurses == Tryz.prog.recurses 3) = true := by kernel_rfl
theorem jf12 : (Rows.switchboardAliasRow.named == Tryz.prog.varsNamed 3) = true := by kernel_rfl
theorem jf13 : (Rows.switchboardAliasRow.maps == (Tryz.f3.params.toList ++ (OpenSpec.ofChange Rows.switchboardAliasSpec).bare.plain.varTypes Tryz.prog).any (Tryz.prog.mapsRec ·)) = true := by kernel_rfl
theorem jf14 : (Rows.switchboardAliasRow.ifaces == (Tryz.f3.params.toList ++ (OpenSpec.ofChange Rows.switchboardAliasSpec).bare.plain.varTypes Tryz.prog).any (Tryz.prog.ifacesRec ·)) = true := by kernel_rfl
theorem jf15 : (Rows.switchboardAliasRow.mapsOut == Tryz.prog.mapsAmong Tryz.f3.resultTypes.toList) = true := by kernel_rfl
theorem jf16 : (Rows.switchboardAliasRow.loops == (Tryz.f3.params.toList ++ (OpenSpec.ofChange Rows.switchboardAliasSpec).bare.plain.varTypes Tryz.prog).any (Tryz.prog.loopsFrom ·)) = true := by kernel_rfl
theorem jf17 : (Rows.switchboardAliasRow.wideKeys == (Tryz.f3.params.toList ++ (OpenSpec.ofChange Rows.switchboardAliasSpec).bare.plain.varTypes Tryz.prog ++ Tryz.f3.resultTypes.toList).any (Tryz.prog.wideKeysFrom ·)) = true := by kernel_rfl
theorem jf18 : ((OpenSpec.ofChange Rows.switchboardAliasSpec).bare.vars.all (Tryz.prog.varReadable ·)) = true := by kernel_rfl
theorem jf19 : (Tryz.f3.resultTypes.all (fun t => Tryz.prog.readableRec t && decide (t < Tryz.prog.types.size))) = true := by kernel_rfl
theorem jf20 : (Rows.switchboardAliasRow.ifacesOut == Tryz.f3.resultTypes.toList.any (Tryz.prog.ifacesRec ·)) = true := by kernel_rfl
theorem jf21 : (Rows.switchboardAliasRow.loopsOut == Tryz.f3.resultTypes.toList.any (Tryz.prog.loopsFrom ·)) = true := by kernel_rfl
theorem jf22 : (Rows.switchboardAliasRow.plainKeys == Tryz.prog.plainKeys) = true := by kernel_rfl
theorem jf23 : (Rows.switchboardAliasRow.shortTexts.isNone) = true := by kernel_rfl
theorem jf24 : (Tryz.prog.stopsHeard) = true := by kernel_rfl
theorem jf25 : (Tryz.prog.mayEnter) = true := by kernel_rfl
theorem jf26 : (Rows.switchboardAliasRow.lifted == Tryz.prog.liftsFinal) = true := by kernel_rfl
theorem jf27 : (Tryz.prog.make == some Rows.switchboardAliasRow.make) = true := by kernel_rfl
theorem jf28 : (Rows.switchboardAliasRow.kinds == (if Rows.switchboardAliasRow.domain.isEmpty then [] else Tryz.f3.params.toList.map fun t => match Tryz.prog.underlying t with | some (.int k) => some k | _ => none)) = true := by kernel_rfl
theorem jf29 : (Rows.switchboardAliasRow.pinned == Rows.switchboardAliasRow.pinnedBy) = true := by kernel_rfl
theorem jf30 : (Rows.switchboardAliasRow.veiled == (Tryz.f3.params.toList ++ (OpenSpec.ofChange Rows.switchboardAliasSpec).bare.plain.varTypes Tryz.prog ++ Tryz.f3.resultTypes.toList).any (Tryz.prog.veiledRec ·)) = true := by kernel_rfl
theorem jf31 : (Rows.switchboardAliasRow.veiledFits Tryz.prog Tryz.f3.params.toList (Tryz.f3.params.toList ++ (OpenSpec.ofChange Rows.switchboardAliasSpec).bare.plain.varTypes Tryz.prog ++ Tryz.f3.resultTypes.toList)) = true := by kernel_rfl
end Go.Proofs.YtbfgpkogginmjaaGreatDoor.switchboardAlias
end
section
namespace Go.Proofs.YtbfgpkogginmjaaGreatDoor.switchboardAlias
open Go
set_option maxRecDepth 100000
theorem closed : joinedFacts Tryz.prog 3 Tryz.f3 (OpenSpec.ofChange Rows.switchboardAliasSpec).bare Rows.switchboardAliasRow = true := by
  unfold joinedFacts
  refine and_t ?_ jf31
  refine and_t ?_ jf30
  refine and_t ?_ jf29
  refine and_t ?_ jf28
  refine and_t ?_ jf27
  refine and_t ?_ jf26
  refine and_t ?_ jf25
  refine and_t ?_ jf24
  refine and_t ?_ jf23
  refine and_t ?_ jf22
  refine and_t ?_ jf21
  refine and_t ?_ jf20
  refine and_t ?_ jf19
  refine and_t ?_ jf18
  refine and_t ?_ jf17
  refine and_t ?_ jf16
  refine and_t ?_ jf15
  refine and_t ?_ jf14
  refine and_t ?_ jf13
  refine and_t ?_ jf12
  refine and_t ?_ jf11
  refine and_t ?_ jf10
  refine and_t ?_ jf9
  refine and_t ?_ jf8
  refine and_t ?_ jf7
  refine and_t ?_ jf6
  refine and_t ?_ jf5
  refine and_t ?_ jf4
  refine and_t ?_ jf3
  refine and_t ?_ jf2
  refine and_t ?_ jf1
  exact jf0
end Go.Proofs.YtbfgpkogginmjaaGreatDoor.switchboardAlias
end
