/-
  No cell of these rows narrows 'for every input' (looked for: loops, veiled, ifaces, maps, wideKeys, modest, calm, conditions, laid).
  DERIVED. THE GIVEN ROWS OF THIS SEAT. 5 by the template 'for every input the law returns true; each argument reads behind the call as it read before'; 0 by the template 'total and deterministic' (their statements: YtjlohmhmnghjkaaTotals.lean).
  GIVEN WITH THE SEED: the statements are not yours to turn. If you find one false, say at which input.
  Laid BY PROGRAM, IN A SANDBOX (cutbox-rows.mjs): the forced cells as the released guide's own fill.sh prints them over the translation 5f329fcdd643d0eb… (all of the seat's roots in one cut). By AI agents, Wed Nov 11 2026. No macro, syntax, notation, axiom, sorry.
-/
import Derived.Test.YtjlohmhmnghjkaaChecked
import GoSem.Claim
import GoSem.ClaimJoined
import GoSem.ClaimMapViews
import Derived.JoinedTies
import Derived.KernelRfl
namespace Go.Proofs.Ytjlohmhmnghjkaa
/- THE CELL 'sum', in the pinned program and in every row, IS THE sha256 OF THE DUMP (.gsa) THAT YtjlohmhmnghjkaaProg.lean LOADS. Nothing in Lean hashes anything: it is a label: what it is worth is what the hold of that sum in a sandbox is worth. -/
noncomputable def Try.pinned : Pinned := { name := "ytjlohmhmnghjkaa", sum := "5f329fcdd643d0eba40a312aef9d4d1b66f298c0f5e20282b86c4298c63adaff", checked := Try.checked }
namespace Rows
def none {H : Type} : Left H := { results := [], args := [] }

/-- 'switchboardlaw17.AliasLast': WHATEVER THE INPUT: true; the input reads as it did. -/
def aliasLastSpec : ChangeSpec := { name := "aliasLast", fn := fun _ => fun
  | [d1, d2, d3] => { results := [.lit (.bool true)], args := [d1, d2, d3] }
  | _ => none }
def aliasLastRow : OpenClaim := { program := "ytjlohmhmnghjkaa", sum := "5f329fcdd643d0eba40a312aef9d4d1b66f298c0f5e20282b86c4298c63adaff", func := "switchboard/switchboardlaw17.AliasLast", spec := "aliasLast", inPlace := ["internal/bytealg.CountString", "internal/bytealg.IndexByteString", "internal/bytealg.IndexString"], named := ["internal/bytealg.MaxLen"], apart := false }
def AliasLastSaid : Prop := aliasLastRow.holds Try.pinned (OpenSpec.ofChange aliasLastSpec)

/-- ITS FALSE NEIGHBOUR: 'it returns false'. Refute it at one input. -/
def aliasLastWrong : ChangeSpec := { name := "aliasLast", fn := fun _ => fun
  | [d1, d2, d3] => { results := [.lit (.bool false)], args := [d1, d2, d3] }
  | _ => none }
def AliasLastWrongFalsely : Prop := aliasLastRow.holds Try.pinned (OpenSpec.ofChange aliasLastWrong)

/-- 'switchboardlaw17.AliasNone': WHATEVER THE INPUT: true; the input reads as it did. -/
def aliasNoneSpec : ChangeSpec := { name := "aliasNone", fn := fun _ => fun
  | [d1, d2] => { results := [.lit (.bool true)], args := [d1, d2] }
  | _ => none }
def aliasNoneRow : OpenClaim := { program := "ytjlohmhmnghjkaa", sum := "5f329fcdd643d0eba40a312aef9d4d1b66f298c0f5e20282b86c4298c63adaff", func := "switchboard/switchboardlaw17.AliasNone", spec := "aliasNone", inPlace := ["internal/bytealg.CountString", "internal/bytealg.IndexByteString", "internal/bytealg.IndexString"], named := ["internal/bytealg.MaxLen"], apart := false }
def AliasNoneSaid : Prop := aliasNoneRow.holds Try.pinned (OpenSpec.ofChange aliasNoneSpec)

/-- ITS FALSE NEIGHBOUR: 'it returns false'. Refute it at one input. -/
def aliasNoneWrong : ChangeSpec := { name := "aliasNone", fn := fun _ => fun
  | [d1, d2] => { results := [.lit (.bool false)], args := [d1, d2] }
  | _ => none }
def AliasNoneWrongFalsely : Prop := aliasNoneRow.holds Try.pinned (OpenSpec.ofChange aliasNoneWrong)

/-- 'switchboardlaw17.AliasRange': WHATEVER THE INPUT: true; the input reads as it did. -/
def aliasRangeSpec : ChangeSpec := { name := "aliasRange", fn := fun _ => fun
  | [d1, d2] => { results := [.lit (.bool true)], args := [d1, d2] }
  | _ => none }
def aliasRangeRow : OpenClaim := { program := "ytjlohmhmnghjkaa", sum := "5f329fcdd643d0eba40a312aef9d4d1b66f298c0f5e20282b86c4298c63adaff", func := "switchboard/switchboardlaw17.AliasRange", spec := "aliasRange", inPlace := ["internal/bytealg.CountString", "internal/bytealg.IndexByteString", "internal/bytealg.IndexString"], named := ["internal/bytealg.MaxLen"], apart := false }
def AliasRangeSaid : Prop := aliasRangeRow.holds Try.pinned (OpenSpec.ofChange aliasRangeSpec)

/-- ITS FALSE NEIGHBOUR: 'it returns false'. Refute it at one input. -/
def aliasRangeWrong : ChangeSpec := { name := "aliasRange", fn := fun _ => fun
  | [d1, d2] => { results := [.lit (.bool false)], args := [d1, d2] }
  | _ => none }
def AliasRangeWrongFalsely : Prop := aliasRangeRow.holds Try.pinned (OpenSpec.ofChange aliasRangeWrong)

/-- 'switchboardlaw17.AliasMany': WHATEVER THE INPUT: true; the input reads as it did. -/
def aliasManySpec : ChangeSpec := { name := "aliasMany", fn := fun _ => fun
  | [d] => { results := [.lit (.bool true)], args := [d] }
  | _ => none }
def aliasManyRow : OpenClaim := { program := "ytjlohmhmnghjkaa", sum := "5f329fcdd643d0eba40a312aef9d4d1b66f298c0f5e20282b86c4298c63adaff", func := "switchboard/switchboardlaw17.AliasMany", spec := "aliasMany", inPlace := ["internal/bytealg.CountString", "internal/bytealg.IndexByteString", "internal/bytealg.IndexString"], named := ["internal/bytealg.MaxLen"], apart := false }
def AliasManySaid : Prop := aliasManyRow.holds Try.pinned (OpenSpec.ofChange aliasManySpec)

/-- ITS FALSE NEIGHBOUR: 'it returns false'. Refute it at one input. -/
def aliasManyWrong : ChangeSpec := { name := "aliasMany", fn := fun _ => fun
  | [d] => { results := [.lit (.bool false)], args := [d] }
  | _ => none }
def AliasManyWrongFalsely : Prop := aliasManyRow.holds Try.pinned (OpenSpec.ofChange aliasManyWrong)

/-- 'switchboardlaw17.AliasPlays': WHATEVER THE INPUT: true; the input reads as it did. -/
def aliasPlaysSpec : ChangeSpec := { name := "aliasPlays", fn := fun _ => fun
  | [d1, d2] => { results := [.lit (.bool true)], args := [d1, d2] }
  | _ => none }
def aliasPlaysRow : OpenClaim := { program := "ytjlohmhmnghjkaa", sum := "5f329fcdd643d0eba40a312aef9d4d1b66f298c0f5e20282b86c4298c63adaff", func := "switchboard/switchboardlaw17.AliasPlays", spec := "aliasPlays", inPlace := ["internal/bytealg.CountString", "internal/bytealg.IndexByteString", "internal/bytealg.IndexString"], named := ["internal/bytealg.MaxLen"], apart := false }
def AliasPlaysSaid : Prop := aliasPlaysRow.holds Try.pinned (OpenSpec.ofChange aliasPlaysSpec)

/-- ITS FALSE NEIGHBOUR: 'it returns false'. Refute it at one input. -/
def aliasPlaysWrong : ChangeSpec := { name := "aliasPlays", fn := fun _ => fun
  | [d1, d2] => { results := [.lit (.bool false)], args := [d1, d2] }
  | _ => none }
def AliasPlaysWrongFalsely : Prop := aliasPlaysRow.holds Try.pinned (OpenSpec.ofChange aliasPlaysWrong)

/- THE SECOND FORM. 'bulk': how many values and letters a reading holds, each counted each time it is reached (what is shared counts as often as it is met; a slice's spare places count too). A statement '..UptoSaid' is the law's where the arguments, and the package variables that the reading takes, are together of bulk at most 1048576: NARROWER than '..Said'. Prove '..Said' where nothing that the law and all that it calls make is longer than what came in: it says more and counts as full. Else prove '..UptoSaid'. A law counts once. -/
mutual
def uptoBulk {H : Type} : DataW H → Nat
  | .lit (.string bytes) => bytes.length + 1
  | .lit _ => 1
  | .nil => 1
  | .ptr d => uptoBulk d + 1
  | .slice elems spare => uptoBulkAll elems + uptoBulkAll spare + 1
  | .agg parts => uptoBulkAll parts + 1
  | .iface _ d => uptoBulk d + 1
  | .map entries => uptoBulkEntries entries + 1
  | .held _ => 1
def uptoBulkAll {H : Type} : List (DataW H) → Nat
  | [] => 0
  | d :: r => uptoBulk d + uptoBulkAll r
def uptoBulkEntries {H : Type} : List (Lit × DataW H) → Nat
  | [] => 0
  | x :: r => uptoBulkEntry x + uptoBulkEntries r
def uptoBulkEntry {H : Type} : Lit × DataW H → Nat
  | (.string bytes, d) => bytes.length + uptoBulk d + 1
  | (_, d) => uptoBulk d + 1
 end
def uptoSmall : (H : Type) → List (DataW H) → Bool := fun _ ds => decide (uptoBulkAll ds ≤ 1048576)
def OpenSpec.upto (s : _root_.Go.ChangeSpec) : _root_.Go.OpenSpec := { _root_.Go.OpenSpec.ofChange s with cond := some uptoSmall }

/-- 'switchboardlaw17.AliasLast', WHERE WHAT IT READS IS OF BULK AT MOST 1048576: true; the input reads as it did. -/
def aliasLastUptoRow : OpenClaim := { program := "ytjlohmhmnghjkaa", sum := "5f329fcdd643d0eba40a312aef9d4d1b66f298c0f5e20282b86c4298c63adaff", func := "switchboard/switchboardlaw17.AliasLast", spec := "aliasLast", inPlace := ["internal/bytealg.CountString", "internal/bytealg.IndexByteString", "internal/bytealg.IndexString"], named := ["internal/bytealg.MaxLen"], apart := false, narrowed := true }
def AliasLastUptoSaid : Prop := aliasLastUptoRow.holds Try.pinned (OpenSpec.upto aliasLastSpec)

/-- 'switchboardlaw17.AliasNone', WHERE WHAT IT READS IS OF BULK AT MOST 1048576: true; the input reads as it did. -/
def aliasNoneUptoRow : OpenClaim := { program := "ytjlohmhmnghjkaa", sum := "5f329fcdd643d0eba40a312aef9d4d1b66f298c0f5e20282b86c4298c63adaff", func := "switchboard/switchboardlaw17.AliasNone", spec := "aliasNone", inPlace := ["internal/bytealg.CountString", "internal/bytealg.IndexByteString", "internal/bytealg.IndexString"], named := ["internal/bytealg.MaxLen"], apart := false, narrowed := true }
def AliasNoneUptoSaid : Prop := aliasNoneUptoRow.holds Try.pinned (OpenSpec.upto aliasNoneSpec)

/-- 'switchboardlaw17.AliasRange', WHERE WHAT IT READS IS OF BULK AT MOST 1048576: true; the input reads as it did. -/
def aliasRangeUptoRow : OpenClaim := { program := "ytjlohmhmnghjkaa", sum := "5f329fcdd643d0eba40a312aef9d4d1b66f298c0f5e20282b86c4298c63adaff", func := "switchboard/switchboardlaw17.AliasRange", spec := "aliasRange", inPlace := ["internal/bytealg.CountString", "internal/bytealg.IndexByteString", "internal/bytealg.IndexString"], named := ["internal/bytealg.MaxLen"], apart := false, narrowed := true }
def AliasRangeUptoSaid : Prop := aliasRangeUptoRow.holds Try.pinned (OpenSpec.upto aliasRangeSpec)

/-- 'switchboardlaw17.AliasMany', WHERE WHAT IT READS IS OF BULK AT MOST 1048576: true; the input reads as it did. -/
def aliasManyUptoRow : OpenClaim := { program := "ytjlohmhmnghjkaa", sum := "5f329fcdd643d0eba40a312aef9d4d1b66f298c0f5e20282b86c4298c63adaff", func := "switchboard/switchboardlaw17.AliasMany", spec := "aliasMany", inPlace := ["internal/bytealg.CountString", "internal/bytealg.IndexByteString", "internal/bytealg.IndexString"], named := ["internal/bytealg.MaxLen"], apart := false, narrowed := true }
def AliasManyUptoSaid : Prop := aliasManyUptoRow.holds Try.pinned (OpenSpec.upto aliasManySpec)

/-- 'switchboardlaw17.AliasPlays', WHERE WHAT IT READS IS OF BULK AT MOST 1048576: true; the input reads as it did. -/
def aliasPlaysUptoRow : OpenClaim := { program := "ytjlohmhmnghjkaa", sum := "5f329fcdd643d0eba40a312aef9d4d1b66f298c0f5e20282b86c4298c63adaff", func := "switchboard/switchboardlaw17.AliasPlays", spec := "aliasPlays", inPlace := ["internal/bytealg.CountString", "internal/bytealg.IndexByteString", "internal/bytealg.IndexString"], named := ["internal/bytealg.MaxLen"], apart := false, narrowed := true }
def AliasPlaysUptoSaid : Prop := aliasPlaysUptoRow.holds Try.pinned (OpenSpec.upto aliasPlaysSpec)

end Rows
end Go.Proofs.Ytjlohmhmnghjkaa
