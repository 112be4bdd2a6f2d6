/-
  No cell of these rows narrows 'for every input' (looked for: loops, veiled, ifaces, maps, wideKeys, modest, calm, conditions, laid).
  DERIVED. THE GIVEN ROWS OF THIS SEAT. 5 by the template 'for every input the law returns true; each argument reads behind the call as it read before'; 0 by the template 'total and deterministic' (their statements: YtbcpodbihldfgaaTotals.lean).
  GIVEN WITH THE SEED: the statements are not yours to turn. If you find one false, say at which input.
  Laid BY PROGRAM, IN A SANDBOX (cutbox-rows.mjs): the forced cells as the released guide's own fill.sh prints them over the translation 83756580531fee0c… (all of the seat's roots in one cut). By AI agents, Wed Nov 11 2026. No macro, syntax, notation, axiom, sorry.
-/
import Derived.Test.YtbcpodbihldfgaaChecked
import GoSem.Claim
import GoSem.ClaimJoined
import GoSem.ClaimMapViews
import Derived.JoinedTies
import Derived.KernelRfl
namespace Go.Proofs.Ytbcpodbihldfgaa
/- THE CELL 'sum', in the pinned program and in every row, IS THE sha256 OF THE DUMP (.gsa) THAT YtbcpodbihldfgaaProg.lean LOADS. Nothing in Lean hashes anything: it is a label: what it is worth is what the hold of that sum in a sandbox is worth. -/
noncomputable def Try.pinned : Pinned := { name := "ytbcpodbihldfgaa", sum := "83756580531fee0c017ce6c7a677d58359287bff449255772d3b3989af1c5b80", checked := Try.checked }
namespace Rows
def none {H : Type} : Left H := { results := [], args := [] }

/-- 'switchboardlaw21.ShareThere': WHATEVER THE INPUT: true; the input reads as it did. -/
def shareThereSpec : ChangeSpec := { name := "shareThere", fn := fun _ => fun
  | [d1, d2] => { results := [.lit (.bool true)], args := [d1, d2] }
  | _ => none }
def shareThereRow : OpenClaim := { program := "ytbcpodbihldfgaa", sum := "83756580531fee0c017ce6c7a677d58359287bff449255772d3b3989af1c5b80", func := "switchboard/switchboardlaw21.ShareThere", spec := "shareThere", apart := false }
def ShareThereSaid : Prop := shareThereRow.holds Try.pinned (OpenSpec.ofChange shareThereSpec)

/-- ITS FALSE NEIGHBOUR: 'it returns false'. Refute it at one input. -/
def shareThereWrong : ChangeSpec := { name := "shareThere", fn := fun _ => fun
  | [d1, d2] => { results := [.lit (.bool false)], args := [d1, d2] }
  | _ => none }
def ShareThereWrongFalsely : Prop := shareThereRow.holds Try.pinned (OpenSpec.ofChange shareThereWrong)

/-- 'switchboardlaw21.ShareTurns': WHATEVER THE INPUT: true; the input reads as it did. -/
def shareTurnsSpec : ChangeSpec := { name := "shareTurns", fn := fun _ => fun
  | [d1, d2] => { results := [.lit (.bool true)], args := [d1, d2] }
  | _ => none }
def shareTurnsRow : OpenClaim := { program := "ytbcpodbihldfgaa", sum := "83756580531fee0c017ce6c7a677d58359287bff449255772d3b3989af1c5b80", func := "switchboard/switchboardlaw21.ShareTurns", spec := "shareTurns", apart := false }
def ShareTurnsSaid : Prop := shareTurnsRow.holds Try.pinned (OpenSpec.ofChange shareTurnsSpec)

/-- ITS FALSE NEIGHBOUR: 'it returns false'. Refute it at one input. -/
def shareTurnsWrong : ChangeSpec := { name := "shareTurns", fn := fun _ => fun
  | [d1, d2] => { results := [.lit (.bool false)], args := [d1, d2] }
  | _ => none }
def ShareTurnsWrongFalsely : Prop := shareTurnsRow.holds Try.pinned (OpenSpec.ofChange shareTurnsWrong)

/-- 'switchboardlaw21.ShareAlone': WHATEVER THE INPUT: true; the input reads as it did. -/
def shareAloneSpec : ChangeSpec := { name := "shareAlone", fn := fun _ => fun
  | [d1, d2, d3] => { results := [.lit (.bool true)], args := [d1, d2, d3] }
  | _ => none }
def shareAloneRow : OpenClaim := { program := "ytbcpodbihldfgaa", sum := "83756580531fee0c017ce6c7a677d58359287bff449255772d3b3989af1c5b80", func := "switchboard/switchboardlaw21.ShareAlone", spec := "shareAlone", apart := false }
def ShareAloneSaid : Prop := shareAloneRow.holds Try.pinned (OpenSpec.ofChange shareAloneSpec)

/-- ITS FALSE NEIGHBOUR: 'it returns false'. Refute it at one input. -/
def shareAloneWrong : ChangeSpec := { name := "shareAlone", fn := fun _ => fun
  | [d1, d2, d3] => { results := [.lit (.bool false)], args := [d1, d2, d3] }
  | _ => none }
def ShareAloneWrongFalsely : Prop := shareAloneRow.holds Try.pinned (OpenSpec.ofChange shareAloneWrong)

/-- 'switchboardlaw21.ShareGroups': WHATEVER THE INPUT: true; the input reads as it did. -/
def shareGroupsSpec : ChangeSpec := { name := "shareGroups", fn := fun _ => fun
  | [d1, d2] => { results := [.lit (.bool true)], args := [d1, d2] }
  | _ => none }
def shareGroupsRow : OpenClaim := { program := "ytbcpodbihldfgaa", sum := "83756580531fee0c017ce6c7a677d58359287bff449255772d3b3989af1c5b80", func := "switchboard/switchboardlaw21.ShareGroups", spec := "shareGroups", apart := false }
def ShareGroupsSaid : Prop := shareGroupsRow.holds Try.pinned (OpenSpec.ofChange shareGroupsSpec)

/-- ITS FALSE NEIGHBOUR: 'it returns false'. Refute it at one input. -/
def shareGroupsWrong : ChangeSpec := { name := "shareGroups", fn := fun _ => fun
  | [d1, d2] => { results := [.lit (.bool false)], args := [d1, d2] }
  | _ => none }
def ShareGroupsWrongFalsely : Prop := shareGroupsRow.holds Try.pinned (OpenSpec.ofChange shareGroupsWrong)

/-- 'switchboardlaw21.SharePlays': WHATEVER THE INPUT: true; the input reads as it did. -/
def sharePlaysSpec : ChangeSpec := { name := "sharePlays", fn := fun _ => fun
  | [d] => { results := [.lit (.bool true)], args := [d] }
  | _ => none }
def sharePlaysRow : OpenClaim := { program := "ytbcpodbihldfgaa", sum := "83756580531fee0c017ce6c7a677d58359287bff449255772d3b3989af1c5b80", func := "switchboard/switchboardlaw21.SharePlays", spec := "sharePlays", apart := false }
def SharePlaysSaid : Prop := sharePlaysRow.holds Try.pinned (OpenSpec.ofChange sharePlaysSpec)

/-- ITS FALSE NEIGHBOUR: 'it returns false'. Refute it at one input. -/
def sharePlaysWrong : ChangeSpec := { name := "sharePlays", fn := fun _ => fun
  | [d] => { results := [.lit (.bool false)], args := [d] }
  | _ => none }
def SharePlaysWrongFalsely : Prop := sharePlaysRow.holds Try.pinned (OpenSpec.ofChange sharePlaysWrong)

/- THE SECOND FORM. 'bulk': how many values and letters a reading holds, each counted each time it is reached (what is shared counts as often as it is met; a slice's spare places count too). A statement '..UptoSaid' is the law's where the arguments, and the package variables that the reading takes, are together of bulk at most 1048576: NARROWER than '..Said'. Prove '..Said' where nothing that the law and all that it calls make is longer than what came in: it says more and counts as full. Else prove '..UptoSaid'. A law counts once. -/
mutual
def uptoBulk {H : Type} : DataW H → Nat
  | .lit (.string bytes) => bytes.length + 1
  | .lit _ => 1
  | .nil => 1
  | .ptr d => uptoBulk d + 1
  | .slice elems spare => uptoBulkAll elems + uptoBulkAll spare + 1
  | .agg parts => uptoBulkAll parts + 1
  | .iface _ d => uptoBulk d + 1
  | .map entries => uptoBulkEntries entries + 1
  | .held _ => 1
def uptoBulkAll {H : Type} : List (DataW H) → Nat
  | [] => 0
  | d :: r => uptoBulk d + uptoBulkAll r
def uptoBulkEntries {H : Type} : List (Lit × DataW H) → Nat
  | [] => 0
  | x :: r => uptoBulkEntry x + uptoBulkEntries r
def uptoBulkEntry {H : Type} : Lit × DataW H → Nat
  | (.string bytes, d) => bytes.length + uptoBulk d + 1
  | (_, d) => uptoBulk d + 1
 end
def uptoSmall : (H : Type) → List (DataW H) → Bool := fun _ ds => decide (uptoBulkAll ds ≤ 1048576)
def OpenSpec.upto (s : _root_.Go.ChangeSpec) : _root_.Go.OpenSpec := { _root_.Go.OpenSpec.ofChange s with cond := some uptoSmall }

/-- 'switchboardlaw21.ShareThere', WHERE WHAT IT READS IS OF BULK AT MOST 1048576: true; the input reads as it did. -/
def shareThereUptoRow : OpenClaim := { program := "ytbcpodbihldfgaa", sum := "83756580531fee0c017ce6c7a677d58359287bff449255772d3b3989af1c5b80", func := "switchboard/switchboardlaw21.ShareThere", spec := "shareThere", apart := false, narrowed := true }
def ShareThereUptoSaid : Prop := shareThereUptoRow.holds Try.pinned (OpenSpec.upto shareThereSpec)

/-- 'switchboardlaw21.ShareTurns', WHERE WHAT IT READS IS OF BULK AT MOST 1048576: true; the input reads as it did. -/
def shareTurnsUptoRow : OpenClaim := { program := "ytbcpodbihldfgaa", sum := "83756580531fee0c017ce6c7a677d58359287bff449255772d3b3989af1c5b80", func := "switchboard/switchboardlaw21.ShareTurns", spec := "shareTurns", apart := false, narrowed := true }
def ShareTurnsUptoSaid : Prop := shareTurnsUptoRow.holds Try.pinned (OpenSpec.upto shareTurnsSpec)

/-- 'switchboardlaw21.ShareAlone', WHERE WHAT IT READS IS OF BULK AT MOST 1048576: true; the input reads as it did. -/
def shareAloneUptoRow : OpenClaim := { program := "ytbcpodbihldfgaa", sum := "83756580531fee0c017ce6c7a677d58359287bff449255772d3b3989af1c5b80", func := "switchboard/switchboardlaw21.ShareAlone", spec := "shareAlone", apart := false, narrowed := true }
def ShareAloneUptoSaid : Prop := shareAloneUptoRow.holds Try.pinned (OpenSpec.upto shareAloneSpec)

/-- 'switchboardlaw21.ShareGroups', WHERE WHAT IT READS IS OF BULK AT MOST 1048576: true; the input reads as it did. -/
def shareGroupsUptoRow : OpenClaim := { program := "ytbcpodbihldfgaa", sum := "83756580531fee0c017ce6c7a677d58359287bff449255772d3b3989af1c5b80", func := "switchboard/switchboardlaw21.ShareGroups", spec := "shareGroups", apart := false, narrowed := true }
def ShareGroupsUptoSaid : Prop := shareGroupsUptoRow.holds Try.pinned (OpenSpec.upto shareGroupsSpec)

/-- 'switchboardlaw21.SharePlays', WHERE WHAT IT READS IS OF BULK AT MOST 1048576: true; the input reads as it did. -/
def sharePlaysUptoRow : OpenClaim := { program := "ytbcpodbihldfgaa", sum := "83756580531fee0c017ce6c7a677d58359287bff449255772d3b3989af1c5b80", func := "switchboard/switchboardlaw21.SharePlays", spec := "sharePlays", apart := false, narrowed := true }
def SharePlaysUptoSaid : Prop := sharePlaysUptoRow.holds Try.pinned (OpenSpec.upto sharePlaysSpec)

end Rows
end Go.Proofs.Ytbcpodbihldfgaa
