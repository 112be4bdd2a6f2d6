/-
  NARROWER THAN 'FOR EVERY INPUT', by the rows' own cells (each row's printed sentence says how): SwitchboardWords: laid · TopicReads: laid · TopicMatches: laid · TopicPlain: laid · TopicShares: laid · TopicWider: laid · TopicLevels: laid.
  DERIVED. THE GIVEN ROWS OF THIS SEAT. 7 by the template 'for every input the law returns true; each argument reads behind the call as it read before'; 0 by the template 'total and deterministic' (their statements: YtjlohmhmnghjkaaDoorTotals.lean).
  GIVEN WITH THE SEED: the statements are not yours to turn. If you find one false, say at which input.
  Laid BY PROGRAM, IN A SANDBOX (cutbox-rows.mjs): the forced cells as the released guide's own fill.sh prints them over the translation 3f33d900bbe45aa9… (all of the seat's roots in one cut). By AI agents, Wed Nov 11 2026. No macro, syntax, notation, axiom, sorry.
-/
import Derived.Test.YtjlohmhmnghjkaaDoorChecked
import GoSem.PinnedTables
import GoSem.Claim
import GoSem.ClaimJoined
import GoSem.ClaimMapViews
import Derived.JoinedTies
import Derived.KernelRfl
namespace Go.Proofs.YtjlohmhmnghjkaaDoor
/- THE CELL 'sum', in the pinned program and in every row, IS THE sha256 OF THE DUMP (.gsa) THAT YtjlohmhmnghjkaaDoorProg.lean LOADS. Nothing in Lean hashes anything: it is a label: what it is worth is what the hold of that sum in a sandbox is worth. -/
noncomputable def Tryd.pinned : Pinned := { name := "ytjlohmhmnghjkaadoor", sum := "3f33d900bbe45aa9c8eddac391200f705ac815d0d51a3d6e1485f72fa2d7035d", checked := Tryd.checked }
namespace Rows
def none {H : Type} : Left H := { results := [], args := [] }

/- WHAT THE LISTED PACKAGE-LEVEL VARIABLES READ AS WHEN THE CALL BEGINS. Each datum BY PROGRAM (the guide's laid-datum.mjs) off the statement by which the dump's own 'gosem.cut.vars' lays the variable. In a bare row this is a premise. The card (YtjlohmhmnghjkaaDoorCards.lean) ties it to the program's text. -/
def laid_unicode_utf8_acceptRanges {H : Type} : DataW H := .agg [.agg [.lit (.int .u8 128), .lit (.int .u8 191)], .agg [.lit (.int .u8 160), .lit (.int .u8 191)], .agg [.lit (.int .u8 128), .lit (.int .u8 159)], .agg [.lit (.int .u8 144), .lit (.int .u8 191)], .agg [.lit (.int .u8 128), .lit (.int .u8 143)], .agg [.lit (.int .u8 0), .lit (.int .u8 0)], .agg [.lit (.int .u8 0), .lit (.int .u8 0)], .agg [.lit (.int .u8 0), .lit (.int .u8 0)], .agg [.lit (.int .u8 0), .lit (.int .u8 0)], .agg [.lit (.int .u8 0), .lit (.int .u8 0)], .agg [.lit (.int .u8 0), .lit (.int .u8 0)], .agg [.lit (.int .u8 0), .lit (.int .u8 0)], .agg [.lit (.int .u8 0), .lit (.int .u8 0)], .agg [.lit (.int .u8 0), .lit (.int .u8 0)], .agg [.lit (.int .u8 0), .lit (.int .u8 0)], .agg [.lit (.int .u8 0), .lit (.int .u8 0)]]
/-- One of Go's own tables, pinned by name: the form's constant. -/
def laid_unicode_utf8_first : DataW Unit := Go.Pinned.utf8First

/-- 'switchboardtop.SwitchboardWords': WHATEVER THE INPUT: true; the input reads as it did. -/
def switchboardWordsSpec : ChangeSpec := { name := "switchboardWords", fn := fun _ => fun
  | [d] => { results := [.lit (.bool true)], args := [d] }
  | _ => none }
def switchboardWordsRow : OpenClaim := { program := "ytjlohmhmnghjkaadoor", sum := "3f33d900bbe45aa9c8eddac391200f705ac815d0d51a3d6e1485f72fa2d7035d", func := "switchboard/switchboardtop.SwitchboardWords", spec := "switchboardWords", inPlace := ["internal/bytealg.CountString", "internal/bytealg.IndexByteString", "internal/bytealg.IndexString"], named := ["unicode/utf8.first", "unicode/utf8.acceptRanges", "internal/bytealg.MaxLen"], apart := false, laid := [("unicode/utf8.acceptRanges", laid_unicode_utf8_acceptRanges), ("unicode/utf8.first", laid_unicode_utf8_first)] }
def SwitchboardWordsSaid : Prop := switchboardWordsRow.holds Tryd.pinned (OpenSpec.ofChange switchboardWordsSpec)

/-- ITS FALSE NEIGHBOUR: 'it returns false'. Refute it at one input. -/
def switchboardWordsWrong : ChangeSpec := { name := "switchboardWords", fn := fun _ => fun
  | [d] => { results := [.lit (.bool false)], args := [d] }
  | _ => none }
def SwitchboardWordsWrongFalsely : Prop := switchboardWordsRow.holds Tryd.pinned (OpenSpec.ofChange switchboardWordsWrong)

/-- 'switchboardlaw10.TopicReads': WHATEVER THE INPUT: true; the input reads as it did. -/
def topicReadsSpec : ChangeSpec := { name := "topicReads", fn := fun _ => fun
  | [d] => { results := [.lit (.bool true)], args := [d] }
  | _ => none }
def topicReadsRow : OpenClaim := { program := "ytjlohmhmnghjkaadoor", sum := "3f33d900bbe45aa9c8eddac391200f705ac815d0d51a3d6e1485f72fa2d7035d", func := "switchboard/switchboardlaw10.TopicReads", spec := "topicReads", inPlace := ["internal/bytealg.CountString", "internal/bytealg.IndexByteString", "internal/bytealg.IndexString"], named := ["internal/bytealg.MaxLen", "unicode/utf8.first", "unicode/utf8.acceptRanges"], apart := false, laid := [("unicode/utf8.acceptRanges", laid_unicode_utf8_acceptRanges), ("unicode/utf8.first", laid_unicode_utf8_first)] }
def TopicReadsSaid : Prop := topicReadsRow.holds Tryd.pinned (OpenSpec.ofChange topicReadsSpec)

/-- ITS FALSE NEIGHBOUR: 'it returns false'. Refute it at one input. -/
def topicReadsWrong : ChangeSpec := { name := "topicReads", fn := fun _ => fun
  | [d] => { results := [.lit (.bool false)], args := [d] }
  | _ => none }
def TopicReadsWrongFalsely : Prop := topicReadsRow.holds Tryd.pinned (OpenSpec.ofChange topicReadsWrong)

/-- 'switchboardlaw10.TopicMatches': WHATEVER THE INPUT: true; the input reads as it did. -/
def topicMatchesSpec : ChangeSpec := { name := "topicMatches", fn := fun _ => fun
  | [d1, d2] => { results := [.lit (.bool true)], args := [d1, d2] }
  | _ => none }
def topicMatchesRow : OpenClaim := { program := "ytjlohmhmnghjkaadoor", sum := "3f33d900bbe45aa9c8eddac391200f705ac815d0d51a3d6e1485f72fa2d7035d", func := "switchboard/switchboardlaw10.TopicMatches", spec := "topicMatches", inPlace := ["internal/bytealg.CountString", "internal/bytealg.IndexByteString", "internal/bytealg.IndexString"], named := ["internal/bytealg.MaxLen", "unicode/utf8.first", "unicode/utf8.acceptRanges"], apart := false, laid := [("unicode/utf8.acceptRanges", laid_unicode_utf8_acceptRanges), ("unicode/utf8.first", laid_unicode_utf8_first)] }
def TopicMatchesSaid : Prop := topicMatchesRow.holds Tryd.pinned (OpenSpec.ofChange topicMatchesSpec)

/-- ITS FALSE NEIGHBOUR: 'it returns false'. Refute it at one input. -/
def topicMatchesWrong : ChangeSpec := { name := "topicMatches", fn := fun _ => fun
  | [d1, d2] => { results := [.lit (.bool false)], args := [d1, d2] }
  | _ => none }
def TopicMatchesWrongFalsely : Prop := topicMatchesRow.holds Tryd.pinned (OpenSpec.ofChange topicMatchesWrong)

/-- 'switchboardlaw10.TopicPlain': WHATEVER THE INPUT: true; the input reads as it did. -/
def topicPlainSpec : ChangeSpec := { name := "topicPlain", fn := fun _ => fun
  | [d1, d2] => { results := [.lit (.bool true)], args := [d1, d2] }
  | _ => none }
def topicPlainRow : OpenClaim := { program := "ytjlohmhmnghjkaadoor", sum := "3f33d900bbe45aa9c8eddac391200f705ac815d0d51a3d6e1485f72fa2d7035d", func := "switchboard/switchboardlaw10.TopicPlain", spec := "topicPlain", inPlace := ["internal/bytealg.CountString", "internal/bytealg.IndexByteString", "internal/bytealg.IndexString"], named := ["internal/bytealg.MaxLen", "unicode/utf8.first", "unicode/utf8.acceptRanges"], apart := false, laid := [("unicode/utf8.acceptRanges", laid_unicode_utf8_acceptRanges), ("unicode/utf8.first", laid_unicode_utf8_first)] }
def TopicPlainSaid : Prop := topicPlainRow.holds Tryd.pinned (OpenSpec.ofChange topicPlainSpec)

/-- ITS FALSE NEIGHBOUR: 'it returns false'. Refute it at one input. -/
def topicPlainWrong : ChangeSpec := { name := "topicPlain", fn := fun _ => fun
  | [d1, d2] => { results := [.lit (.bool false)], args := [d1, d2] }
  | _ => none }
def TopicPlainWrongFalsely : Prop := topicPlainRow.holds Tryd.pinned (OpenSpec.ofChange topicPlainWrong)

/-- 'switchboardlaw10.TopicShares': WHATEVER THE INPUT: true; the input reads as it did. -/
def topicSharesSpec : ChangeSpec := { name := "topicShares", fn := fun _ => fun
  | [d1, d2] => { results := [.lit (.bool true)], args := [d1, d2] }
  | _ => none }
def topicSharesRow : OpenClaim := { program := "ytjlohmhmnghjkaadoor", sum := "3f33d900bbe45aa9c8eddac391200f705ac815d0d51a3d6e1485f72fa2d7035d", func := "switchboard/switchboardlaw10.TopicShares", spec := "topicShares", inPlace := ["internal/bytealg.CountString", "internal/bytealg.IndexByteString", "internal/bytealg.IndexString"], named := ["internal/bytealg.MaxLen", "unicode/utf8.first", "unicode/utf8.acceptRanges"], apart := false, laid := [("unicode/utf8.acceptRanges", laid_unicode_utf8_acceptRanges), ("unicode/utf8.first", laid_unicode_utf8_first)] }
def TopicSharesSaid : Prop := topicSharesRow.holds Tryd.pinned (OpenSpec.ofChange topicSharesSpec)

/-- ITS FALSE NEIGHBOUR: 'it returns false'. Refute it at one input. -/
def topicSharesWrong : ChangeSpec := { name := "topicShares", fn := fun _ => fun
  | [d1, d2] => { results := [.lit (.bool false)], args := [d1, d2] }
  | _ => none }
def TopicSharesWrongFalsely : Prop := topicSharesRow.holds Tryd.pinned (OpenSpec.ofChange topicSharesWrong)

/-- 'switchboardlaw10.TopicWider': WHATEVER THE INPUT: true; the input reads as it did. -/
def topicWiderSpec : ChangeSpec := { name := "topicWider", fn := fun _ => fun
  | [d1, d2, d3] => { results := [.lit (.bool true)], args := [d1, d2, d3] }
  | _ => none }
def topicWiderRow : OpenClaim := { program := "ytjlohmhmnghjkaadoor", sum := "3f33d900bbe45aa9c8eddac391200f705ac815d0d51a3d6e1485f72fa2d7035d", func := "switchboard/switchboardlaw10.TopicWider", spec := "topicWider", inPlace := ["internal/bytealg.CountString", "internal/bytealg.IndexByteString", "internal/bytealg.IndexString", "internal/abi.NoEscape", "internal/bytealg.MakeNoZero"], named := ["internal/bytealg.MaxLen", "unicode/utf8.first", "unicode/utf8.acceptRanges"], apart := false, laid := [("unicode/utf8.acceptRanges", laid_unicode_utf8_acceptRanges), ("unicode/utf8.first", laid_unicode_utf8_first)] }
def TopicWiderSaid : Prop := topicWiderRow.holds Tryd.pinned (OpenSpec.ofChange topicWiderSpec)

/-- ITS FALSE NEIGHBOUR: 'it returns false'. Refute it at one input. -/
def topicWiderWrong : ChangeSpec := { name := "topicWider", fn := fun _ => fun
  | [d1, d2, d3] => { results := [.lit (.bool false)], args := [d1, d2, d3] }
  | _ => none }
def TopicWiderWrongFalsely : Prop := topicWiderRow.holds Tryd.pinned (OpenSpec.ofChange topicWiderWrong)

/-- 'switchboardlaw10.TopicLevels': WHATEVER THE INPUT: true; the input reads as it did. -/
def topicLevelsSpec : ChangeSpec := { name := "topicLevels", fn := fun _ => fun
  | [d] => { results := [.lit (.bool true)], args := [d] }
  | _ => none }
def topicLevelsRow : OpenClaim := { program := "ytjlohmhmnghjkaadoor", sum := "3f33d900bbe45aa9c8eddac391200f705ac815d0d51a3d6e1485f72fa2d7035d", func := "switchboard/switchboardlaw10.TopicLevels", spec := "topicLevels", inPlace := ["internal/bytealg.CountString", "internal/bytealg.IndexByteString", "internal/bytealg.IndexString", "internal/abi.NoEscape", "internal/bytealg.MakeNoZero"], named := ["internal/bytealg.MaxLen", "unicode/utf8.first", "unicode/utf8.acceptRanges"], apart := false, laid := [("unicode/utf8.acceptRanges", laid_unicode_utf8_acceptRanges), ("unicode/utf8.first", laid_unicode_utf8_first)] }
def TopicLevelsSaid : Prop := topicLevelsRow.holds Tryd.pinned (OpenSpec.ofChange topicLevelsSpec)

/-- ITS FALSE NEIGHBOUR: 'it returns false'. Refute it at one input. -/
def topicLevelsWrong : ChangeSpec := { name := "topicLevels", fn := fun _ => fun
  | [d] => { results := [.lit (.bool false)], args := [d] }
  | _ => none }
def TopicLevelsWrongFalsely : Prop := topicLevelsRow.holds Tryd.pinned (OpenSpec.ofChange topicLevelsWrong)

/- THE SECOND FORM. 'bulk': how many values and letters a reading holds, each counted each time it is reached (what is shared counts as often as it is met; a slice's spare places count too). A statement '..UptoSaid' is the law's where the arguments, and the package variables that the reading takes, are together of bulk at most 1048576: NARROWER than '..Said'. Prove '..Said' where nothing that the law and all that it calls make is longer than what came in: it says more and counts as full. Else prove '..UptoSaid'. A law counts once. -/
mutual
def uptoBulk {H : Type} : DataW H → Nat
  | .lit (.string bytes) => bytes.length + 1
  | .lit _ => 1
  | .nil => 1
  | .ptr d => uptoBulk d + 1
  | .slice elems spare => uptoBulkAll elems + uptoBulkAll spare + 1
  | .agg parts => uptoBulkAll parts + 1
  | .iface _ d => uptoBulk d + 1
  | .map entries => uptoBulkEntries entries + 1
  | .held _ => 1
def uptoBulkAll {H : Type} : List (DataW H) → Nat
  | [] => 0
  | d :: r => uptoBulk d + uptoBulkAll r
def uptoBulkEntries {H : Type} : List (Lit × DataW H) → Nat
  | [] => 0
  | x :: r => uptoBulkEntry x + uptoBulkEntries r
def uptoBulkEntry {H : Type} : Lit × DataW H → Nat
  | (.string bytes, d) => bytes.length + uptoBulk d + 1
  | (_, d) => uptoBulk d + 1
 end
def uptoSmall : (H : Type) → List (DataW H) → Bool := fun _ ds => decide (uptoBulkAll ds ≤ 1048576)
def OpenSpec.upto (s : _root_.Go.ChangeSpec) : _root_.Go.OpenSpec := { _root_.Go.OpenSpec.ofChange s with cond := some uptoSmall }

/-- 'switchboardtop.SwitchboardWords', WHERE WHAT IT READS IS OF BULK AT MOST 1048576: true; the input reads as it did. -/
def switchboardWordsUptoRow : OpenClaim := { program := "ytjlohmhmnghjkaadoor", sum := "3f33d900bbe45aa9c8eddac391200f705ac815d0d51a3d6e1485f72fa2d7035d", func := "switchboard/switchboardtop.SwitchboardWords", spec := "switchboardWords", inPlace := ["internal/bytealg.CountString", "internal/bytealg.IndexByteString", "internal/bytealg.IndexString"], named := ["unicode/utf8.first", "unicode/utf8.acceptRanges", "internal/bytealg.MaxLen"], apart := false, laid := [("unicode/utf8.acceptRanges", laid_unicode_utf8_acceptRanges), ("unicode/utf8.first", laid_unicode_utf8_first)], narrowed := true }
def SwitchboardWordsUptoSaid : Prop := switchboardWordsUptoRow.holds Tryd.pinned (OpenSpec.upto switchboardWordsSpec)

/-- 'switchboardlaw10.TopicReads', WHERE WHAT IT READS IS OF BULK AT MOST 1048576: true; the input reads as it did. -/
def topicReadsUptoRow : OpenClaim := { program := "ytjlohmhmnghjkaadoor", sum := "3f33d900bbe45aa9c8eddac391200f705ac815d0d51a3d6e1485f72fa2d7035d", func := "switchboard/switchboardlaw10.TopicReads", spec := "topicReads", inPlace := ["internal/bytealg.CountString", "internal/bytealg.IndexByteString", "internal/bytealg.IndexString"], named := ["internal/bytealg.MaxLen", "unicode/utf8.first", "unicode/utf8.acceptRanges"], apart := false, laid := [("unicode/utf8.acceptRanges", laid_unicode_utf8_acceptRanges), ("unicode/utf8.first", laid_unicode_utf8_first)], narrowed := true }
def TopicReadsUptoSaid : Prop := topicReadsUptoRow.holds Tryd.pinned (OpenSpec.upto topicReadsSpec)

/-- 'switchboardlaw10.TopicMatches', WHERE WHAT IT READS IS OF BULK AT MOST 1048576: true; the input reads as it did. -/
def topicMatchesUptoRow : OpenClaim := { program := "ytjlohmhmnghjkaadoor", sum := "3f33d900bbe45aa9c8eddac391200f705ac815d0d51a3d6e1485f72fa2d7035d", func := "switchboard/switchboardlaw10.TopicMatches", spec := "topicMatches", inPlace := ["internal/bytealg.CountString", "internal/bytealg.IndexByteString", "internal/bytealg.IndexString"], named := ["internal/bytealg.MaxLen", "unicode/utf8.first", "unicode/utf8.acceptRanges"], apart := false, laid := [("unicode/utf8.acceptRanges", laid_unicode_utf8_acceptRanges), ("unicode/utf8.first", laid_unicode_utf8_first)], narrowed := true }
def TopicMatchesUptoSaid : Prop := topicMatchesUptoRow.holds Tryd.pinned (OpenSpec.upto topicMatchesSpec)

/-- 'switchboardlaw10.TopicPlain', WHERE WHAT IT READS IS OF BULK AT MOST 1048576: true; the input reads as it did. -/
def topicPlainUptoRow : OpenClaim := { program := "ytjlohmhmnghjkaadoor", sum := "3f33d900bbe45aa9c8eddac391200f705ac815d0d51a3d6e1485f72fa2d7035d", func := "switchboard/switchboardlaw10.TopicPlain", spec := "topicPlain", inPlace := ["internal/bytealg.CountString", "internal/bytealg.IndexByteString", "internal/bytealg.IndexString"], named := ["internal/bytealg.MaxLen", "unicode/utf8.first", "unicode/utf8.acceptRanges"], apart := false, laid := [("unicode/utf8.acceptRanges", laid_unicode_utf8_acceptRanges), ("unicode/utf8.first", laid_unicode_utf8_first)], narrowed := true }
def TopicPlainUptoSaid : Prop := topicPlainUptoRow.holds Tryd.pinned (OpenSpec.upto topicPlainSpec)

/-- 'switchboardlaw10.TopicShares', WHERE WHAT IT READS IS OF BULK AT MOST 1048576: true; the input reads as it did. -/
def topicSharesUptoRow : OpenClaim := { program := "ytjlohmhmnghjkaadoor", sum := "3f33d900bbe45aa9c8eddac391200f705ac815d0d51a3d6e1485f72fa2d7035d", func := "switchboard/switchboardlaw10.TopicShares", spec := "topicShares", inPlace := ["internal/bytealg.CountString", "internal/bytealg.IndexByteString", "internal/bytealg.IndexString"], named := ["internal/bytealg.MaxLen", "unicode/utf8.first", "unicode/utf8.acceptRanges"], apart := false, laid := [("unicode/utf8.acceptRanges", laid_unicode_utf8_acceptRanges), ("unicode/utf8.first", laid_unicode_utf8_first)], narrowed := true }
def TopicSharesUptoSaid : Prop := topicSharesUptoRow.holds Tryd.pinned (OpenSpec.upto topicSharesSpec)

/-- 'switchboardlaw10.TopicWider', WHERE WHAT IT READS IS OF BULK AT MOST 1048576: true; the input reads as it did. -/
def topicWiderUptoRow : OpenClaim := { program := "ytjlohmhmnghjkaadoor", sum := "3f33d900bbe45aa9c8eddac391200f705ac815d0d51a3d6e1485f72fa2d7035d", func := "switchboard/switchboardlaw10.TopicWider", spec := "topicWider", inPlace := ["internal/bytealg.CountString", "internal/bytealg.IndexByteString", "internal/bytealg.IndexString", "internal/abi.NoEscape", "internal/bytealg.MakeNoZero"], named := ["internal/bytealg.MaxLen", "unicode/utf8.first", "unicode/utf8.acceptRanges"], apart := false, laid := [("unicode/utf8.acceptRanges", laid_unicode_utf8_acceptRanges), ("unicode/utf8.first", laid_unicode_utf8_first)], narrowed := true }
def TopicWiderUptoSaid : Prop := topicWiderUptoRow.holds Tryd.pinned (OpenSpec.upto topicWiderSpec)

/-- 'switchboardlaw10.TopicLevels', WHERE WHAT IT READS IS OF BULK AT MOST 1048576: true; the input reads as it did. -/
def topicLevelsUptoRow : OpenClaim := { program := "ytjlohmhmnghjkaadoor", sum := "3f33d900bbe45aa9c8eddac391200f705ac815d0d51a3d6e1485f72fa2d7035d", func := "switchboard/switchboardlaw10.TopicLevels", spec := "topicLevels", inPlace := ["internal/bytealg.CountString", "internal/bytealg.IndexByteString", "internal/bytealg.IndexString", "internal/abi.NoEscape", "internal/bytealg.MakeNoZero"], named := ["internal/bytealg.MaxLen", "unicode/utf8.first", "unicode/utf8.acceptRanges"], apart := false, laid := [("unicode/utf8.acceptRanges", laid_unicode_utf8_acceptRanges), ("unicode/utf8.first", laid_unicode_utf8_first)], narrowed := true }
def TopicLevelsUptoSaid : Prop := topicLevelsUptoRow.holds Tryd.pinned (OpenSpec.upto topicLevelsSpec)

end Rows
end Go.Proofs.YtjlohmhmnghjkaaDoor
