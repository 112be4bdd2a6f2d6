/-
  DERIVED. GIVEN WITH THE SEED: THE CARDS: each row of YtjlohmhmnghjkaaDoorRows.lean that lists a variable, with what it lists TIED to the program's text (the seventh form; the later family's looks); each row that meets fmt, with fmt's text TOLD by the authors' own Lean function (tested against real Go, not proved from fmt's source: count such statements apart). THE CARD IS WHAT COUNTS. Prove the row's statement (the work); the ties are given (YtjlohmhmnghjkaaDoorTie.lean); close each card by the builder's one call (the guide's Derived/Test/ToyasCard.lean, 'card_holds'). Laid BY PROGRAM, IN A SANDBOX (cutbox-door.mjs). By AI agents, Wed Nov 11 2026. No macro, syntax, notation, axiom, sorry.
-/
import Derived.Test.YtjlohmhmnghjkaaDoorRows
import GoSem.ClaimSeven
namespace Go.Proofs.YtjlohmhmnghjkaaDoor
namespace Rows

/-- THE TIED CARD OF 'switchboardtop.SwitchboardWords'. -/
def switchboardWordsCard : Claim7 := { stood := { row := switchboardWordsRow, standIns := [], harness := (true, "684e4e2271e3e50f35239cf914fd5eb8d789a8306332cbcdb47fab046e0ed197"), looks := false }, kinds := [], alts := [], laidByText := true, laidKinds := [.data, .pinned], laidTests := true, laidLooks := .later }
def SwitchboardWordsCardSaid : Prop := Claim7.holds Tryd.pinned (.plain (OpenSpec.ofChange switchboardWordsSpec)) switchboardWordsCard

/-- THE TIED CARD OF 'switchboardlaw10.TopicReads'. -/
def topicReadsCard : Claim7 := { stood := { row := topicReadsRow, standIns := [], harness := (true, "684e4e2271e3e50f35239cf914fd5eb8d789a8306332cbcdb47fab046e0ed197"), looks := false }, kinds := [], alts := [], laidByText := true, laidKinds := [.data, .pinned], laidTests := true, laidLooks := .later }
def TopicReadsCardSaid : Prop := Claim7.holds Tryd.pinned (.plain (OpenSpec.ofChange topicReadsSpec)) topicReadsCard

/-- THE TIED CARD OF 'switchboardlaw10.TopicMatches'. -/
def topicMatchesCard : Claim7 := { stood := { row := topicMatchesRow, standIns := [], harness := (true, "684e4e2271e3e50f35239cf914fd5eb8d789a8306332cbcdb47fab046e0ed197"), looks := false }, kinds := [], alts := [], laidByText := true, laidKinds := [.data, .pinned], laidTests := true, laidLooks := .later }
def TopicMatchesCardSaid : Prop := Claim7.holds Tryd.pinned (.plain (OpenSpec.ofChange topicMatchesSpec)) topicMatchesCard

/-- THE TIED CARD OF 'switchboardlaw10.TopicPlain'. -/
def topicPlainCard : Claim7 := { stood := { row := topicPlainRow, standIns := [], harness := (true, "684e4e2271e3e50f35239cf914fd5eb8d789a8306332cbcdb47fab046e0ed197"), looks := false }, kinds := [], alts := [], laidByText := true, laidKinds := [.data, .pinned], laidTests := true, laidLooks := .later }
def TopicPlainCardSaid : Prop := Claim7.holds Tryd.pinned (.plain (OpenSpec.ofChange topicPlainSpec)) topicPlainCard

/-- THE TIED CARD OF 'switchboardlaw10.TopicShares'. -/
def topicSharesCard : Claim7 := { stood := { row := topicSharesRow, standIns := [], harness := (true, "684e4e2271e3e50f35239cf914fd5eb8d789a8306332cbcdb47fab046e0ed197"), looks := false }, kinds := [], alts := [], laidByText := true, laidKinds := [.data, .pinned], laidTests := true, laidLooks := .later }
def TopicSharesCardSaid : Prop := Claim7.holds Tryd.pinned (.plain (OpenSpec.ofChange topicSharesSpec)) topicSharesCard

/-- THE TIED CARD OF 'switchboardlaw10.TopicWider'. -/
def topicWiderCard : Claim7 := { stood := { row := topicWiderRow, standIns := [], harness := (true, "684e4e2271e3e50f35239cf914fd5eb8d789a8306332cbcdb47fab046e0ed197"), looks := false }, kinds := [], alts := [], laidByText := true, laidKinds := [.data, .pinned], laidTests := true, laidLooks := .later }
def TopicWiderCardSaid : Prop := Claim7.holds Tryd.pinned (.plain (OpenSpec.ofChange topicWiderSpec)) topicWiderCard

/-- THE TIED CARD OF 'switchboardlaw10.TopicLevels'. -/
def topicLevelsCard : Claim7 := { stood := { row := topicLevelsRow, standIns := [], harness := (true, "684e4e2271e3e50f35239cf914fd5eb8d789a8306332cbcdb47fab046e0ed197"), looks := false }, kinds := [], alts := [], laidByText := true, laidKinds := [.data, .pinned], laidTests := true, laidLooks := .later }
def TopicLevelsCardSaid : Prop := Claim7.holds Tryd.pinned (.plain (OpenSpec.ofChange topicLevelsSpec)) topicLevelsCard

/-- THE SECOND FORM's CARD OF 'switchboardtop.SwitchboardWords'. -/
def switchboardWordsUptoCard : Claim7 := { stood := { row := switchboardWordsUptoRow, standIns := [], harness := (true, "684e4e2271e3e50f35239cf914fd5eb8d789a8306332cbcdb47fab046e0ed197"), looks := false }, kinds := [], alts := [], laidByText := true, laidKinds := [.data, .pinned], laidTests := true, laidLooks := .later }
def SwitchboardWordsUptoCardSaid : Prop := Claim7.holds Tryd.pinned (.plain (OpenSpec.upto switchboardWordsSpec)) switchboardWordsUptoCard

/-- THE SECOND FORM's CARD OF 'switchboardlaw10.TopicReads'. -/
def topicReadsUptoCard : Claim7 := { stood := { row := topicReadsUptoRow, standIns := [], harness := (true, "684e4e2271e3e50f35239cf914fd5eb8d789a8306332cbcdb47fab046e0ed197"), looks := false }, kinds := [], alts := [], laidByText := true, laidKinds := [.data, .pinned], laidTests := true, laidLooks := .later }
def TopicReadsUptoCardSaid : Prop := Claim7.holds Tryd.pinned (.plain (OpenSpec.upto topicReadsSpec)) topicReadsUptoCard

/-- THE SECOND FORM's CARD OF 'switchboardlaw10.TopicMatches'. -/
def topicMatchesUptoCard : Claim7 := { stood := { row := topicMatchesUptoRow, standIns := [], harness := (true, "684e4e2271e3e50f35239cf914fd5eb8d789a8306332cbcdb47fab046e0ed197"), looks := false }, kinds := [], alts := [], laidByText := true, laidKinds := [.data, .pinned], laidTests := true, laidLooks := .later }
def TopicMatchesUptoCardSaid : Prop := Claim7.holds Tryd.pinned (.plain (OpenSpec.upto topicMatchesSpec)) topicMatchesUptoCard

/-- THE SECOND FORM's CARD OF 'switchboardlaw10.TopicPlain'. -/
def topicPlainUptoCard : Claim7 := { stood := { row := topicPlainUptoRow, standIns := [], harness := (true, "684e4e2271e3e50f35239cf914fd5eb8d789a8306332cbcdb47fab046e0ed197"), looks := false }, kinds := [], alts := [], laidByText := true, laidKinds := [.data, .pinned], laidTests := true, laidLooks := .later }
def TopicPlainUptoCardSaid : Prop := Claim7.holds Tryd.pinned (.plain (OpenSpec.upto topicPlainSpec)) topicPlainUptoCard

/-- THE SECOND FORM's CARD OF 'switchboardlaw10.TopicShares'. -/
def topicSharesUptoCard : Claim7 := { stood := { row := topicSharesUptoRow, standIns := [], harness := (true, "684e4e2271e3e50f35239cf914fd5eb8d789a8306332cbcdb47fab046e0ed197"), looks := false }, kinds := [], alts := [], laidByText := true, laidKinds := [.data, .pinned], laidTests := true, laidLooks := .later }
def TopicSharesUptoCardSaid : Prop := Claim7.holds Tryd.pinned (.plain (OpenSpec.upto topicSharesSpec)) topicSharesUptoCard

/-- THE SECOND FORM's CARD OF 'switchboardlaw10.TopicWider'. -/
def topicWiderUptoCard : Claim7 := { stood := { row := topicWiderUptoRow, standIns := [], harness := (true, "684e4e2271e3e50f35239cf914fd5eb8d789a8306332cbcdb47fab046e0ed197"), looks := false }, kinds := [], alts := [], laidByText := true, laidKinds := [.data, .pinned], laidTests := true, laidLooks := .later }
def TopicWiderUptoCardSaid : Prop := Claim7.holds Tryd.pinned (.plain (OpenSpec.upto topicWiderSpec)) topicWiderUptoCard

/-- THE SECOND FORM's CARD OF 'switchboardlaw10.TopicLevels'. -/
def topicLevelsUptoCard : Claim7 := { stood := { row := topicLevelsUptoRow, standIns := [], harness := (true, "684e4e2271e3e50f35239cf914fd5eb8d789a8306332cbcdb47fab046e0ed197"), looks := false }, kinds := [], alts := [], laidByText := true, laidKinds := [.data, .pinned], laidTests := true, laidLooks := .later }
def TopicLevelsUptoCardSaid : Prop := Claim7.holds Tryd.pinned (.plain (OpenSpec.upto topicLevelsSpec)) topicLevelsUptoCard
end Rows
end Go.Proofs.YtjlohmhmnghjkaaDoor
