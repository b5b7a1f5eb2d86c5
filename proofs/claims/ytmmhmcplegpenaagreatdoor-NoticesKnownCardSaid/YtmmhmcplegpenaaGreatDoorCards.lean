/-
  DERIVED. GIVEN WITH THE SEED: THE CARDS: each row of YtmmhmcplegpenaaGreatDoorRows.lean that lists a variable, with what it lists TIED to the program's text (the seventh form; the later family's looks); each row that meets fmt, with fmt's text TOLD by the authors' own Lean function (tested against real Go, not proved from fmt's source: count such statements apart). THE CARD IS WHAT COUNTS. Prove the row's statement (the work); the ties are given (YtmmhmcplegpenaaGreatDoorTie.lean); close each card by the builder's one call (the guide's Derived/Test/ToyasCard.lean, 'card_holds'). Laid BY PROGRAM, IN A SANDBOX (cutbox-door.mjs). By AI agents, Wed Nov 11 2026. No macro, syntax, notation, axiom, sorry.
-/
import Derived.Test.YtmmhmcplegpenaaGreatDoorRows
import GoSem.ClaimSeven
namespace Go.Proofs.YtmmhmcplegpenaaGreatDoor
namespace Rows

/-- THE TIED CARD OF 'paternosterlaw23.ItemsKnown'. -/
def itemsKnownCard : Claim7 := { stood := { row := itemsKnownRow, standIns := [], harness := (true, "e0425224d7acef56497a043dd38d783ec2a62dc99b4690e3f747ac34140bf903"), looks := true }, kinds := [], alts := [], laidByText := true, laidKinds := [.data, .data, .data, .data, .sentinel, .sentinel, .pinned], laidTests := true, laidLooks := .later }
def ItemsKnownCardSaid : Prop := Claim7.holds Tryz.pinned (.plain (OpenSpec.ofChange itemsKnownSpec)) itemsKnownCard

/-- THE TIED CARD OF 'paternosterlaw25.NoticesApply'. -/
def noticesApplyCard : Claim7 := { stood := { row := noticesApplyRow, standIns := [], harness := (true, "e0425224d7acef56497a043dd38d783ec2a62dc99b4690e3f747ac34140bf903"), looks := true }, kinds := [], alts := [], laidByText := true, laidKinds := [.data, .data, .data, .data, .sentinel, .sentinel, .pinned], laidTests := true, laidLooks := .later }
def NoticesApplyCardSaid : Prop := Claim7.holds Tryz.pinned (.plain (OpenSpec.ofChange noticesApplySpec)) noticesApplyCard

/-- THE TIED CARD OF 'paternosterlaw25.NoticesSplit'. -/
def noticesSplitCard : Claim7 := { stood := { row := noticesSplitRow, standIns := [], harness := (true, "e0425224d7acef56497a043dd38d783ec2a62dc99b4690e3f747ac34140bf903"), looks := true }, kinds := [], alts := [], laidByText := true, laidKinds := [.data, .data, .data, .data, .sentinel, .sentinel, .pinned], laidTests := true, laidLooks := .later }
def NoticesSplitCardSaid : Prop := Claim7.holds Tryz.pinned (.plain (OpenSpec.ofChange noticesSplitSpec)) noticesSplitCard

/-- THE TIED CARD OF 'paternosterlaw25.NoticesErrors'. -/
def noticesErrorsCard : Claim7 := { stood := { row := noticesErrorsRow, standIns := [], harness := (true, "e0425224d7acef56497a043dd38d783ec2a62dc99b4690e3f747ac34140bf903"), looks := true }, kinds := [], alts := [], laidByText := true, laidKinds := [.data, .data, .data, .data, .sentinel, .sentinel, .pinned], laidTests := true, laidLooks := .later }
def NoticesErrorsCardSaid : Prop := Claim7.holds Tryz.pinned (.plain (OpenSpec.ofChange noticesErrorsSpec)) noticesErrorsCard

/-- THE TIED CARD OF 'paternosterlaw25.NoticesText'. -/
def noticesTextCard : Claim7 := { stood := { row := noticesTextRow, standIns := [], harness := (true, "e0425224d7acef56497a043dd38d783ec2a62dc99b4690e3f747ac34140bf903"), looks := true }, kinds := [], alts := [], laidByText := true, laidKinds := [.data, .data, .data, .data, .sentinel, .sentinel, .pinned], laidTests := true, laidLooks := .later }
def NoticesTextCardSaid : Prop := Claim7.holds Tryz.pinned (.plain (OpenSpec.ofChange noticesTextSpec)) noticesTextCard

/-- THE TIED CARD OF 'paternosterlaw25.NoticesParse'. -/
def noticesParseCard : Claim7 := { stood := { row := noticesParseRow, standIns := [], harness := (true, "e0425224d7acef56497a043dd38d783ec2a62dc99b4690e3f747ac34140bf903"), looks := true }, kinds := [], alts := [], laidByText := true, laidKinds := [.data, .data, .data, .data, .sentinel, .sentinel, .pinned], laidTests := true, laidLooks := .later }
def NoticesParseCardSaid : Prop := Claim7.holds Tryz.pinned (.plain (OpenSpec.ofChange noticesParseSpec)) noticesParseCard

/-- THE TIED CARD OF 'paternosterlaw25.NoticesKnown'. -/
def noticesKnownCard : Claim7 := { stood := { row := noticesKnownRow, standIns := [], harness := (true, "e0425224d7acef56497a043dd38d783ec2a62dc99b4690e3f747ac34140bf903"), looks := true }, kinds := [], alts := [], laidByText := true, laidKinds := [.data, .data, .data, .data, .sentinel, .sentinel, .pinned], laidTests := true, laidLooks := .later }
def NoticesKnownCardSaid : Prop := Claim7.holds Tryz.pinned (.plain (OpenSpec.ofChange noticesKnownSpec)) noticesKnownCard

/-- THE TIED CARD OF 'paternosterlaw25.NoticesCheck'. -/
def noticesCheckCard : Claim7 := { stood := { row := noticesCheckRow, standIns := [], harness := (true, "e0425224d7acef56497a043dd38d783ec2a62dc99b4690e3f747ac34140bf903"), looks := true }, kinds := [], alts := [], laidByText := true, laidKinds := [.data, .data, .data, .data, .sentinel, .sentinel, .pinned], laidTests := true, laidLooks := .later }
def NoticesCheckCardSaid : Prop := Claim7.holds Tryz.pinned (.plain (OpenSpec.ofChange noticesCheckSpec)) noticesCheckCard

/-- THE SECOND FORM's CARD OF 'paternosterlaw23.ItemsKnown'. -/
def itemsKnownUptoCard : Claim7 := { stood := { row := itemsKnownUptoRow, standIns := [], harness := (true, "e0425224d7acef56497a043dd38d783ec2a62dc99b4690e3f747ac34140bf903"), looks := true }, kinds := [], alts := [], laidByText := true, laidKinds := [.data, .data, .data, .data, .sentinel, .sentinel, .pinned], laidTests := true, laidLooks := .later }
def ItemsKnownUptoCardSaid : Prop := Claim7.holds Tryz.pinned (.plain (OpenSpec.upto itemsKnownSpec)) itemsKnownUptoCard

/-- THE SECOND FORM's CARD OF 'paternosterlaw25.NoticesApply'. -/
def noticesApplyUptoCard : Claim7 := { stood := { row := noticesApplyUptoRow, standIns := [], harness := (true, "e0425224d7acef56497a043dd38d783ec2a62dc99b4690e3f747ac34140bf903"), looks := true }, kinds := [], alts := [], laidByText := true, laidKinds := [.data, .data, .data, .data, .sentinel, .sentinel, .pinned], laidTests := true, laidLooks := .later }
def NoticesApplyUptoCardSaid : Prop := Claim7.holds Tryz.pinned (.plain (OpenSpec.upto noticesApplySpec)) noticesApplyUptoCard

/-- THE SECOND FORM's CARD OF 'paternosterlaw25.NoticesSplit'. -/
def noticesSplitUptoCard : Claim7 := { stood := { row := noticesSplitUptoRow, standIns := [], harness := (true, "e0425224d7acef56497a043dd38d783ec2a62dc99b4690e3f747ac34140bf903"), looks := true }, kinds := [], alts := [], laidByText := true, laidKinds := [.data, .data, .data, .data, .sentinel, .sentinel, .pinned], laidTests := true, laidLooks := .later }
def NoticesSplitUptoCardSaid : Prop := Claim7.holds Tryz.pinned (.plain (OpenSpec.upto noticesSplitSpec)) noticesSplitUptoCard

/-- THE SECOND FORM's CARD OF 'paternosterlaw25.NoticesErrors'. -/
def noticesErrorsUptoCard : Claim7 := { stood := { row := noticesErrorsUptoRow, standIns := [], harness := (true, "e0425224d7acef56497a043dd38d783ec2a62dc99b4690e3f747ac34140bf903"), looks := true }, kinds := [], alts := [], laidByText := true, laidKinds := [.data, .data, .data, .data, .sentinel, .sentinel, .pinned], laidTests := true, laidLooks := .later }
def NoticesErrorsUptoCardSaid : Prop := Claim7.holds Tryz.pinned (.plain (OpenSpec.upto noticesErrorsSpec)) noticesErrorsUptoCard

/-- THE SECOND FORM's CARD OF 'paternosterlaw25.NoticesText'. -/
def noticesTextUptoCard : Claim7 := { stood := { row := noticesTextUptoRow, standIns := [], harness := (true, "e0425224d7acef56497a043dd38d783ec2a62dc99b4690e3f747ac34140bf903"), looks := true }, kinds := [], alts := [], laidByText := true, laidKinds := [.data, .data, .data, .data, .sentinel, .sentinel, .pinned], laidTests := true, laidLooks := .later }
def NoticesTextUptoCardSaid : Prop := Claim7.holds Tryz.pinned (.plain (OpenSpec.upto noticesTextSpec)) noticesTextUptoCard

/-- THE SECOND FORM's CARD OF 'paternosterlaw25.NoticesParse'. -/
def noticesParseUptoCard : Claim7 := { stood := { row := noticesParseUptoRow, standIns := [], harness := (true, "e0425224d7acef56497a043dd38d783ec2a62dc99b4690e3f747ac34140bf903"), looks := true }, kinds := [], alts := [], laidByText := true, laidKinds := [.data, .data, .data, .data, .sentinel, .sentinel, .pinned], laidTests := true, laidLooks := .later }
def NoticesParseUptoCardSaid : Prop := Claim7.holds Tryz.pinned (.plain (OpenSpec.upto noticesParseSpec)) noticesParseUptoCard

/-- THE SECOND FORM's CARD OF 'paternosterlaw25.NoticesKnown'. -/
def noticesKnownUptoCard : Claim7 := { stood := { row := noticesKnownUptoRow, standIns := [], harness := (true, "e0425224d7acef56497a043dd38d783ec2a62dc99b4690e3f747ac34140bf903"), looks := true }, kinds := [], alts := [], laidByText := true, laidKinds := [.data, .data, .data, .data, .sentinel, .sentinel, .pinned], laidTests := true, laidLooks := .later }
def NoticesKnownUptoCardSaid : Prop := Claim7.holds Tryz.pinned (.plain (OpenSpec.upto noticesKnownSpec)) noticesKnownUptoCard

/-- THE SECOND FORM's CARD OF 'paternosterlaw25.NoticesCheck'. -/
def noticesCheckUptoCard : Claim7 := { stood := { row := noticesCheckUptoRow, standIns := [], harness := (true, "e0425224d7acef56497a043dd38d783ec2a62dc99b4690e3f747ac34140bf903"), looks := true }, kinds := [], alts := [], laidByText := true, laidKinds := [.data, .data, .data, .data, .sentinel, .sentinel, .pinned], laidTests := true, laidLooks := .later }
def NoticesCheckUptoCardSaid : Prop := Claim7.holds Tryz.pinned (.plain (OpenSpec.upto noticesCheckSpec)) noticesCheckUptoCard
end Rows
end Go.Proofs.YtmmhmcplegpenaaGreatDoor
