/-
  DERIVED. GIVEN WITH THE SEED: THE CARDS: each row of YtmmhmcplegpenaaDoorRows.lean that lists a variable, with what it lists TIED to the program's text (the seventh form; the later family's looks); each row that meets fmt, with fmt's text TOLD by the authors' own Lean function (tested against real Go, not proved from fmt's source: count such statements apart). THE CARD IS WHAT COUNTS. Prove the row's statement (the work); the ties are given (YtmmhmcplegpenaaDoorTie.lean); close each card by the builder's one call (the guide's Derived/Test/ToyasCard.lean, 'card_holds'). Laid BY PROGRAM, IN A SANDBOX (cutbox-door.mjs). By AI agents, Wed Nov 11 2026. No macro, syntax, notation, axiom, sorry.
-/
import Derived.Test.YtmmhmcplegpenaaDoorRows
import GoSem.ClaimSeven
namespace Go.Proofs.YtmmhmcplegpenaaDoor
namespace Rows

/-- THE TIED CARD OF 'paternosterlaw23.ItemsCheck'. -/
def itemsCheckCard : Claim7 := { stood := { row := itemsCheckRow, standIns := [], harness := (true, "a4f069b5db7fe2fcf41ef224949ffd0ed8b3a142c52bdc934f3cb214a7ab30b3"), looks := true }, kinds := [], alts := [], laidByText := true, laidKinds := [.data, .data, .data, .data, .sentinel, .sentinel, .pinned], laidTests := true, laidLooks := .later }
def ItemsCheckCardSaid : Prop := Claim7.holds Tryd.pinned (.plain (OpenSpec.ofChange itemsCheckSpec)) itemsCheckCard

/-- THE TIED CARD OF 'paternosterlaw23.ItemsText'. -/
def itemsTextCard : Claim7 := { stood := { row := itemsTextRow, standIns := [], harness := (true, "a4f069b5db7fe2fcf41ef224949ffd0ed8b3a142c52bdc934f3cb214a7ab30b3"), looks := true }, kinds := [], alts := [], laidByText := true, laidKinds := [.data, .data, .data, .data, .sentinel, .sentinel, .pinned], laidTests := true, laidLooks := .later }
def ItemsTextCardSaid : Prop := Claim7.holds Tryd.pinned (.plain (OpenSpec.ofChange itemsTextSpec)) itemsTextCard

/-- THE TIED CARD OF 'paternosterlaw23.ItemsParse'. -/
def itemsParseCard : Claim7 := { stood := { row := itemsParseRow, standIns := [], harness := (true, "a4f069b5db7fe2fcf41ef224949ffd0ed8b3a142c52bdc934f3cb214a7ab30b3"), looks := true }, kinds := [], alts := [], laidByText := true, laidKinds := [.data, .data, .data, .data, .sentinel, .sentinel, .pinned], laidTests := true, laidLooks := .later }
def ItemsParseCardSaid : Prop := Claim7.holds Tryd.pinned (.plain (OpenSpec.ofChange itemsParseSpec)) itemsParseCard

/-- THE TIED CARD OF 'paternosterlaw23.ItemsSame'. -/
def itemsSameCard : Claim7 := { stood := { row := itemsSameRow, standIns := [], harness := (true, "a4f069b5db7fe2fcf41ef224949ffd0ed8b3a142c52bdc934f3cb214a7ab30b3"), looks := true }, kinds := [], alts := [], laidByText := true, laidKinds := [.data, .data, .data, .data, .sentinel, .sentinel, .pinned], laidTests := true, laidLooks := .later }
def ItemsSameCardSaid : Prop := Claim7.holds Tryd.pinned (.plain (OpenSpec.ofChange itemsSameSpec)) itemsSameCard

/-- THE SECOND FORM's CARD OF 'paternosterlaw23.ItemsCheck'. -/
def itemsCheckUptoCard : Claim7 := { stood := { row := itemsCheckUptoRow, standIns := [], harness := (true, "a4f069b5db7fe2fcf41ef224949ffd0ed8b3a142c52bdc934f3cb214a7ab30b3"), looks := true }, kinds := [], alts := [], laidByText := true, laidKinds := [.data, .data, .data, .data, .sentinel, .sentinel, .pinned], laidTests := true, laidLooks := .later }
def ItemsCheckUptoCardSaid : Prop := Claim7.holds Tryd.pinned (.plain (OpenSpec.upto itemsCheckSpec)) itemsCheckUptoCard

/-- THE SECOND FORM's CARD OF 'paternosterlaw23.ItemsText'. -/
def itemsTextUptoCard : Claim7 := { stood := { row := itemsTextUptoRow, standIns := [], harness := (true, "a4f069b5db7fe2fcf41ef224949ffd0ed8b3a142c52bdc934f3cb214a7ab30b3"), looks := true }, kinds := [], alts := [], laidByText := true, laidKinds := [.data, .data, .data, .data, .sentinel, .sentinel, .pinned], laidTests := true, laidLooks := .later }
def ItemsTextUptoCardSaid : Prop := Claim7.holds Tryd.pinned (.plain (OpenSpec.upto itemsTextSpec)) itemsTextUptoCard

/-- THE SECOND FORM's CARD OF 'paternosterlaw23.ItemsParse'. -/
def itemsParseUptoCard : Claim7 := { stood := { row := itemsParseUptoRow, standIns := [], harness := (true, "a4f069b5db7fe2fcf41ef224949ffd0ed8b3a142c52bdc934f3cb214a7ab30b3"), looks := true }, kinds := [], alts := [], laidByText := true, laidKinds := [.data, .data, .data, .data, .sentinel, .sentinel, .pinned], laidTests := true, laidLooks := .later }
def ItemsParseUptoCardSaid : Prop := Claim7.holds Tryd.pinned (.plain (OpenSpec.upto itemsParseSpec)) itemsParseUptoCard

/-- THE SECOND FORM's CARD OF 'paternosterlaw23.ItemsSame'. -/
def itemsSameUptoCard : Claim7 := { stood := { row := itemsSameUptoRow, standIns := [], harness := (true, "a4f069b5db7fe2fcf41ef224949ffd0ed8b3a142c52bdc934f3cb214a7ab30b3"), looks := true }, kinds := [], alts := [], laidByText := true, laidKinds := [.data, .data, .data, .data, .sentinel, .sentinel, .pinned], laidTests := true, laidLooks := .later }
def ItemsSameUptoCardSaid : Prop := Claim7.holds Tryd.pinned (.plain (OpenSpec.upto itemsSameSpec)) itemsSameUptoCard
end Rows
end Go.Proofs.YtmmhmcplegpenaaDoor
