/-
  DERIVED. GIVEN WITH THE SEED: THE CARDS: each row of YtokeofoemjeleaaDoorRows.lean that lists a variable, with what it lists TIED to the program's text (the seventh form; the later family's looks); each row that meets fmt, with fmt's text TOLD by the authors' own Lean function (tested against real Go, not proved from fmt's source: count such statements apart). THE CARD IS WHAT COUNTS. Prove the row's statement (the work); the ties are given (YtokeofoemjeleaaDoorTie.lean); close each card by the builder's one call (the guide's Derived/Test/ToyasCard.lean, 'card_holds'). Laid BY PROGRAM, IN A SANDBOX (cutbox-door.mjs). By AI agents, Wed Nov 11 2026. No macro, syntax, notation, axiom, sorry.
-/
import Derived.Test.YtokeofoemjeleaaDoorRows
import GoSem.ClaimSeven
namespace Go.Proofs.YtokeofoemjeleaaDoor
namespace Rows

/-- THE TIED CARD OF 'paternosterlaw11.TablesCheck'. -/
def tablesCheckCard : Claim7 := { stood := { row := tablesCheckRow, standIns := [], harness := (true, "87ad62ff78ff66d374cc75b455388ce7f428d801f66932245dc3c47a396c995e"), looks := true }, kinds := [], alts := [], laidByText := true, laidKinds := [.data, .data, .data, .sentinel, .sentinel], laidTests := true, laidLooks := .later }
def TablesCheckCardSaid : Prop := Claim7.holds Tryd.pinned (.plain (OpenSpec.ofChange tablesCheckSpec)) tablesCheckCard

/-- THE TIED CARD OF 'paternosterlaw11.TablesErrors'. -/
def tablesErrorsCard : Claim7 := { stood := { row := tablesErrorsRow, standIns := [], harness := (true, "87ad62ff78ff66d374cc75b455388ce7f428d801f66932245dc3c47a396c995e"), looks := true }, kinds := [], alts := [], laidByText := true, laidKinds := [.data, .data, .data, .sentinel, .sentinel], laidTests := true, laidLooks := .later }
def TablesErrorsCardSaid : Prop := Claim7.holds Tryd.pinned (.plain (OpenSpec.ofChange tablesErrorsSpec)) tablesErrorsCard

/-- THE TIED CARD OF 'paternosterlaw11.TablesText'. -/
def tablesTextCard : Claim7 := { stood := { row := tablesTextRow, standIns := [], harness := (true, "87ad62ff78ff66d374cc75b455388ce7f428d801f66932245dc3c47a396c995e"), looks := true }, kinds := [], alts := [], laidByText := true, laidKinds := [.data, .data, .data, .sentinel, .sentinel], laidTests := true, laidLooks := .later }
def TablesTextCardSaid : Prop := Claim7.holds Tryd.pinned (.plain (OpenSpec.ofChange tablesTextSpec)) tablesTextCard

/-- THE TIED CARD OF 'paternosterlaw11.TablesParse'. -/
def tablesParseCard : Claim7 := { stood := { row := tablesParseRow, standIns := [], harness := (true, "87ad62ff78ff66d374cc75b455388ce7f428d801f66932245dc3c47a396c995e"), looks := true }, kinds := [], alts := [], laidByText := true, laidKinds := [.data, .data, .data, .sentinel, .sentinel], laidTests := true, laidLooks := .later }
def TablesParseCardSaid : Prop := Claim7.holds Tryd.pinned (.plain (OpenSpec.ofChange tablesParseSpec)) tablesParseCard

/-- THE TIED CARD OF 'paternosterlaw11.TablesKnown'. -/
def tablesKnownCard : Claim7 := { stood := { row := tablesKnownRow, standIns := [], harness := (true, "87ad62ff78ff66d374cc75b455388ce7f428d801f66932245dc3c47a396c995e"), looks := true }, kinds := [], alts := [], laidByText := true, laidKinds := [.data, .data, .data, .sentinel, .sentinel], laidTests := true, laidLooks := .later }
def TablesKnownCardSaid : Prop := Claim7.holds Tryd.pinned (.plain (OpenSpec.ofChange tablesKnownSpec)) tablesKnownCard

/-- THE TIED CARD OF 'paternosterlaw11.TablesFind'. -/
def tablesFindCard : Claim7 := { stood := { row := tablesFindRow, standIns := [], harness := (true, "87ad62ff78ff66d374cc75b455388ce7f428d801f66932245dc3c47a396c995e"), looks := true }, kinds := [], alts := [], laidByText := true, laidKinds := [.data, .data, .data, .sentinel, .sentinel], laidTests := true, laidLooks := .later }
def TablesFindCardSaid : Prop := Claim7.holds Tryd.pinned (.plain (OpenSpec.ofChange tablesFindSpec)) tablesFindCard

/-- THE TIED CARD OF 'paternosterlaw11.TablesMerge'. -/
def tablesMergeCard : Claim7 := { stood := { row := tablesMergeRow, standIns := [], harness := (true, "87ad62ff78ff66d374cc75b455388ce7f428d801f66932245dc3c47a396c995e"), looks := true }, kinds := [], alts := [], laidByText := true, laidKinds := [.data, .data, .data, .sentinel, .sentinel], laidTests := true, laidLooks := .later }
def TablesMergeCardSaid : Prop := Claim7.holds Tryd.pinned (.plain (OpenSpec.ofChange tablesMergeSpec)) tablesMergeCard

/-- THE SECOND FORM's CARD OF 'paternosterlaw11.TablesCheck'. -/
def tablesCheckUptoCard : Claim7 := { stood := { row := tablesCheckUptoRow, standIns := [], harness := (true, "87ad62ff78ff66d374cc75b455388ce7f428d801f66932245dc3c47a396c995e"), looks := true }, kinds := [], alts := [], laidByText := true, laidKinds := [.data, .data, .data, .sentinel, .sentinel], laidTests := true, laidLooks := .later }
def TablesCheckUptoCardSaid : Prop := Claim7.holds Tryd.pinned (.plain (OpenSpec.upto tablesCheckSpec)) tablesCheckUptoCard

/-- THE SECOND FORM's CARD OF 'paternosterlaw11.TablesErrors'. -/
def tablesErrorsUptoCard : Claim7 := { stood := { row := tablesErrorsUptoRow, standIns := [], harness := (true, "87ad62ff78ff66d374cc75b455388ce7f428d801f66932245dc3c47a396c995e"), looks := true }, kinds := [], alts := [], laidByText := true, laidKinds := [.data, .data, .data, .sentinel, .sentinel], laidTests := true, laidLooks := .later }
def TablesErrorsUptoCardSaid : Prop := Claim7.holds Tryd.pinned (.plain (OpenSpec.upto tablesErrorsSpec)) tablesErrorsUptoCard

/-- THE SECOND FORM's CARD OF 'paternosterlaw11.TablesText'. -/
def tablesTextUptoCard : Claim7 := { stood := { row := tablesTextUptoRow, standIns := [], harness := (true, "87ad62ff78ff66d374cc75b455388ce7f428d801f66932245dc3c47a396c995e"), looks := true }, kinds := [], alts := [], laidByText := true, laidKinds := [.data, .data, .data, .sentinel, .sentinel], laidTests := true, laidLooks := .later }
def TablesTextUptoCardSaid : Prop := Claim7.holds Tryd.pinned (.plain (OpenSpec.upto tablesTextSpec)) tablesTextUptoCard

/-- THE SECOND FORM's CARD OF 'paternosterlaw11.TablesParse'. -/
def tablesParseUptoCard : Claim7 := { stood := { row := tablesParseUptoRow, standIns := [], harness := (true, "87ad62ff78ff66d374cc75b455388ce7f428d801f66932245dc3c47a396c995e"), looks := true }, kinds := [], alts := [], laidByText := true, laidKinds := [.data, .data, .data, .sentinel, .sentinel], laidTests := true, laidLooks := .later }
def TablesParseUptoCardSaid : Prop := Claim7.holds Tryd.pinned (.plain (OpenSpec.upto tablesParseSpec)) tablesParseUptoCard

/-- THE SECOND FORM's CARD OF 'paternosterlaw11.TablesKnown'. -/
def tablesKnownUptoCard : Claim7 := { stood := { row := tablesKnownUptoRow, standIns := [], harness := (true, "87ad62ff78ff66d374cc75b455388ce7f428d801f66932245dc3c47a396c995e"), looks := true }, kinds := [], alts := [], laidByText := true, laidKinds := [.data, .data, .data, .sentinel, .sentinel], laidTests := true, laidLooks := .later }
def TablesKnownUptoCardSaid : Prop := Claim7.holds Tryd.pinned (.plain (OpenSpec.upto tablesKnownSpec)) tablesKnownUptoCard

/-- THE SECOND FORM's CARD OF 'paternosterlaw11.TablesFind'. -/
def tablesFindUptoCard : Claim7 := { stood := { row := tablesFindUptoRow, standIns := [], harness := (true, "87ad62ff78ff66d374cc75b455388ce7f428d801f66932245dc3c47a396c995e"), looks := true }, kinds := [], alts := [], laidByText := true, laidKinds := [.data, .data, .data, .sentinel, .sentinel], laidTests := true, laidLooks := .later }
def TablesFindUptoCardSaid : Prop := Claim7.holds Tryd.pinned (.plain (OpenSpec.upto tablesFindSpec)) tablesFindUptoCard

/-- THE SECOND FORM's CARD OF 'paternosterlaw11.TablesMerge'. -/
def tablesMergeUptoCard : Claim7 := { stood := { row := tablesMergeUptoRow, standIns := [], harness := (true, "87ad62ff78ff66d374cc75b455388ce7f428d801f66932245dc3c47a396c995e"), looks := true }, kinds := [], alts := [], laidByText := true, laidKinds := [.data, .data, .data, .sentinel, .sentinel], laidTests := true, laidLooks := .later }
def TablesMergeUptoCardSaid : Prop := Claim7.holds Tryd.pinned (.plain (OpenSpec.upto tablesMergeSpec)) tablesMergeUptoCard
end Rows
end Go.Proofs.YtokeofoemjeleaaDoor
