/-
  DERIVED. GIVEN WITH THE SEED: THE CARDS: each row of YtfnkpjkbgfgbkaaDoorRows.lean that lists a variable, with what it lists TIED to the program's text (the seventh form; the later family's looks); each row that meets fmt, with fmt's text TOLD by the authors' own Lean function (tested against real Go, not proved from fmt's source: count such statements apart). THE CARD IS WHAT COUNTS. Prove the row's statement (the work); the ties are given (YtfnkpjkbgfgbkaaDoorTie.lean); close each card by the builder's one call (the guide's Derived/Test/ToyasCard.lean, 'card_holds'). Laid BY PROGRAM, IN A SANDBOX (cutbox-door.mjs). By AI agents, Wed Nov 11 2026. No macro, syntax, notation, axiom, sorry.
-/
import Derived.Test.YtfnkpjkbgfgbkaaDoorRows
import GoSem.ClaimSeven
namespace Go.Proofs.YtfnkpjkbgfgbkaaDoor
namespace Rows

/-- THE TIED CARD OF 'calamuslaw14.ItemiseScripts'. -/
def itemiseScriptsCard : Claim7 := { stood := { row := itemiseScriptsRow, standIns := [], harness := (true, "88118de73d515b568741db1aa0a72ac7ef31c97a628b66b8fcfc5ef0c9436d60"), looks := false }, kinds := [], alts := [], laidByText := true, laidKinds := [.widerDeep, .widerDeep], laidTests := true, laidLooks := .later }
def ItemiseScriptsCardSaid : Prop := Claim7.holds Tryd.pinned (.plain (OpenSpec.ofChange itemiseScriptsSpec)) itemiseScriptsCard

/-- THE TIED CARD OF 'calamuslaw14.ItemiseRuns'. -/
def itemiseRunsCard : Claim7 := { stood := { row := itemiseRunsRow, standIns := [], harness := (true, "88118de73d515b568741db1aa0a72ac7ef31c97a628b66b8fcfc5ef0c9436d60"), looks := false }, kinds := [], alts := [], laidByText := true, laidKinds := [.widerDeep, .widerDeep], laidTests := true, laidLooks := .later }
def ItemiseRunsCardSaid : Prop := Claim7.holds Tryd.pinned (.plain (OpenSpec.ofChange itemiseRunsSpec)) itemiseRunsCard

/-- THE TIED CARD OF 'calamuslaw14.ItemiseTiles'. -/
def itemiseTilesCard : Claim7 := { stood := { row := itemiseTilesRow, standIns := [], harness := (true, "88118de73d515b568741db1aa0a72ac7ef31c97a628b66b8fcfc5ef0c9436d60"), looks := false }, kinds := [], alts := [], laidByText := true, laidKinds := [.widerDeep, .widerDeep], laidTests := true, laidLooks := .later }
def ItemiseTilesCardSaid : Prop := Claim7.holds Tryd.pinned (.plain (OpenSpec.ofChange itemiseTilesSpec)) itemiseTilesCard

/-- THE TIED CARD OF 'calamuslaw14.ItemiseParts'. -/
def itemisePartsCard : Claim7 := { stood := { row := itemisePartsRow, standIns := [], harness := (true, "88118de73d515b568741db1aa0a72ac7ef31c97a628b66b8fcfc5ef0c9436d60"), looks := false }, kinds := [], alts := [], laidByText := true, laidKinds := [.widerDeep, .widerDeep], laidTests := true, laidLooks := .later }
def ItemisePartsCardSaid : Prop := Claim7.holds Tryd.pinned (.plain (OpenSpec.ofChange itemisePartsSpec)) itemisePartsCard

/-- THE TIED CARD OF 'calamuslaw14.ItemiseKnown'. -/
def itemiseKnownCard : Claim7 := { stood := { row := itemiseKnownRow, standIns := [], harness := (true, "88118de73d515b568741db1aa0a72ac7ef31c97a628b66b8fcfc5ef0c9436d60"), looks := false }, kinds := [], alts := [], laidByText := true, laidKinds := [.widerDeep, .widerDeep], laidTests := true, laidLooks := .later }
def ItemiseKnownCardSaid : Prop := Claim7.holds Tryd.pinned (.plain (OpenSpec.ofChange itemiseKnownSpec)) itemiseKnownCard

/-- THE TIED CARD OF 'calamuslaw02.UcdTables'. -/
def ucdTablesCard : Claim7 := { stood := { row := ucdTablesRow, standIns := [], harness := (true, "88118de73d515b568741db1aa0a72ac7ef31c97a628b66b8fcfc5ef0c9436d60"), looks := false }, kinds := [], alts := [], laidByText := true, laidKinds := [.data, .widerDeep, .widerDeep, .widerDeep, .widerDeep, .widerDeep, .pinned], laidTests := true, laidLooks := .later }
def UcdTablesCardSaid : Prop := Claim7.holds Tryd.pinned (.plain (OpenSpec.ofChange ucdTablesSpec)) ucdTablesCard

/-- THE TIED CARD OF 'calamuslaw02.UcdDecodes'. -/
def ucdDecodesCard : Claim7 := { stood := { row := ucdDecodesRow, standIns := [], harness := (true, "88118de73d515b568741db1aa0a72ac7ef31c97a628b66b8fcfc5ef0c9436d60"), looks := false }, kinds := [], alts := [], laidByText := true, laidKinds := [.data, .widerDeep, .widerDeep, .widerDeep, .widerDeep, .widerDeep, .pinned], laidTests := true, laidLooks := .later }
def UcdDecodesCardSaid : Prop := Claim7.holds Tryd.pinned (.plain (OpenSpec.ofChange ucdDecodesSpec)) ucdDecodesCard

/-- THE TIED CARD OF 'calamuslaw02.UcdBack'. -/
def ucdBackCard : Claim7 := { stood := { row := ucdBackRow, standIns := [], harness := (true, "88118de73d515b568741db1aa0a72ac7ef31c97a628b66b8fcfc5ef0c9436d60"), looks := false }, kinds := [], alts := [], laidByText := true, laidKinds := [.data, .widerDeep, .widerDeep, .widerDeep, .widerDeep, .widerDeep, .pinned], laidTests := true, laidLooks := .later }
def UcdBackCardSaid : Prop := Claim7.holds Tryd.pinned (.plain (OpenSpec.ofChange ucdBackSpec)) ucdBackCard

/-- THE SECOND FORM's CARD OF 'calamuslaw14.ItemiseScripts'. -/
def itemiseScriptsUptoCard : Claim7 := { stood := { row := itemiseScriptsUptoRow, standIns := [], harness := (true, "88118de73d515b568741db1aa0a72ac7ef31c97a628b66b8fcfc5ef0c9436d60"), looks := false }, kinds := [], alts := [], laidByText := true, laidKinds := [.widerDeep, .widerDeep], laidTests := true, laidLooks := .later }
def ItemiseScriptsUptoCardSaid : Prop := Claim7.holds Tryd.pinned (.plain (OpenSpec.upto itemiseScriptsSpec)) itemiseScriptsUptoCard

/-- THE SECOND FORM's CARD OF 'calamuslaw14.ItemiseRuns'. -/
def itemiseRunsUptoCard : Claim7 := { stood := { row := itemiseRunsUptoRow, standIns := [], harness := (true, "88118de73d515b568741db1aa0a72ac7ef31c97a628b66b8fcfc5ef0c9436d60"), looks := false }, kinds := [], alts := [], laidByText := true, laidKinds := [.widerDeep, .widerDeep], laidTests := true, laidLooks := .later }
def ItemiseRunsUptoCardSaid : Prop := Claim7.holds Tryd.pinned (.plain (OpenSpec.upto itemiseRunsSpec)) itemiseRunsUptoCard

/-- THE SECOND FORM's CARD OF 'calamuslaw14.ItemiseTiles'. -/
def itemiseTilesUptoCard : Claim7 := { stood := { row := itemiseTilesUptoRow, standIns := [], harness := (true, "88118de73d515b568741db1aa0a72ac7ef31c97a628b66b8fcfc5ef0c9436d60"), looks := false }, kinds := [], alts := [], laidByText := true, laidKinds := [.widerDeep, .widerDeep], laidTests := true, laidLooks := .later }
def ItemiseTilesUptoCardSaid : Prop := Claim7.holds Tryd.pinned (.plain (OpenSpec.upto itemiseTilesSpec)) itemiseTilesUptoCard

/-- THE SECOND FORM's CARD OF 'calamuslaw14.ItemiseParts'. -/
def itemisePartsUptoCard : Claim7 := { stood := { row := itemisePartsUptoRow, standIns := [], harness := (true, "88118de73d515b568741db1aa0a72ac7ef31c97a628b66b8fcfc5ef0c9436d60"), looks := false }, kinds := [], alts := [], laidByText := true, laidKinds := [.widerDeep, .widerDeep], laidTests := true, laidLooks := .later }
def ItemisePartsUptoCardSaid : Prop := Claim7.holds Tryd.pinned (.plain (OpenSpec.upto itemisePartsSpec)) itemisePartsUptoCard

/-- THE SECOND FORM's CARD OF 'calamuslaw14.ItemiseKnown'. -/
def itemiseKnownUptoCard : Claim7 := { stood := { row := itemiseKnownUptoRow, standIns := [], harness := (true, "88118de73d515b568741db1aa0a72ac7ef31c97a628b66b8fcfc5ef0c9436d60"), looks := false }, kinds := [], alts := [], laidByText := true, laidKinds := [.widerDeep, .widerDeep], laidTests := true, laidLooks := .later }
def ItemiseKnownUptoCardSaid : Prop := Claim7.holds Tryd.pinned (.plain (OpenSpec.upto itemiseKnownSpec)) itemiseKnownUptoCard

/-- THE SECOND FORM's CARD OF 'calamuslaw02.UcdTables'. -/
def ucdTablesUptoCard : Claim7 := { stood := { row := ucdTablesUptoRow, standIns := [], harness := (true, "88118de73d515b568741db1aa0a72ac7ef31c97a628b66b8fcfc5ef0c9436d60"), looks := false }, kinds := [], alts := [], laidByText := true, laidKinds := [.data, .widerDeep, .widerDeep, .widerDeep, .widerDeep, .widerDeep, .pinned], laidTests := true, laidLooks := .later }
def UcdTablesUptoCardSaid : Prop := Claim7.holds Tryd.pinned (.plain (OpenSpec.upto ucdTablesSpec)) ucdTablesUptoCard

/-- THE SECOND FORM's CARD OF 'calamuslaw02.UcdDecodes'. -/
def ucdDecodesUptoCard : Claim7 := { stood := { row := ucdDecodesUptoRow, standIns := [], harness := (true, "88118de73d515b568741db1aa0a72ac7ef31c97a628b66b8fcfc5ef0c9436d60"), looks := false }, kinds := [], alts := [], laidByText := true, laidKinds := [.data, .widerDeep, .widerDeep, .widerDeep, .widerDeep, .widerDeep, .pinned], laidTests := true, laidLooks := .later }
def UcdDecodesUptoCardSaid : Prop := Claim7.holds Tryd.pinned (.plain (OpenSpec.upto ucdDecodesSpec)) ucdDecodesUptoCard

/-- THE SECOND FORM's CARD OF 'calamuslaw02.UcdBack'. -/
def ucdBackUptoCard : Claim7 := { stood := { row := ucdBackUptoRow, standIns := [], harness := (true, "88118de73d515b568741db1aa0a72ac7ef31c97a628b66b8fcfc5ef0c9436d60"), looks := false }, kinds := [], alts := [], laidByText := true, laidKinds := [.data, .widerDeep, .widerDeep, .widerDeep, .widerDeep, .widerDeep, .pinned], laidTests := true, laidLooks := .later }
def UcdBackUptoCardSaid : Prop := Claim7.holds Tryd.pinned (.plain (OpenSpec.upto ucdBackSpec)) ucdBackUptoCard
end Rows
end Go.Proofs.YtfnkpjkbgfgbkaaDoor
