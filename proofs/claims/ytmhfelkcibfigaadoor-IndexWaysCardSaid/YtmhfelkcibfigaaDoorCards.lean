/-
  DERIVED. GIVEN WITH THE SEED: THE CARDS: each row of YtmhfelkcibfigaaDoorRows.lean that lists a variable, with what it lists TIED to the program's text (the seventh form; the later family's looks); each row that meets fmt, with fmt's text TOLD by the authors' own Lean function (tested against real Go, not proved from fmt's source: count such statements apart). THE CARD IS WHAT COUNTS. Prove the row's statement (the work); the ties are given (YtmhfelkcibfigaaDoorTie.lean); close each card by the builder's one call (the guide's Derived/Test/ToyasCard.lean, 'card_holds'). Laid BY PROGRAM, IN A SANDBOX (cutbox-door.mjs). By AI agents, Wed Nov 11 2026. No macro, syntax, notation, axiom, sorry.
-/
import Derived.Test.YtmhfelkcibfigaaDoorRows
import GoSem.ClaimSeven
namespace Go.Proofs.YtmhfelkcibfigaaDoor
namespace Rows

/-- THE TIED CARD OF 'synodlaw12.IndexWays'. -/
def indexWaysCard : Claim7 := { stood := { row := indexWaysRow, standIns := [], harness := (true, "e4faf631d0a00911626ac8aae86f3678125b07218acd6e6b8feb20b2d236589c"), looks := false }, kinds := [], alts := [], laidByText := true, laidKinds := [.data, .data], laidTests := true, laidLooks := .later }
def IndexWaysCardSaid : Prop := Claim7.holds Tryd.pinned (.plain (OpenSpec.ofChange indexWaysSpec)) indexWaysCard

/-- THE TIED CARD OF 'synodlaw12.IndexNumbers'. -/
def indexNumbersCard : Claim7 := { stood := { row := indexNumbersRow, standIns := [], harness := (true, "e4faf631d0a00911626ac8aae86f3678125b07218acd6e6b8feb20b2d236589c"), looks := false }, kinds := [], alts := [], laidByText := true, laidKinds := [.data, .data], laidTests := true, laidLooks := .later }
def IndexNumbersCardSaid : Prop := Claim7.holds Tryd.pinned (.plain (OpenSpec.ofChange indexNumbersSpec)) indexNumbersCard

/-- THE TIED CARD OF 'synodlaw12.IndexHalves'. -/
def indexHalvesCard : Claim7 := { stood := { row := indexHalvesRow, standIns := [], harness := (true, "e4faf631d0a00911626ac8aae86f3678125b07218acd6e6b8feb20b2d236589c"), looks := false }, kinds := [], alts := [], laidByText := true, laidKinds := [.data, .data], laidTests := true, laidLooks := .later }
def IndexHalvesCardSaid : Prop := Claim7.holds Tryd.pinned (.plain (OpenSpec.ofChange indexHalvesSpec)) indexHalvesCard

/-- THE TIED CARD OF 'synodlaw12.IndexMeets'. -/
def indexMeetsCard : Claim7 := { stood := { row := indexMeetsRow, standIns := [], harness := (true, "e4faf631d0a00911626ac8aae86f3678125b07218acd6e6b8feb20b2d236589c"), looks := false }, kinds := [], alts := [], laidByText := true, laidKinds := [.data, .data], laidTests := true, laidLooks := .later }
def IndexMeetsCardSaid : Prop := Claim7.holds Tryd.pinned (.plain (OpenSpec.ofChange indexMeetsSpec)) indexMeetsCard

/-- THE TIED CARD OF 'synodlaw12.IndexPlaces'. -/
def indexPlacesCard : Claim7 := { stood := { row := indexPlacesRow, standIns := [], harness := (true, "e4faf631d0a00911626ac8aae86f3678125b07218acd6e6b8feb20b2d236589c"), looks := false }, kinds := [], alts := [], laidByText := true, laidKinds := [.data, .data], laidTests := true, laidLooks := .later }
def IndexPlacesCardSaid : Prop := Claim7.holds Tryd.pinned (.plain (OpenSpec.ofChange indexPlacesSpec)) indexPlacesCard

/-- THE SECOND FORM's CARD OF 'synodlaw12.IndexWays'. -/
def indexWaysUptoCard : Claim7 := { stood := { row := indexWaysUptoRow, standIns := [], harness := (true, "e4faf631d0a00911626ac8aae86f3678125b07218acd6e6b8feb20b2d236589c"), looks := false }, kinds := [], alts := [], laidByText := true, laidKinds := [.data, .data], laidTests := true, laidLooks := .later }
def IndexWaysUptoCardSaid : Prop := Claim7.holds Tryd.pinned (.plain (OpenSpec.upto indexWaysSpec)) indexWaysUptoCard

/-- THE SECOND FORM's CARD OF 'synodlaw12.IndexNumbers'. -/
def indexNumbersUptoCard : Claim7 := { stood := { row := indexNumbersUptoRow, standIns := [], harness := (true, "e4faf631d0a00911626ac8aae86f3678125b07218acd6e6b8feb20b2d236589c"), looks := false }, kinds := [], alts := [], laidByText := true, laidKinds := [.data, .data], laidTests := true, laidLooks := .later }
def IndexNumbersUptoCardSaid : Prop := Claim7.holds Tryd.pinned (.plain (OpenSpec.upto indexNumbersSpec)) indexNumbersUptoCard

/-- THE SECOND FORM's CARD OF 'synodlaw12.IndexHalves'. -/
def indexHalvesUptoCard : Claim7 := { stood := { row := indexHalvesUptoRow, standIns := [], harness := (true, "e4faf631d0a00911626ac8aae86f3678125b07218acd6e6b8feb20b2d236589c"), looks := false }, kinds := [], alts := [], laidByText := true, laidKinds := [.data, .data], laidTests := true, laidLooks := .later }
def IndexHalvesUptoCardSaid : Prop := Claim7.holds Tryd.pinned (.plain (OpenSpec.upto indexHalvesSpec)) indexHalvesUptoCard

/-- THE SECOND FORM's CARD OF 'synodlaw12.IndexMeets'. -/
def indexMeetsUptoCard : Claim7 := { stood := { row := indexMeetsUptoRow, standIns := [], harness := (true, "e4faf631d0a00911626ac8aae86f3678125b07218acd6e6b8feb20b2d236589c"), looks := false }, kinds := [], alts := [], laidByText := true, laidKinds := [.data, .data], laidTests := true, laidLooks := .later }
def IndexMeetsUptoCardSaid : Prop := Claim7.holds Tryd.pinned (.plain (OpenSpec.upto indexMeetsSpec)) indexMeetsUptoCard

/-- THE SECOND FORM's CARD OF 'synodlaw12.IndexPlaces'. -/
def indexPlacesUptoCard : Claim7 := { stood := { row := indexPlacesUptoRow, standIns := [], harness := (true, "e4faf631d0a00911626ac8aae86f3678125b07218acd6e6b8feb20b2d236589c"), looks := false }, kinds := [], alts := [], laidByText := true, laidKinds := [.data, .data], laidTests := true, laidLooks := .later }
def IndexPlacesUptoCardSaid : Prop := Claim7.holds Tryd.pinned (.plain (OpenSpec.upto indexPlacesSpec)) indexPlacesUptoCard
end Rows
end Go.Proofs.YtmhfelkcibfigaaDoor
