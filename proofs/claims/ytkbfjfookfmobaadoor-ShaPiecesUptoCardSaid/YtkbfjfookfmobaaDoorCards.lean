/-
  DERIVED. GIVEN WITH THE SEED: THE CARDS: each row of YtkbfjfookfmobaaDoorRows.lean that lists a variable, with what it lists TIED to the program's text (the seventh form; the later family's looks); each row that meets fmt, with fmt's text TOLD by the authors' own Lean function (tested against real Go, not proved from fmt's source: count such statements apart). THE CARD IS WHAT COUNTS. Prove the row's statement (the work); the ties are given (YtkbfjfookfmobaaDoorTie.lean); close each card by the builder's one call (the guide's Derived/Test/ToyasCard.lean, 'card_holds'). Laid BY PROGRAM, IN A SANDBOX (cutbox-door.mjs). By AI agents, Wed Nov 11 2026. No macro, syntax, notation, axiom, sorry.
-/
import Derived.Test.YtkbfjfookfmobaaDoorRows
import GoSem.ClaimSeven
namespace Go.Proofs.YtkbfjfookfmobaaDoor
namespace Rows

/-- THE TIED CARD OF 'synodlaw01.ShaSmall'. -/
def shaSmallCard : Claim7 := { stood := { row := shaSmallRow, standIns := [], harness := (true, "a73a846b3c30bb33a1e1fc35859710199638a9d55f693fd7d603e456ce0f3f0c"), looks := false }, kinds := [], alts := [], laidByText := true, laidKinds := [.data, .data], laidTests := true, laidLooks := .later }
def ShaSmallCardSaid : Prop := Claim7.holds Tryd.pinned (.plain (OpenSpec.ofChange shaSmallSpec)) shaSmallCard

/-- THE TIED CARD OF 'synodlaw01.ShaLarge'. -/
def shaLargeCard : Claim7 := { stood := { row := shaLargeRow, standIns := [], harness := (true, "a73a846b3c30bb33a1e1fc35859710199638a9d55f693fd7d603e456ce0f3f0c"), looks := false }, kinds := [], alts := [], laidByText := true, laidKinds := [.data, .data], laidTests := true, laidLooks := .later }
def ShaLargeCardSaid : Prop := Claim7.holds Tryd.pinned (.plain (OpenSpec.ofChange shaLargeSpec)) shaLargeCard

/-- THE TIED CARD OF 'synodlaw01.ShaNil'. -/
def shaNilCard : Claim7 := { stood := { row := shaNilRow, standIns := [], harness := (true, "a73a846b3c30bb33a1e1fc35859710199638a9d55f693fd7d603e456ce0f3f0c"), looks := false }, kinds := [], alts := [], laidByText := true, laidKinds := [.data, .data], laidTests := true, laidLooks := .later }
def ShaNilCardSaid : Prop := Claim7.holds Tryd.pinned (.plain (OpenSpec.ofChange shaNilSpec)) shaNilCard

/-- THE TIED CARD OF 'synodlaw01.ShaPieces'. -/
def shaPiecesCard : Claim7 := { stood := { row := shaPiecesRow, standIns := [], harness := (true, "a73a846b3c30bb33a1e1fc35859710199638a9d55f693fd7d603e456ce0f3f0c"), looks := false }, kinds := [], alts := [], laidByText := true, laidKinds := [.data, .data], laidTests := true, laidLooks := .later }
def ShaPiecesCardSaid : Prop := Claim7.holds Tryd.pinned (.plain (OpenSpec.ofChange shaPiecesSpec)) shaPiecesCard

/-- THE TIED CARD OF 'synodlaw02.HkdfTags'. -/
def hkdfTagsCard : Claim7 := { stood := { row := hkdfTagsRow, standIns := [], harness := (true, "a73a846b3c30bb33a1e1fc35859710199638a9d55f693fd7d603e456ce0f3f0c"), looks := false }, kinds := [], alts := [], laidByText := true, laidKinds := [.data, .data], laidTests := true, laidLooks := .later }
def HkdfTagsCardSaid : Prop := Claim7.holds Tryd.pinned (.plain (OpenSpec.ofChange hkdfTagsSpec)) hkdfTagsCard

/-- THE TIED CARD OF 'synodlaw02.HkdfExpands'. -/
def hkdfExpandsCard : Claim7 := { stood := { row := hkdfExpandsRow, standIns := [], harness := (true, "a73a846b3c30bb33a1e1fc35859710199638a9d55f693fd7d603e456ce0f3f0c"), looks := false }, kinds := [], alts := [], laidByText := true, laidKinds := [.data, .data], laidTests := true, laidLooks := .later }
def HkdfExpandsCardSaid : Prop := Claim7.holds Tryd.pinned (.plain (OpenSpec.ofChange hkdfExpandsSpec)) hkdfExpandsCard

/-- THE TIED CARD OF 'synodlaw02.HkdfEquals'. -/
def hkdfEqualsCard : Claim7 := { stood := { row := hkdfEqualsRow, standIns := [], harness := (true, "a73a846b3c30bb33a1e1fc35859710199638a9d55f693fd7d603e456ce0f3f0c"), looks := false }, kinds := [], alts := [], laidByText := true, laidKinds := [.data, .data], laidTests := true, laidLooks := .later }
def HkdfEqualsCardSaid : Prop := Claim7.holds Tryd.pinned (.plain (OpenSpec.ofChange hkdfEqualsSpec)) hkdfEqualsCard

/-- THE TIED CARD OF 'synodlaw02.HkdfBegins'. -/
def hkdfBeginsCard : Claim7 := { stood := { row := hkdfBeginsRow, standIns := [], harness := (true, "a73a846b3c30bb33a1e1fc35859710199638a9d55f693fd7d603e456ce0f3f0c"), looks := false }, kinds := [], alts := [], laidByText := true, laidKinds := [.data, .data], laidTests := true, laidLooks := .later }
def HkdfBeginsCardSaid : Prop := Claim7.holds Tryd.pinned (.plain (OpenSpec.ofChange hkdfBeginsSpec)) hkdfBeginsCard

/-- THE TIED CARD OF 'synodlaw02.HkdfExtracts'. -/
def hkdfExtractsCard : Claim7 := { stood := { row := hkdfExtractsRow, standIns := [], harness := (true, "a73a846b3c30bb33a1e1fc35859710199638a9d55f693fd7d603e456ce0f3f0c"), looks := false }, kinds := [], alts := [], laidByText := true, laidKinds := [.data, .data], laidTests := true, laidLooks := .later }
def HkdfExtractsCardSaid : Prop := Claim7.holds Tryd.pinned (.plain (OpenSpec.ofChange hkdfExtractsSpec)) hkdfExtractsCard

/-- THE SECOND FORM's CARD OF 'synodlaw01.ShaSmall'. -/
def shaSmallUptoCard : Claim7 := { stood := { row := shaSmallUptoRow, standIns := [], harness := (true, "a73a846b3c30bb33a1e1fc35859710199638a9d55f693fd7d603e456ce0f3f0c"), looks := false }, kinds := [], alts := [], laidByText := true, laidKinds := [.data, .data], laidTests := true, laidLooks := .later }
def ShaSmallUptoCardSaid : Prop := Claim7.holds Tryd.pinned (.plain (OpenSpec.upto shaSmallSpec)) shaSmallUptoCard

/-- THE SECOND FORM's CARD OF 'synodlaw01.ShaLarge'. -/
def shaLargeUptoCard : Claim7 := { stood := { row := shaLargeUptoRow, standIns := [], harness := (true, "a73a846b3c30bb33a1e1fc35859710199638a9d55f693fd7d603e456ce0f3f0c"), looks := false }, kinds := [], alts := [], laidByText := true, laidKinds := [.data, .data], laidTests := true, laidLooks := .later }
def ShaLargeUptoCardSaid : Prop := Claim7.holds Tryd.pinned (.plain (OpenSpec.upto shaLargeSpec)) shaLargeUptoCard

/-- THE SECOND FORM's CARD OF 'synodlaw01.ShaNil'. -/
def shaNilUptoCard : Claim7 := { stood := { row := shaNilUptoRow, standIns := [], harness := (true, "a73a846b3c30bb33a1e1fc35859710199638a9d55f693fd7d603e456ce0f3f0c"), looks := false }, kinds := [], alts := [], laidByText := true, laidKinds := [.data, .data], laidTests := true, laidLooks := .later }
def ShaNilUptoCardSaid : Prop := Claim7.holds Tryd.pinned (.plain (OpenSpec.upto shaNilSpec)) shaNilUptoCard

/-- THE SECOND FORM's CARD OF 'synodlaw01.ShaPieces'. -/
def shaPiecesUptoCard : Claim7 := { stood := { row := shaPiecesUptoRow, standIns := [], harness := (true, "a73a846b3c30bb33a1e1fc35859710199638a9d55f693fd7d603e456ce0f3f0c"), looks := false }, kinds := [], alts := [], laidByText := true, laidKinds := [.data, .data], laidTests := true, laidLooks := .later }
def ShaPiecesUptoCardSaid : Prop := Claim7.holds Tryd.pinned (.plain (OpenSpec.upto shaPiecesSpec)) shaPiecesUptoCard

/-- THE SECOND FORM's CARD OF 'synodlaw02.HkdfTags'. -/
def hkdfTagsUptoCard : Claim7 := { stood := { row := hkdfTagsUptoRow, standIns := [], harness := (true, "a73a846b3c30bb33a1e1fc35859710199638a9d55f693fd7d603e456ce0f3f0c"), looks := false }, kinds := [], alts := [], laidByText := true, laidKinds := [.data, .data], laidTests := true, laidLooks := .later }
def HkdfTagsUptoCardSaid : Prop := Claim7.holds Tryd.pinned (.plain (OpenSpec.upto hkdfTagsSpec)) hkdfTagsUptoCard

/-- THE SECOND FORM's CARD OF 'synodlaw02.HkdfExpands'. -/
def hkdfExpandsUptoCard : Claim7 := { stood := { row := hkdfExpandsUptoRow, standIns := [], harness := (true, "a73a846b3c30bb33a1e1fc35859710199638a9d55f693fd7d603e456ce0f3f0c"), looks := false }, kinds := [], alts := [], laidByText := true, laidKinds := [.data, .data], laidTests := true, laidLooks := .later }
def HkdfExpandsUptoCardSaid : Prop := Claim7.holds Tryd.pinned (.plain (OpenSpec.upto hkdfExpandsSpec)) hkdfExpandsUptoCard

/-- THE SECOND FORM's CARD OF 'synodlaw02.HkdfEquals'. -/
def hkdfEqualsUptoCard : Claim7 := { stood := { row := hkdfEqualsUptoRow, standIns := [], harness := (true, "a73a846b3c30bb33a1e1fc35859710199638a9d55f693fd7d603e456ce0f3f0c"), looks := false }, kinds := [], alts := [], laidByText := true, laidKinds := [.data, .data], laidTests := true, laidLooks := .later }
def HkdfEqualsUptoCardSaid : Prop := Claim7.holds Tryd.pinned (.plain (OpenSpec.upto hkdfEqualsSpec)) hkdfEqualsUptoCard

/-- THE SECOND FORM's CARD OF 'synodlaw02.HkdfBegins'. -/
def hkdfBeginsUptoCard : Claim7 := { stood := { row := hkdfBeginsUptoRow, standIns := [], harness := (true, "a73a846b3c30bb33a1e1fc35859710199638a9d55f693fd7d603e456ce0f3f0c"), looks := false }, kinds := [], alts := [], laidByText := true, laidKinds := [.data, .data], laidTests := true, laidLooks := .later }
def HkdfBeginsUptoCardSaid : Prop := Claim7.holds Tryd.pinned (.plain (OpenSpec.upto hkdfBeginsSpec)) hkdfBeginsUptoCard

/-- THE SECOND FORM's CARD OF 'synodlaw02.HkdfExtracts'. -/
def hkdfExtractsUptoCard : Claim7 := { stood := { row := hkdfExtractsUptoRow, standIns := [], harness := (true, "a73a846b3c30bb33a1e1fc35859710199638a9d55f693fd7d603e456ce0f3f0c"), looks := false }, kinds := [], alts := [], laidByText := true, laidKinds := [.data, .data], laidTests := true, laidLooks := .later }
def HkdfExtractsUptoCardSaid : Prop := Claim7.holds Tryd.pinned (.plain (OpenSpec.upto hkdfExtractsSpec)) hkdfExtractsUptoCard
end Rows
end Go.Proofs.YtkbfjfookfmobaaDoor
