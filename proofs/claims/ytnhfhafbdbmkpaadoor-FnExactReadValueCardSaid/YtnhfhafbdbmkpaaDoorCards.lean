/-
  DERIVED. GIVEN WITH THE SEED: THE CARDS: each row of YtnhfhafbdbmkpaaDoorRows.lean that lists a variable, with what it lists TIED to the program's text (the seventh form; the later family's looks); each row that meets fmt, with fmt's text TOLD by the authors' own Lean function (tested against real Go, not proved from fmt's source: count such statements apart). THE CARD IS WHAT COUNTS. Prove the row's statement (the work); the ties are given (YtnhfhafbdbmkpaaDoorTie.lean); close each card by the builder's one call (the guide's Derived/Test/ToyasCard.lean, 'card_holds'). Laid BY PROGRAM, IN A SANDBOX (cutbox-door.mjs). By AI agents, Wed Nov 11 2026. No macro, syntax, notation, axiom, sorry.
-/
import Derived.Test.YtnhfhafbdbmkpaaDoorRows
import GoSem.ClaimSeven
namespace Go.Proofs.YtnhfhafbdbmkpaaDoor
namespace Rows

/-- THE TIED CARD OF 'laws.FnExactKeyBytes'. -/
def fnExactKeyBytesCard : Claim7 := { stood := { row := fnExactKeyBytesRow, standIns := [], harness := (true, "80522696081a8cd88d529412b3740e367930f588a80ff404cedc5913524fedf3"), looks := true }, kinds := [], alts := [], laidByText := true, laidKinds := [.data, .pinned], laidTests := true, laidLooks := .later }
def FnExactKeyBytesCardSaid : Prop := Claim7.holds Tryd.pinned (.plain (OpenSpec.ofChange fnExactKeyBytesSpec)) fnExactKeyBytesCard

/-- THE TIED CARD OF 'laws.FnExactValueText'. -/
def fnExactValueTextCard : Claim7 := { stood := { row := fnExactValueTextRow, standIns := [], harness := (true, "80522696081a8cd88d529412b3740e367930f588a80ff404cedc5913524fedf3"), looks := true }, kinds := [], alts := [], laidByText := true, laidKinds := [.data, .data, .data, .data, .pinned], laidTests := true, laidLooks := .later }
def FnExactValueTextCardSaid : Prop := Claim7.holds Tryd.pinned (.plain (OpenSpec.ofChange fnExactValueTextSpec)) fnExactValueTextCard

/-- THE TIED CARD OF 'laws.FnExactRowText'. -/
def fnExactRowTextCard : Claim7 := { stood := { row := fnExactRowTextRow, standIns := [], harness := (true, "80522696081a8cd88d529412b3740e367930f588a80ff404cedc5913524fedf3"), looks := true }, kinds := [], alts := [], laidByText := true, laidKinds := [.data, .data, .data, .data, .pinned], laidTests := true, laidLooks := .later }
def FnExactRowTextCardSaid : Prop := Claim7.holds Tryd.pinned (.plain (OpenSpec.ofChange fnExactRowTextSpec)) fnExactRowTextCard

/-- THE TIED CARD OF 'laws.FnExactReadValue'. -/
def fnExactReadValueCard : Claim7 := { stood := { row := fnExactReadValueRow, standIns := [], harness := (true, "80522696081a8cd88d529412b3740e367930f588a80ff404cedc5913524fedf3"), looks := true }, kinds := [], alts := [], laidByText := true, laidKinds := [.data, .data, .data, .data, .sentinel, .sentinel, .pinned], laidTests := true, laidLooks := .later }
def FnExactReadValueCardSaid : Prop := Claim7.holds Tryd.pinned (.plain (OpenSpec.ofChange fnExactReadValueSpec)) fnExactReadValueCard

/-- THE TIED CARD OF 'laws.FnExactCodeWord'. -/
def fnExactCodeWordCard : Claim7 := { stood := { row := fnExactCodeWordRow, standIns := [], harness := (true, "80522696081a8cd88d529412b3740e367930f588a80ff404cedc5913524fedf3"), looks := true }, kinds := [], alts := [], laidByText := true, laidKinds := [.data, .pinned], laidTests := true, laidLooks := .later }
def FnExactCodeWordCardSaid : Prop := Claim7.holds Tryd.pinned (.plain (OpenSpec.ofChange fnExactCodeWordSpec)) fnExactCodeWordCard

/-- THE TIED CARD OF 'laws.FnExactCodeOf'. -/
def fnExactCodeOfCard : Claim7 := { stood := { row := fnExactCodeOfRow, standIns := [], harness := (true, "80522696081a8cd88d529412b3740e367930f588a80ff404cedc5913524fedf3"), looks := true }, kinds := [], alts := [], laidByText := true, laidKinds := [.data, .pinned], laidTests := true, laidLooks := .later }
def FnExactCodeOfCardSaid : Prop := Claim7.holds Tryd.pinned (.plain (OpenSpec.ofChange fnExactCodeOfSpec)) fnExactCodeOfCard

/-- THE SECOND FORM's CARD OF 'laws.FnExactKeyBytes'. -/
def fnExactKeyBytesUptoCard : Claim7 := { stood := { row := fnExactKeyBytesUptoRow, standIns := [], harness := (true, "80522696081a8cd88d529412b3740e367930f588a80ff404cedc5913524fedf3"), looks := true }, kinds := [], alts := [], laidByText := true, laidKinds := [.data, .pinned], laidTests := true, laidLooks := .later }
def FnExactKeyBytesUptoCardSaid : Prop := Claim7.holds Tryd.pinned (.plain (OpenSpec.upto fnExactKeyBytesSpec)) fnExactKeyBytesUptoCard

/-- THE SECOND FORM's CARD OF 'laws.FnExactValueText'. -/
def fnExactValueTextUptoCard : Claim7 := { stood := { row := fnExactValueTextUptoRow, standIns := [], harness := (true, "80522696081a8cd88d529412b3740e367930f588a80ff404cedc5913524fedf3"), looks := true }, kinds := [], alts := [], laidByText := true, laidKinds := [.data, .data, .data, .data, .pinned], laidTests := true, laidLooks := .later }
def FnExactValueTextUptoCardSaid : Prop := Claim7.holds Tryd.pinned (.plain (OpenSpec.upto fnExactValueTextSpec)) fnExactValueTextUptoCard

/-- THE SECOND FORM's CARD OF 'laws.FnExactRowText'. -/
def fnExactRowTextUptoCard : Claim7 := { stood := { row := fnExactRowTextUptoRow, standIns := [], harness := (true, "80522696081a8cd88d529412b3740e367930f588a80ff404cedc5913524fedf3"), looks := true }, kinds := [], alts := [], laidByText := true, laidKinds := [.data, .data, .data, .data, .pinned], laidTests := true, laidLooks := .later }
def FnExactRowTextUptoCardSaid : Prop := Claim7.holds Tryd.pinned (.plain (OpenSpec.upto fnExactRowTextSpec)) fnExactRowTextUptoCard

/-- THE SECOND FORM's CARD OF 'laws.FnExactReadValue'. -/
def fnExactReadValueUptoCard : Claim7 := { stood := { row := fnExactReadValueUptoRow, standIns := [], harness := (true, "80522696081a8cd88d529412b3740e367930f588a80ff404cedc5913524fedf3"), looks := true }, kinds := [], alts := [], laidByText := true, laidKinds := [.data, .data, .data, .data, .sentinel, .sentinel, .pinned], laidTests := true, laidLooks := .later }
def FnExactReadValueUptoCardSaid : Prop := Claim7.holds Tryd.pinned (.plain (OpenSpec.upto fnExactReadValueSpec)) fnExactReadValueUptoCard

/-- THE SECOND FORM's CARD OF 'laws.FnExactCodeWord'. -/
def fnExactCodeWordUptoCard : Claim7 := { stood := { row := fnExactCodeWordUptoRow, standIns := [], harness := (true, "80522696081a8cd88d529412b3740e367930f588a80ff404cedc5913524fedf3"), looks := true }, kinds := [], alts := [], laidByText := true, laidKinds := [.data, .pinned], laidTests := true, laidLooks := .later }
def FnExactCodeWordUptoCardSaid : Prop := Claim7.holds Tryd.pinned (.plain (OpenSpec.upto fnExactCodeWordSpec)) fnExactCodeWordUptoCard

/-- THE SECOND FORM's CARD OF 'laws.FnExactCodeOf'. -/
def fnExactCodeOfUptoCard : Claim7 := { stood := { row := fnExactCodeOfUptoRow, standIns := [], harness := (true, "80522696081a8cd88d529412b3740e367930f588a80ff404cedc5913524fedf3"), looks := true }, kinds := [], alts := [], laidByText := true, laidKinds := [.data, .pinned], laidTests := true, laidLooks := .later }
def FnExactCodeOfUptoCardSaid : Prop := Claim7.holds Tryd.pinned (.plain (OpenSpec.upto fnExactCodeOfSpec)) fnExactCodeOfUptoCard
end Rows
end Go.Proofs.YtnhfhafbdbmkpaaDoor
