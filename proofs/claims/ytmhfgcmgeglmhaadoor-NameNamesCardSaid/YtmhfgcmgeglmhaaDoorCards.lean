/-
  DERIVED. GIVEN WITH THE SEED: THE CARDS: each row of YtmhfgcmgeglmhaaDoorRows.lean that lists a variable, with what it lists TIED to the program's text (the seventh form; the later family's looks); each row that meets fmt, with fmt's text TOLD by the authors' own Lean function (tested against real Go, not proved from fmt's source: count such statements apart). THE CARD IS WHAT COUNTS. Prove the row's statement (the work); the ties are given (YtmhfgcmgeglmhaaDoorTie.lean); close each card by the builder's one call (the guide's Derived/Test/ToyasCard.lean, 'card_holds'). Laid BY PROGRAM, IN A SANDBOX (cutbox-door.mjs). By AI agents, Wed Nov 11 2026. No macro, syntax, notation, axiom, sorry.
-/
import Derived.Test.YtmhfgcmgeglmhaaDoorRows
import GoSem.ClaimSeven
namespace Go.Proofs.YtmhfgcmgeglmhaaDoor
namespace Rows

/-- THE TIED CARD OF 'twoslotlaw21.NameNames'. -/
def nameNamesCard : Claim7 := { stood := { row := nameNamesRow, standIns := [], harness := (true, "11c229253cfec61f8c7aa4f8383beb776f21b1b490c0eda95c4160984b6411eb"), looks := true }, kinds := [], alts := [], laidByText := true, laidKinds := [.data, .data, .data, .sentinel, .sentinel], laidTests := true, laidLooks := .later }
def NameNamesCardSaid : Prop := Claim7.holds Tryd.pinned (.plain (OpenSpec.ofChange nameNamesSpec)) nameNamesCard

/-- THE TIED CARD OF 'twoslotlaw21.NameTexts'. -/
def nameTextsCard : Claim7 := { stood := { row := nameTextsRow, standIns := [], harness := (true, "11c229253cfec61f8c7aa4f8383beb776f21b1b490c0eda95c4160984b6411eb"), looks := true }, kinds := [], alts := [], laidByText := true, laidKinds := [.data, .data, .data, .sentinel, .sentinel], laidTests := true, laidLooks := .later }
def NameTextsCardSaid : Prop := Claim7.holds Tryd.pinned (.plain (OpenSpec.ofChange nameTextsSpec)) nameTextsCard

/-- THE TIED CARD OF 'twoslotlaw21.NameSorts'. -/
def nameSortsCard : Claim7 := { stood := { row := nameSortsRow, standIns := [], harness := (true, "11c229253cfec61f8c7aa4f8383beb776f21b1b490c0eda95c4160984b6411eb"), looks := true }, kinds := [], alts := [], laidByText := true, laidKinds := [.data, .data, .data, .sentinel, .sentinel], laidTests := true, laidLooks := .later }
def NameSortsCardSaid : Prop := Claim7.holds Tryd.pinned (.plain (OpenSpec.ofChange nameSortsSpec)) nameSortsCard

/-- THE TIED CARD OF 'twoslotlaw21.NameBack'. -/
def nameBackCard : Claim7 := { stood := { row := nameBackRow, standIns := [], harness := (true, "11c229253cfec61f8c7aa4f8383beb776f21b1b490c0eda95c4160984b6411eb"), looks := true }, kinds := [], alts := [], laidByText := true, laidKinds := [.data, .data, .data, .sentinel, .sentinel], laidTests := true, laidLooks := .later }
def NameBackCardSaid : Prop := Claim7.holds Tryd.pinned (.plain (OpenSpec.ofChange nameBackSpec)) nameBackCard

/-- THE TIED CARD OF 'twoslotlaw21.NameOrder'. -/
def nameOrderCard : Claim7 := { stood := { row := nameOrderRow, standIns := [], harness := (true, "11c229253cfec61f8c7aa4f8383beb776f21b1b490c0eda95c4160984b6411eb"), looks := true }, kinds := [], alts := [], laidByText := true, laidKinds := [.data, .data, .data, .sentinel, .sentinel], laidTests := true, laidLooks := .later }
def NameOrderCardSaid : Prop := Claim7.holds Tryd.pinned (.plain (OpenSpec.ofChange nameOrderSpec)) nameOrderCard

/-- THE TIED CARD OF 'twoslotlaw21.NameRow'. -/
def nameRowCard : Claim7 := { stood := { row := nameRowRow, standIns := [], harness := (true, "11c229253cfec61f8c7aa4f8383beb776f21b1b490c0eda95c4160984b6411eb"), looks := true }, kinds := [], alts := [], laidByText := true, laidKinds := [.data, .data, .data, .sentinel, .sentinel], laidTests := true, laidLooks := .later }
def NameRowCardSaid : Prop := Claim7.holds Tryd.pinned (.plain (OpenSpec.ofChange nameRowSpec)) nameRowCard

/-- THE SECOND FORM's CARD OF 'twoslotlaw21.NameNames'. -/
def nameNamesUptoCard : Claim7 := { stood := { row := nameNamesUptoRow, standIns := [], harness := (true, "11c229253cfec61f8c7aa4f8383beb776f21b1b490c0eda95c4160984b6411eb"), looks := true }, kinds := [], alts := [], laidByText := true, laidKinds := [.data, .data, .data, .sentinel, .sentinel], laidTests := true, laidLooks := .later }
def NameNamesUptoCardSaid : Prop := Claim7.holds Tryd.pinned (.plain (OpenSpec.upto nameNamesSpec)) nameNamesUptoCard

/-- THE SECOND FORM's CARD OF 'twoslotlaw21.NameTexts'. -/
def nameTextsUptoCard : Claim7 := { stood := { row := nameTextsUptoRow, standIns := [], harness := (true, "11c229253cfec61f8c7aa4f8383beb776f21b1b490c0eda95c4160984b6411eb"), looks := true }, kinds := [], alts := [], laidByText := true, laidKinds := [.data, .data, .data, .sentinel, .sentinel], laidTests := true, laidLooks := .later }
def NameTextsUptoCardSaid : Prop := Claim7.holds Tryd.pinned (.plain (OpenSpec.upto nameTextsSpec)) nameTextsUptoCard

/-- THE SECOND FORM's CARD OF 'twoslotlaw21.NameSorts'. -/
def nameSortsUptoCard : Claim7 := { stood := { row := nameSortsUptoRow, standIns := [], harness := (true, "11c229253cfec61f8c7aa4f8383beb776f21b1b490c0eda95c4160984b6411eb"), looks := true }, kinds := [], alts := [], laidByText := true, laidKinds := [.data, .data, .data, .sentinel, .sentinel], laidTests := true, laidLooks := .later }
def NameSortsUptoCardSaid : Prop := Claim7.holds Tryd.pinned (.plain (OpenSpec.upto nameSortsSpec)) nameSortsUptoCard

/-- THE SECOND FORM's CARD OF 'twoslotlaw21.NameBack'. -/
def nameBackUptoCard : Claim7 := { stood := { row := nameBackUptoRow, standIns := [], harness := (true, "11c229253cfec61f8c7aa4f8383beb776f21b1b490c0eda95c4160984b6411eb"), looks := true }, kinds := [], alts := [], laidByText := true, laidKinds := [.data, .data, .data, .sentinel, .sentinel], laidTests := true, laidLooks := .later }
def NameBackUptoCardSaid : Prop := Claim7.holds Tryd.pinned (.plain (OpenSpec.upto nameBackSpec)) nameBackUptoCard

/-- THE SECOND FORM's CARD OF 'twoslotlaw21.NameOrder'. -/
def nameOrderUptoCard : Claim7 := { stood := { row := nameOrderUptoRow, standIns := [], harness := (true, "11c229253cfec61f8c7aa4f8383beb776f21b1b490c0eda95c4160984b6411eb"), looks := true }, kinds := [], alts := [], laidByText := true, laidKinds := [.data, .data, .data, .sentinel, .sentinel], laidTests := true, laidLooks := .later }
def NameOrderUptoCardSaid : Prop := Claim7.holds Tryd.pinned (.plain (OpenSpec.upto nameOrderSpec)) nameOrderUptoCard

/-- THE SECOND FORM's CARD OF 'twoslotlaw21.NameRow'. -/
def nameRowUptoCard : Claim7 := { stood := { row := nameRowUptoRow, standIns := [], harness := (true, "11c229253cfec61f8c7aa4f8383beb776f21b1b490c0eda95c4160984b6411eb"), looks := true }, kinds := [], alts := [], laidByText := true, laidKinds := [.data, .data, .data, .sentinel, .sentinel], laidTests := true, laidLooks := .later }
def NameRowUptoCardSaid : Prop := Claim7.holds Tryd.pinned (.plain (OpenSpec.upto nameRowSpec)) nameRowUptoCard
end Rows
end Go.Proofs.YtmhfgcmgeglmhaaDoor
