/-
  DERIVED. GIVEN WITH THE SEED: THE CARDS: each row of YtdfnjihnjemghaaDoorRows.lean that lists a variable, with what it lists TIED to the program's text (the seventh form; the later family's looks); each row that meets fmt, with fmt's text TOLD by the authors' own Lean function (tested against real Go, not proved from fmt's source: count such statements apart). THE CARD IS WHAT COUNTS. Prove the row's statement (the work); the ties are given (YtdfnjihnjemghaaDoorTie.lean); close each card by the builder's one call (the guide's Derived/Test/ToyasCard.lean, 'card_holds'). Laid BY PROGRAM, IN A SANDBOX (cutbox-door.mjs). By AI agents, Wed Nov 11 2026. No macro, syntax, notation, axiom, sorry.
-/
import Derived.Test.YtdfnjihnjemghaaDoorRows
import GoSem.ClaimSeven
namespace Go.Proofs.YtdfnjihnjemghaaDoor
namespace Rows

/-- THE TIED CARD OF 'laws.FnExactNameOK'. -/
def fnExactNameOKCard : Claim7 := { stood := { row := fnExactNameOKRow, standIns := [], harness := (true, "0d048a782f6ed9a3bf7687ca07538b5e26f6bf721a60354e6af7e038695a7846"), looks := false }, kinds := [], alts := [], laidByText := true, laidKinds := [.data, .pinned], laidTests := true, laidLooks := .later }
def FnExactNameOKCardSaid : Prop := Claim7.holds Tryd.pinned (.plain (OpenSpec.ofChange fnExactNameOKSpec)) fnExactNameOKCard

/-- THE TIED CARD OF 'laws.FnExactLineWords'. -/
def fnExactLineWordsCard : Claim7 := { stood := { row := fnExactLineWordsRow, standIns := [], harness := (true, "0d048a782f6ed9a3bf7687ca07538b5e26f6bf721a60354e6af7e038695a7846"), looks := false }, kinds := [], alts := [], laidByText := true, laidKinds := [.data, .pinned], laidTests := true, laidLooks := .later }
def FnExactLineWordsCardSaid : Prop := Claim7.holds Tryd.pinned (.plain (OpenSpec.ofChange fnExactLineWordsSpec)) fnExactLineWordsCard

/-- THE TIED CARD OF 'laws.FnWords'. -/
def fnWordsCard : Claim7 := { stood := { row := fnWordsRow, standIns := [], harness := (true, "0d048a782f6ed9a3bf7687ca07538b5e26f6bf721a60354e6af7e038695a7846"), looks := false }, kinds := [], alts := [], laidByText := true, laidKinds := [.data, .pinned], laidTests := true, laidLooks := .later }
def FnWordsCardSaid : Prop := Claim7.holds Tryd.pinned (.plain (OpenSpec.ofChange fnWordsSpec)) fnWordsCard

/-- THE TIED CARD OF 'laws.FnExactCellText'. -/
def fnExactCellTextCard : Claim7 := { stood := { row := fnExactCellTextRow, standIns := [], harness := (true, "0d048a782f6ed9a3bf7687ca07538b5e26f6bf721a60354e6af7e038695a7846"), looks := false }, kinds := [], alts := [], laidByText := true, laidKinds := [.data, .data, .data, .data, .pinned, .pinned], laidTests := true, laidLooks := .later }
def FnExactCellTextCardSaid : Prop := Claim7.holds Tryd.pinned (.plain (OpenSpec.ofChange fnExactCellTextSpec)) fnExactCellTextCard

/-- THE TIED CARD OF 'laws.FnCellTexts'. -/
def fnCellTextsCard : Claim7 := { stood := { row := fnCellTextsRow, standIns := [], harness := (true, "0d048a782f6ed9a3bf7687ca07538b5e26f6bf721a60354e6af7e038695a7846"), looks := false }, kinds := [], alts := [], laidByText := true, laidKinds := [.data, .data, .data, .data, .pinned, .pinned], laidTests := true, laidLooks := .later }
def FnCellTextsCardSaid : Prop := Claim7.holds Tryd.pinned (.plain (OpenSpec.ofChange fnCellTextsSpec)) fnCellTextsCard

/-- THE SECOND FORM's CARD OF 'laws.FnExactNameOK'. -/
def fnExactNameOKUptoCard : Claim7 := { stood := { row := fnExactNameOKUptoRow, standIns := [], harness := (true, "0d048a782f6ed9a3bf7687ca07538b5e26f6bf721a60354e6af7e038695a7846"), looks := false }, kinds := [], alts := [], laidByText := true, laidKinds := [.data, .pinned], laidTests := true, laidLooks := .later }
def FnExactNameOKUptoCardSaid : Prop := Claim7.holds Tryd.pinned (.plain (OpenSpec.upto fnExactNameOKSpec)) fnExactNameOKUptoCard

/-- THE SECOND FORM's CARD OF 'laws.FnExactLineWords'. -/
def fnExactLineWordsUptoCard : Claim7 := { stood := { row := fnExactLineWordsUptoRow, standIns := [], harness := (true, "0d048a782f6ed9a3bf7687ca07538b5e26f6bf721a60354e6af7e038695a7846"), looks := false }, kinds := [], alts := [], laidByText := true, laidKinds := [.data, .pinned], laidTests := true, laidLooks := .later }
def FnExactLineWordsUptoCardSaid : Prop := Claim7.holds Tryd.pinned (.plain (OpenSpec.upto fnExactLineWordsSpec)) fnExactLineWordsUptoCard

/-- THE SECOND FORM's CARD OF 'laws.FnWords'. -/
def fnWordsUptoCard : Claim7 := { stood := { row := fnWordsUptoRow, standIns := [], harness := (true, "0d048a782f6ed9a3bf7687ca07538b5e26f6bf721a60354e6af7e038695a7846"), looks := false }, kinds := [], alts := [], laidByText := true, laidKinds := [.data, .pinned], laidTests := true, laidLooks := .later }
def FnWordsUptoCardSaid : Prop := Claim7.holds Tryd.pinned (.plain (OpenSpec.upto fnWordsSpec)) fnWordsUptoCard

/-- THE SECOND FORM's CARD OF 'laws.FnExactCellText'. -/
def fnExactCellTextUptoCard : Claim7 := { stood := { row := fnExactCellTextUptoRow, standIns := [], harness := (true, "0d048a782f6ed9a3bf7687ca07538b5e26f6bf721a60354e6af7e038695a7846"), looks := false }, kinds := [], alts := [], laidByText := true, laidKinds := [.data, .data, .data, .data, .pinned, .pinned], laidTests := true, laidLooks := .later }
def FnExactCellTextUptoCardSaid : Prop := Claim7.holds Tryd.pinned (.plain (OpenSpec.upto fnExactCellTextSpec)) fnExactCellTextUptoCard

/-- THE SECOND FORM's CARD OF 'laws.FnCellTexts'. -/
def fnCellTextsUptoCard : Claim7 := { stood := { row := fnCellTextsUptoRow, standIns := [], harness := (true, "0d048a782f6ed9a3bf7687ca07538b5e26f6bf721a60354e6af7e038695a7846"), looks := false }, kinds := [], alts := [], laidByText := true, laidKinds := [.data, .data, .data, .data, .pinned, .pinned], laidTests := true, laidLooks := .later }
def FnCellTextsUptoCardSaid : Prop := Claim7.holds Tryd.pinned (.plain (OpenSpec.upto fnCellTextsSpec)) fnCellTextsUptoCard
end Rows
end Go.Proofs.YtdfnjihnjemghaaDoor
