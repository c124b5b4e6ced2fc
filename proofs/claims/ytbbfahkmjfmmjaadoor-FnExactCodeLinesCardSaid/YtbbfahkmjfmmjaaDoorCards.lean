/-
  DERIVED. GIVEN WITH THE SEED: THE CARDS: each row of YtbbfahkmjfmmjaaDoorRows.lean that lists a variable, with what it lists TIED to the program's text (the seventh form; the later family's looks); each row that meets fmt, with fmt's text TOLD by the authors' own Lean function (tested against real Go, not proved from fmt's source: count such statements apart). THE CARD IS WHAT COUNTS. Prove the row's statement (the work); the ties are given (YtbbfahkmjfmmjaaDoorTie.lean); close each card by the builder's one call (the guide's Derived/Test/ToyasCard.lean, 'card_holds'). Laid BY PROGRAM, IN A SANDBOX (cutbox-door.mjs). By AI agents, Wed Nov 11 2026. No macro, syntax, notation, axiom, sorry.
-/
import Derived.Test.YtbbfahkmjfmmjaaDoorRows
import GoSem.ClaimSeven
namespace Go.Proofs.YtbbfahkmjfmmjaaDoor
namespace Rows

/-- THE TIED CARD OF 'laws.FnExactKernelWords'. -/
def fnExactKernelWordsCard : Claim7 := { stood := { row := fnExactKernelWordsRow, standIns := [], harness := (true, "5ea1e8931beb11df03554267186b1019b2cfbcf10b856f12fd8852558dde8a93"), looks := false }, kinds := [], alts := [], laidByText := true, laidKinds := [.data, .listed, .data, .pinned], laidTests := true, laidLooks := .later }
def FnExactKernelWordsCardSaid : Prop := Claim7.holds Tryd.pinned (.plain (OpenSpec.ofChange fnExactKernelWordsSpec)) fnExactKernelWordsCard

/-- THE TIED CARD OF 'laws.FnExactKernelSame'. -/
def fnExactKernelSameCard : Claim7 := { stood := { row := fnExactKernelSameRow, standIns := [], harness := (true, "5ea1e8931beb11df03554267186b1019b2cfbcf10b856f12fd8852558dde8a93"), looks := false }, kinds := [], alts := [], laidByText := true, laidKinds := [.data, .listed, .data, .pinned], laidTests := true, laidLooks := .later }
def FnExactKernelSameCardSaid : Prop := Claim7.holds Tryd.pinned (.plain (OpenSpec.ofChange fnExactKernelSameSpec)) fnExactKernelSameCard

/-- THE TIED CARD OF 'laws.FnExactDictOK'. -/
def fnExactDictOKCard : Claim7 := { stood := { row := fnExactDictOKRow, standIns := [], harness := (true, "5ea1e8931beb11df03554267186b1019b2cfbcf10b856f12fd8852558dde8a93"), looks := false }, kinds := [], alts := [], laidByText := true, laidKinds := [.data, .listed, .data, .pinned], laidTests := true, laidLooks := .later }
def FnExactDictOKCardSaid : Prop := Claim7.holds Tryd.pinned (.plain (OpenSpec.ofChange fnExactDictOKSpec)) fnExactDictOKCard

/-- THE TIED CARD OF 'laws.FnExactTokenOK'. -/
def fnExactTokenOKCard : Claim7 := { stood := { row := fnExactTokenOKRow, standIns := [], harness := (true, "5ea1e8931beb11df03554267186b1019b2cfbcf10b856f12fd8852558dde8a93"), looks := false }, kinds := [], alts := [], laidByText := true, laidKinds := [.data, .listed, .data, .pinned], laidTests := true, laidLooks := .later }
def FnExactTokenOKCardSaid : Prop := Claim7.holds Tryd.pinned (.plain (OpenSpec.ofChange fnExactTokenOKSpec)) fnExactTokenOKCard

/-- THE TIED CARD OF 'laws.FnExactAddWord'. -/
def fnExactAddWordCard : Claim7 := { stood := { row := fnExactAddWordRow, standIns := [], harness := (true, "5ea1e8931beb11df03554267186b1019b2cfbcf10b856f12fd8852558dde8a93"), looks := false }, kinds := [], alts := [], laidByText := true, laidKinds := [.data, .listed, .data, .pinned], laidTests := true, laidLooks := .later }
def FnExactAddWordCardSaid : Prop := Claim7.holds Tryd.pinned (.plain (OpenSpec.ofChange fnExactAddWordSpec)) fnExactAddWordCard

/-- THE TIED CARD OF 'laws.FnExactFindWord'. -/
def fnExactFindWordCard : Claim7 := { stood := { row := fnExactFindWordRow, standIns := [], harness := (true, "5ea1e8931beb11df03554267186b1019b2cfbcf10b856f12fd8852558dde8a93"), looks := false }, kinds := [], alts := [], laidByText := true, laidKinds := [.data, .listed, .data, .pinned], laidTests := true, laidLooks := .later }
def FnExactFindWordCardSaid : Prop := Claim7.holds Tryd.pinned (.plain (OpenSpec.ofChange fnExactFindWordSpec)) fnExactFindWordCard

/-- THE TIED CARD OF 'laws.FnDict'. -/
def fnDictCard : Claim7 := { stood := { row := fnDictRow, standIns := [], harness := (true, "5ea1e8931beb11df03554267186b1019b2cfbcf10b856f12fd8852558dde8a93"), looks := false }, kinds := [], alts := [], laidByText := true, laidKinds := [.data, .listed, .data, .pinned], laidTests := true, laidLooks := .later }
def FnDictCardSaid : Prop := Claim7.holds Tryd.pinned (.plain (OpenSpec.ofChange fnDictSpec)) fnDictCard

/-- THE TIED CARD OF 'laws.FnExactNewMachine'. -/
def fnExactNewMachineCard : Claim7 := { stood := { row := fnExactNewMachineRow, standIns := [], harness := (true, "5ea1e8931beb11df03554267186b1019b2cfbcf10b856f12fd8852558dde8a93"), looks := false }, kinds := [], alts := [], laidByText := true, laidKinds := [.data, .listed, .data, .pinned], laidTests := true, laidLooks := .later }
def FnExactNewMachineCardSaid : Prop := Claim7.holds Tryd.pinned (.plain (OpenSpec.ofChange fnExactNewMachineSpec)) fnExactNewMachineCard

/-- THE TIED CARD OF 'laws.FnExactCodeLines'. -/
def fnExactCodeLinesCard : Claim7 := { stood := { row := fnExactCodeLinesRow, standIns := [], harness := (true, "5ea1e8931beb11df03554267186b1019b2cfbcf10b856f12fd8852558dde8a93"), looks := false }, kinds := [], alts := [], laidByText := true, laidKinds := [.data, .data, .data, .data, .listed, .data, .pinned], laidTests := true, laidLooks := .later }
def FnExactCodeLinesCardSaid : Prop := Claim7.holds Tryd.pinned (.plain (OpenSpec.ofChange fnExactCodeLinesSpec)) fnExactCodeLinesCard

/-- THE SECOND FORM's CARD OF 'laws.FnExactKernelWords'. -/
def fnExactKernelWordsUptoCard : Claim7 := { stood := { row := fnExactKernelWordsUptoRow, standIns := [], harness := (true, "5ea1e8931beb11df03554267186b1019b2cfbcf10b856f12fd8852558dde8a93"), looks := false }, kinds := [], alts := [], laidByText := true, laidKinds := [.data, .listed, .data, .pinned], laidTests := true, laidLooks := .later }
def FnExactKernelWordsUptoCardSaid : Prop := Claim7.holds Tryd.pinned (.plain (OpenSpec.upto fnExactKernelWordsSpec)) fnExactKernelWordsUptoCard

/-- THE SECOND FORM's CARD OF 'laws.FnExactKernelSame'. -/
def fnExactKernelSameUptoCard : Claim7 := { stood := { row := fnExactKernelSameUptoRow, standIns := [], harness := (true, "5ea1e8931beb11df03554267186b1019b2cfbcf10b856f12fd8852558dde8a93"), looks := false }, kinds := [], alts := [], laidByText := true, laidKinds := [.data, .listed, .data, .pinned], laidTests := true, laidLooks := .later }
def FnExactKernelSameUptoCardSaid : Prop := Claim7.holds Tryd.pinned (.plain (OpenSpec.upto fnExactKernelSameSpec)) fnExactKernelSameUptoCard

/-- THE SECOND FORM's CARD OF 'laws.FnExactDictOK'. -/
def fnExactDictOKUptoCard : Claim7 := { stood := { row := fnExactDictOKUptoRow, standIns := [], harness := (true, "5ea1e8931beb11df03554267186b1019b2cfbcf10b856f12fd8852558dde8a93"), looks := false }, kinds := [], alts := [], laidByText := true, laidKinds := [.data, .listed, .data, .pinned], laidTests := true, laidLooks := .later }
def FnExactDictOKUptoCardSaid : Prop := Claim7.holds Tryd.pinned (.plain (OpenSpec.upto fnExactDictOKSpec)) fnExactDictOKUptoCard

/-- THE SECOND FORM's CARD OF 'laws.FnExactTokenOK'. -/
def fnExactTokenOKUptoCard : Claim7 := { stood := { row := fnExactTokenOKUptoRow, standIns := [], harness := (true, "5ea1e8931beb11df03554267186b1019b2cfbcf10b856f12fd8852558dde8a93"), looks := false }, kinds := [], alts := [], laidByText := true, laidKinds := [.data, .listed, .data, .pinned], laidTests := true, laidLooks := .later }
def FnExactTokenOKUptoCardSaid : Prop := Claim7.holds Tryd.pinned (.plain (OpenSpec.upto fnExactTokenOKSpec)) fnExactTokenOKUptoCard

/-- THE SECOND FORM's CARD OF 'laws.FnExactAddWord'. -/
def fnExactAddWordUptoCard : Claim7 := { stood := { row := fnExactAddWordUptoRow, standIns := [], harness := (true, "5ea1e8931beb11df03554267186b1019b2cfbcf10b856f12fd8852558dde8a93"), looks := false }, kinds := [], alts := [], laidByText := true, laidKinds := [.data, .listed, .data, .pinned], laidTests := true, laidLooks := .later }
def FnExactAddWordUptoCardSaid : Prop := Claim7.holds Tryd.pinned (.plain (OpenSpec.upto fnExactAddWordSpec)) fnExactAddWordUptoCard

/-- THE SECOND FORM's CARD OF 'laws.FnExactFindWord'. -/
def fnExactFindWordUptoCard : Claim7 := { stood := { row := fnExactFindWordUptoRow, standIns := [], harness := (true, "5ea1e8931beb11df03554267186b1019b2cfbcf10b856f12fd8852558dde8a93"), looks := false }, kinds := [], alts := [], laidByText := true, laidKinds := [.data, .listed, .data, .pinned], laidTests := true, laidLooks := .later }
def FnExactFindWordUptoCardSaid : Prop := Claim7.holds Tryd.pinned (.plain (OpenSpec.upto fnExactFindWordSpec)) fnExactFindWordUptoCard

/-- THE SECOND FORM's CARD OF 'laws.FnDict'. -/
def fnDictUptoCard : Claim7 := { stood := { row := fnDictUptoRow, standIns := [], harness := (true, "5ea1e8931beb11df03554267186b1019b2cfbcf10b856f12fd8852558dde8a93"), looks := false }, kinds := [], alts := [], laidByText := true, laidKinds := [.data, .listed, .data, .pinned], laidTests := true, laidLooks := .later }
def FnDictUptoCardSaid : Prop := Claim7.holds Tryd.pinned (.plain (OpenSpec.upto fnDictSpec)) fnDictUptoCard

/-- THE SECOND FORM's CARD OF 'laws.FnExactNewMachine'. -/
def fnExactNewMachineUptoCard : Claim7 := { stood := { row := fnExactNewMachineUptoRow, standIns := [], harness := (true, "5ea1e8931beb11df03554267186b1019b2cfbcf10b856f12fd8852558dde8a93"), looks := false }, kinds := [], alts := [], laidByText := true, laidKinds := [.data, .listed, .data, .pinned], laidTests := true, laidLooks := .later }
def FnExactNewMachineUptoCardSaid : Prop := Claim7.holds Tryd.pinned (.plain (OpenSpec.upto fnExactNewMachineSpec)) fnExactNewMachineUptoCard

/-- THE SECOND FORM's CARD OF 'laws.FnExactCodeLines'. -/
def fnExactCodeLinesUptoCard : Claim7 := { stood := { row := fnExactCodeLinesUptoRow, standIns := [], harness := (true, "5ea1e8931beb11df03554267186b1019b2cfbcf10b856f12fd8852558dde8a93"), looks := false }, kinds := [], alts := [], laidByText := true, laidKinds := [.data, .data, .data, .data, .listed, .data, .pinned], laidTests := true, laidLooks := .later }
def FnExactCodeLinesUptoCardSaid : Prop := Claim7.holds Tryd.pinned (.plain (OpenSpec.upto fnExactCodeLinesSpec)) fnExactCodeLinesUptoCard
end Rows
end Go.Proofs.YtbbfahkmjfmmjaaDoor
