/-
  DERIVED. GIVEN WITH THE SEED: THE CARDS: each row of YtefcjnnngaaihaaDoorRows.lean that lists a variable, with what it lists TIED to the program's text (the seventh form; the later family's looks); each row that meets fmt, with fmt's text TOLD by the authors' own Lean function (tested against real Go, not proved from fmt's source: count such statements apart). THE CARD IS WHAT COUNTS. Prove the row's statement (the work); the ties are given (YtefcjnnngaaihaaDoorTie.lean); close each card by the builder's one call (the guide's Derived/Test/ToyasCard.lean, 'card_holds'). Laid BY PROGRAM, IN A SANDBOX (cutbox-door.mjs). By AI agents, Wed Nov 11 2026. No macro, syntax, notation, axiom, sorry.
-/
import Derived.Test.YtefcjnnngaaihaaDoorRows
import GoSem.ClaimSeven
namespace Go.Proofs.YtefcjnnngaaihaaDoor
namespace Rows

/-- THE TIED CARD OF 'ltklaw6.ProgOdd'. -/
def progOddCard : Claim7 := { stood := { row := progOddRow, standIns := [], harness := (true, "6d68df722b6e3abd1139e5b9d280b7b8fc1047fe9ce131a4fb6b4938d6a49c1d"), looks := true }, kinds := [], alts := [], laidByText := true, laidKinds := [.data, .data, .data, .data, .sentinel, .sentinel, .pinned], laidTests := true, laidLooks := .later }
def ProgOddCardSaid : Prop := Claim7.holds Tryd.pinned (.plain (OpenSpec.ofChange progOddSpec)) progOddCard

/-- THE TIED CARD OF 'ltklaw6.ProgAddr'. -/
def progAddrCard : Claim7 := { stood := { row := progAddrRow, standIns := [], harness := (true, "6d68df722b6e3abd1139e5b9d280b7b8fc1047fe9ce131a4fb6b4938d6a49c1d"), looks := true }, kinds := [], alts := [], laidByText := true, laidKinds := [.data, .data, .data, .data, .sentinel, .sentinel, .pinned], laidTests := true, laidLooks := .later }
def ProgAddrCardSaid : Prop := Claim7.holds Tryd.pinned (.plain (OpenSpec.ofChange progAddrSpec)) progAddrCard

/-- THE TIED CARD OF 'ltklaw6.ProgLines'. -/
def progLinesCard : Claim7 := { stood := { row := progLinesRow, standIns := [], harness := (true, "6d68df722b6e3abd1139e5b9d280b7b8fc1047fe9ce131a4fb6b4938d6a49c1d"), looks := true }, kinds := [], alts := [], laidByText := true, laidKinds := [.data, .data, .data, .data, .sentinel, .sentinel, .pinned], laidTests := true, laidLooks := .later }
def ProgLinesCardSaid : Prop := Claim7.holds Tryd.pinned (.plain (OpenSpec.ofChange progLinesSpec)) progLinesCard

/-- THE TIED CARD OF 'ltklaw6.ProgWords'. -/
def progWordsCard : Claim7 := { stood := { row := progWordsRow, standIns := [], harness := (true, "6d68df722b6e3abd1139e5b9d280b7b8fc1047fe9ce131a4fb6b4938d6a49c1d"), looks := true }, kinds := [], alts := [], laidByText := true, laidKinds := [.data, .data, .data, .data, .sentinel, .sentinel, .pinned], laidTests := true, laidLooks := .later }
def ProgWordsCardSaid : Prop := Claim7.holds Tryd.pinned (.plain (OpenSpec.ofChange progWordsSpec)) progWordsCard

/-- THE TIED CARD OF 'ltklaw6.ProgBack'. -/
def progBackCard : Claim7 := { stood := { row := progBackRow, standIns := [], harness := (true, "6d68df722b6e3abd1139e5b9d280b7b8fc1047fe9ce131a4fb6b4938d6a49c1d"), looks := true }, kinds := [], alts := [], laidByText := true, laidKinds := [.data, .data, .data, .data, .sentinel, .sentinel, .pinned], laidTests := true, laidLooks := .later }
def ProgBackCardSaid : Prop := Claim7.holds Tryd.pinned (.plain (OpenSpec.ofChange progBackSpec)) progBackCard

/-- THE SECOND FORM's CARD OF 'ltklaw6.ProgOdd'. -/
def progOddUptoCard : Claim7 := { stood := { row := progOddUptoRow, standIns := [], harness := (true, "6d68df722b6e3abd1139e5b9d280b7b8fc1047fe9ce131a4fb6b4938d6a49c1d"), looks := true }, kinds := [], alts := [], laidByText := true, laidKinds := [.data, .data, .data, .data, .sentinel, .sentinel, .pinned], laidTests := true, laidLooks := .later }
def ProgOddUptoCardSaid : Prop := Claim7.holds Tryd.pinned (.plain (OpenSpec.upto progOddSpec)) progOddUptoCard

/-- THE SECOND FORM's CARD OF 'ltklaw6.ProgAddr'. -/
def progAddrUptoCard : Claim7 := { stood := { row := progAddrUptoRow, standIns := [], harness := (true, "6d68df722b6e3abd1139e5b9d280b7b8fc1047fe9ce131a4fb6b4938d6a49c1d"), looks := true }, kinds := [], alts := [], laidByText := true, laidKinds := [.data, .data, .data, .data, .sentinel, .sentinel, .pinned], laidTests := true, laidLooks := .later }
def ProgAddrUptoCardSaid : Prop := Claim7.holds Tryd.pinned (.plain (OpenSpec.upto progAddrSpec)) progAddrUptoCard

/-- THE SECOND FORM's CARD OF 'ltklaw6.ProgLines'. -/
def progLinesUptoCard : Claim7 := { stood := { row := progLinesUptoRow, standIns := [], harness := (true, "6d68df722b6e3abd1139e5b9d280b7b8fc1047fe9ce131a4fb6b4938d6a49c1d"), looks := true }, kinds := [], alts := [], laidByText := true, laidKinds := [.data, .data, .data, .data, .sentinel, .sentinel, .pinned], laidTests := true, laidLooks := .later }
def ProgLinesUptoCardSaid : Prop := Claim7.holds Tryd.pinned (.plain (OpenSpec.upto progLinesSpec)) progLinesUptoCard

/-- THE SECOND FORM's CARD OF 'ltklaw6.ProgWords'. -/
def progWordsUptoCard : Claim7 := { stood := { row := progWordsUptoRow, standIns := [], harness := (true, "6d68df722b6e3abd1139e5b9d280b7b8fc1047fe9ce131a4fb6b4938d6a49c1d"), looks := true }, kinds := [], alts := [], laidByText := true, laidKinds := [.data, .data, .data, .data, .sentinel, .sentinel, .pinned], laidTests := true, laidLooks := .later }
def ProgWordsUptoCardSaid : Prop := Claim7.holds Tryd.pinned (.plain (OpenSpec.upto progWordsSpec)) progWordsUptoCard

/-- THE SECOND FORM's CARD OF 'ltklaw6.ProgBack'. -/
def progBackUptoCard : Claim7 := { stood := { row := progBackUptoRow, standIns := [], harness := (true, "6d68df722b6e3abd1139e5b9d280b7b8fc1047fe9ce131a4fb6b4938d6a49c1d"), looks := true }, kinds := [], alts := [], laidByText := true, laidKinds := [.data, .data, .data, .data, .sentinel, .sentinel, .pinned], laidTests := true, laidLooks := .later }
def ProgBackUptoCardSaid : Prop := Claim7.holds Tryd.pinned (.plain (OpenSpec.upto progBackSpec)) progBackUptoCard
end Rows
end Go.Proofs.YtefcjnnngaaihaaDoor
