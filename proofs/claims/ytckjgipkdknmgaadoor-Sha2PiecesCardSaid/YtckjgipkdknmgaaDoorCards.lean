/-
  DERIVED. GIVEN WITH THE SEED: THE CARDS: each row of YtckjgipkdknmgaaDoorRows.lean that lists a variable, with what it lists TIED to the program's text (the seventh form; the later family's looks); each row that meets fmt, with fmt's text TOLD by the authors' own Lean function (tested against real Go, not proved from fmt's source: count such statements apart). THE CARD IS WHAT COUNTS. Prove the row's statement (the work); the ties are given (YtckjgipkdknmgaaDoorTie.lean); close each card by the builder's one call (the guide's Derived/Test/ToyasCard.lean, 'card_holds'). Laid BY PROGRAM, IN A SANDBOX (cutbox-door.mjs). By AI agents, Wed Nov 11 2026. No macro, syntax, notation, axiom, sorry.
-/
import Derived.Test.YtckjgipkdknmgaaDoorRows
import GoSem.ClaimSeven
namespace Go.Proofs.YtckjgipkdknmgaaDoor
namespace Rows

/-- THE TIED CARD OF 'imprimaturlaw02.Sha2Pads'. -/
def sha2PadsCard : Claim7 := { stood := { row := sha2PadsRow, standIns := [], harness := (true, "600d7b2a159fab67c00e8f0ed586b324a0eb50299c519edd87cccf32c20311f8"), looks := false }, kinds := [], alts := [], laidByText := true, laidKinds := [.data, .data], laidTests := true, laidLooks := .later }
def Sha2PadsCardSaid : Prop := Claim7.holds Tryd.pinned (.plain (OpenSpec.ofChange sha2PadsSpec)) sha2PadsCard

/-- THE TIED CARD OF 'imprimaturlaw02.Sha2Asks'. -/
def sha2AsksCard : Claim7 := { stood := { row := sha2AsksRow, standIns := [], harness := (true, "600d7b2a159fab67c00e8f0ed586b324a0eb50299c519edd87cccf32c20311f8"), looks := false }, kinds := [], alts := [], laidByText := true, laidKinds := [.data, .data], laidTests := true, laidLooks := .later }
def Sha2AsksCardSaid : Prop := Claim7.holds Tryd.pinned (.plain (OpenSpec.ofChange sha2AsksSpec)) sha2AsksCard

/-- THE TIED CARD OF 'imprimaturlaw02.Sha2Fills'. -/
def sha2FillsCard : Claim7 := { stood := { row := sha2FillsRow, standIns := [], harness := (true, "600d7b2a159fab67c00e8f0ed586b324a0eb50299c519edd87cccf32c20311f8"), looks := false }, kinds := [], alts := [], laidByText := true, laidKinds := [.data, .data], laidTests := true, laidLooks := .later }
def Sha2FillsCardSaid : Prop := Claim7.holds Tryd.pinned (.plain (OpenSpec.ofChange sha2FillsSpec)) sha2FillsCard

/-- THE TIED CARD OF 'imprimaturlaw02.Sha2Sums'. -/
def sha2SumsCard : Claim7 := { stood := { row := sha2SumsRow, standIns := [], harness := (true, "600d7b2a159fab67c00e8f0ed586b324a0eb50299c519edd87cccf32c20311f8"), looks := false }, kinds := [], alts := [], laidByText := true, laidKinds := [.data, .data], laidTests := true, laidLooks := .later }
def Sha2SumsCardSaid : Prop := Claim7.holds Tryd.pinned (.plain (OpenSpec.ofChange sha2SumsSpec)) sha2SumsCard

/-- THE TIED CARD OF 'imprimaturlaw02.Sha2Lengths'. -/
def sha2LengthsCard : Claim7 := { stood := { row := sha2LengthsRow, standIns := [], harness := (true, "600d7b2a159fab67c00e8f0ed586b324a0eb50299c519edd87cccf32c20311f8"), looks := false }, kinds := [], alts := [], laidByText := true, laidKinds := [.data, .data], laidTests := true, laidLooks := .later }
def Sha2LengthsCardSaid : Prop := Claim7.holds Tryd.pinned (.plain (OpenSpec.ofChange sha2LengthsSpec)) sha2LengthsCard

/-- THE TIED CARD OF 'imprimaturlaw02.Sha2Consts'. -/
def sha2ConstsCard : Claim7 := { stood := { row := sha2ConstsRow, standIns := [], harness := (true, "600d7b2a159fab67c00e8f0ed586b324a0eb50299c519edd87cccf32c20311f8"), looks := false }, kinds := [], alts := [], laidByText := true, laidKinds := [.data, .data], laidTests := true, laidLooks := .later }
def Sha2ConstsCardSaid : Prop := Claim7.holds Tryd.pinned (.plain (OpenSpec.ofChange sha2ConstsSpec)) sha2ConstsCard

/-- THE TIED CARD OF 'imprimaturlaw02.Sha2Full'. -/
def sha2FullCard : Claim7 := { stood := { row := sha2FullRow, standIns := [], harness := (true, "600d7b2a159fab67c00e8f0ed586b324a0eb50299c519edd87cccf32c20311f8"), looks := false }, kinds := [], alts := [], laidByText := true, laidKinds := [.data, .data], laidTests := true, laidLooks := .later }
def Sha2FullCardSaid : Prop := Claim7.holds Tryd.pinned (.plain (OpenSpec.ofChange sha2FullSpec)) sha2FullCard

/-- THE TIED CARD OF 'imprimaturlaw02.Sha2Nil'. -/
def sha2NilCard : Claim7 := { stood := { row := sha2NilRow, standIns := [], harness := (true, "600d7b2a159fab67c00e8f0ed586b324a0eb50299c519edd87cccf32c20311f8"), looks := false }, kinds := [], alts := [], laidByText := true, laidKinds := [.data, .data], laidTests := true, laidLooks := .later }
def Sha2NilCardSaid : Prop := Claim7.holds Tryd.pinned (.plain (OpenSpec.ofChange sha2NilSpec)) sha2NilCard

/-- THE TIED CARD OF 'imprimaturlaw02.Sha2Pieces'. -/
def sha2PiecesCard : Claim7 := { stood := { row := sha2PiecesRow, standIns := [], harness := (true, "600d7b2a159fab67c00e8f0ed586b324a0eb50299c519edd87cccf32c20311f8"), looks := false }, kinds := [], alts := [], laidByText := true, laidKinds := [.data, .data], laidTests := true, laidLooks := .later }
def Sha2PiecesCardSaid : Prop := Claim7.holds Tryd.pinned (.plain (OpenSpec.ofChange sha2PiecesSpec)) sha2PiecesCard

/-- THE SECOND FORM's CARD OF 'imprimaturlaw02.Sha2Pads'. -/
def sha2PadsUptoCard : Claim7 := { stood := { row := sha2PadsUptoRow, standIns := [], harness := (true, "600d7b2a159fab67c00e8f0ed586b324a0eb50299c519edd87cccf32c20311f8"), looks := false }, kinds := [], alts := [], laidByText := true, laidKinds := [.data, .data], laidTests := true, laidLooks := .later }
def Sha2PadsUptoCardSaid : Prop := Claim7.holds Tryd.pinned (.plain (OpenSpec.upto sha2PadsSpec)) sha2PadsUptoCard

/-- THE SECOND FORM's CARD OF 'imprimaturlaw02.Sha2Asks'. -/
def sha2AsksUptoCard : Claim7 := { stood := { row := sha2AsksUptoRow, standIns := [], harness := (true, "600d7b2a159fab67c00e8f0ed586b324a0eb50299c519edd87cccf32c20311f8"), looks := false }, kinds := [], alts := [], laidByText := true, laidKinds := [.data, .data], laidTests := true, laidLooks := .later }
def Sha2AsksUptoCardSaid : Prop := Claim7.holds Tryd.pinned (.plain (OpenSpec.upto sha2AsksSpec)) sha2AsksUptoCard

/-- THE SECOND FORM's CARD OF 'imprimaturlaw02.Sha2Fills'. -/
def sha2FillsUptoCard : Claim7 := { stood := { row := sha2FillsUptoRow, standIns := [], harness := (true, "600d7b2a159fab67c00e8f0ed586b324a0eb50299c519edd87cccf32c20311f8"), looks := false }, kinds := [], alts := [], laidByText := true, laidKinds := [.data, .data], laidTests := true, laidLooks := .later }
def Sha2FillsUptoCardSaid : Prop := Claim7.holds Tryd.pinned (.plain (OpenSpec.upto sha2FillsSpec)) sha2FillsUptoCard

/-- THE SECOND FORM's CARD OF 'imprimaturlaw02.Sha2Sums'. -/
def sha2SumsUptoCard : Claim7 := { stood := { row := sha2SumsUptoRow, standIns := [], harness := (true, "600d7b2a159fab67c00e8f0ed586b324a0eb50299c519edd87cccf32c20311f8"), looks := false }, kinds := [], alts := [], laidByText := true, laidKinds := [.data, .data], laidTests := true, laidLooks := .later }
def Sha2SumsUptoCardSaid : Prop := Claim7.holds Tryd.pinned (.plain (OpenSpec.upto sha2SumsSpec)) sha2SumsUptoCard

/-- THE SECOND FORM's CARD OF 'imprimaturlaw02.Sha2Lengths'. -/
def sha2LengthsUptoCard : Claim7 := { stood := { row := sha2LengthsUptoRow, standIns := [], harness := (true, "600d7b2a159fab67c00e8f0ed586b324a0eb50299c519edd87cccf32c20311f8"), looks := false }, kinds := [], alts := [], laidByText := true, laidKinds := [.data, .data], laidTests := true, laidLooks := .later }
def Sha2LengthsUptoCardSaid : Prop := Claim7.holds Tryd.pinned (.plain (OpenSpec.upto sha2LengthsSpec)) sha2LengthsUptoCard

/-- THE SECOND FORM's CARD OF 'imprimaturlaw02.Sha2Consts'. -/
def sha2ConstsUptoCard : Claim7 := { stood := { row := sha2ConstsUptoRow, standIns := [], harness := (true, "600d7b2a159fab67c00e8f0ed586b324a0eb50299c519edd87cccf32c20311f8"), looks := false }, kinds := [], alts := [], laidByText := true, laidKinds := [.data, .data], laidTests := true, laidLooks := .later }
def Sha2ConstsUptoCardSaid : Prop := Claim7.holds Tryd.pinned (.plain (OpenSpec.upto sha2ConstsSpec)) sha2ConstsUptoCard

/-- THE SECOND FORM's CARD OF 'imprimaturlaw02.Sha2Full'. -/
def sha2FullUptoCard : Claim7 := { stood := { row := sha2FullUptoRow, standIns := [], harness := (true, "600d7b2a159fab67c00e8f0ed586b324a0eb50299c519edd87cccf32c20311f8"), looks := false }, kinds := [], alts := [], laidByText := true, laidKinds := [.data, .data], laidTests := true, laidLooks := .later }
def Sha2FullUptoCardSaid : Prop := Claim7.holds Tryd.pinned (.plain (OpenSpec.upto sha2FullSpec)) sha2FullUptoCard

/-- THE SECOND FORM's CARD OF 'imprimaturlaw02.Sha2Nil'. -/
def sha2NilUptoCard : Claim7 := { stood := { row := sha2NilUptoRow, standIns := [], harness := (true, "600d7b2a159fab67c00e8f0ed586b324a0eb50299c519edd87cccf32c20311f8"), looks := false }, kinds := [], alts := [], laidByText := true, laidKinds := [.data, .data], laidTests := true, laidLooks := .later }
def Sha2NilUptoCardSaid : Prop := Claim7.holds Tryd.pinned (.plain (OpenSpec.upto sha2NilSpec)) sha2NilUptoCard

/-- THE SECOND FORM's CARD OF 'imprimaturlaw02.Sha2Pieces'. -/
def sha2PiecesUptoCard : Claim7 := { stood := { row := sha2PiecesUptoRow, standIns := [], harness := (true, "600d7b2a159fab67c00e8f0ed586b324a0eb50299c519edd87cccf32c20311f8"), looks := false }, kinds := [], alts := [], laidByText := true, laidKinds := [.data, .data], laidTests := true, laidLooks := .later }
def Sha2PiecesUptoCardSaid : Prop := Claim7.holds Tryd.pinned (.plain (OpenSpec.upto sha2PiecesSpec)) sha2PiecesUptoCard
end Rows
end Go.Proofs.YtckjgipkdknmgaaDoor
