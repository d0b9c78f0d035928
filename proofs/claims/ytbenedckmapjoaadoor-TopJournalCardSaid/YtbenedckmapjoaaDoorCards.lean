/-
  DERIVED. GIVEN WITH THE SEED: THE CARDS: each row of YtbenedckmapjoaaDoorRows.lean that lists a variable, with what it lists TIED to the program's text (the seventh form; the later family's looks); each row that meets fmt, with fmt's text TOLD by the authors' own Lean function (tested against real Go, not proved from fmt's source: count such statements apart). THE CARD IS WHAT COUNTS. Prove the row's statement (the work); the ties are given (YtbenedckmapjoaaDoorTie.lean); close each card by the builder's one call (the guide's Derived/Test/ToyasCard.lean, 'card_holds'). Laid BY PROGRAM, IN A SANDBOX (cutbox-door.mjs). By AI agents, Wed Nov 11 2026. No macro, syntax, notation, axiom, sorry.
-/
import Derived.Test.YtbenedckmapjoaaDoorRows
import GoSem.ClaimSeven
namespace Go.Proofs.YtbenedckmapjoaaDoor
namespace Rows

/-- THE TIED CARD OF 'imprimaturtop.TopScores'. -/
def topScoresCard : Claim7 := { stood := { row := topScoresRow, standIns := [], harness := (true, "8173e802fe12a9b203085cd6d8e6afa9256137d228d9a448d4ba40a61593a7f8"), looks := false }, kinds := [], alts := [], laidByText := true, laidKinds := [.data, .data, .data, .data, .data, .data], laidTests := true, laidLooks := .later }
def TopScoresCardSaid : Prop := Claim7.holds Tryd.pinned (.plain (OpenSpec.ofChange topScoresSpec)) topScoresCard

/-- THE TIED CARD OF 'imprimaturtop.TopProves'. -/
def topProvesCard : Claim7 := { stood := { row := topProvesRow, standIns := [], harness := (true, "8173e802fe12a9b203085cd6d8e6afa9256137d228d9a448d4ba40a61593a7f8"), looks := false }, kinds := [], alts := [], laidByText := true, laidKinds := [.data, .data, .widerDeep, .data, .data, .data, .data, .data], laidTests := true, laidLooks := .later }
def TopProvesCardSaid : Prop := Claim7.holds Tryd.pinned (.plain (OpenSpec.ofChange topProvesSpec)) topProvesCard

/-- THE TIED CARD OF 'imprimaturtop.TopJournal'. -/
def topJournalCard : Claim7 := { stood := { row := topJournalRow, standIns := [], harness := (true, "8173e802fe12a9b203085cd6d8e6afa9256137d228d9a448d4ba40a61593a7f8"), looks := false }, kinds := [], alts := [], laidByText := true, laidKinds := [.data, .data, .data, .data, .data, .data], laidTests := true, laidLooks := .later }
def TopJournalCardSaid : Prop := Claim7.holds Tryd.pinned (.plain (OpenSpec.ofChange topJournalSpec)) topJournalCard

/-- THE TIED CARD OF 'imprimaturtop.TopChunks'. -/
def topChunksCard : Claim7 := { stood := { row := topChunksRow, standIns := [], harness := (true, "8173e802fe12a9b203085cd6d8e6afa9256137d228d9a448d4ba40a61593a7f8"), looks := false }, kinds := [], alts := [], laidByText := true, laidKinds := [.data, .data, .data, .data, .data, .data], laidTests := true, laidLooks := .later }
def TopChunksCardSaid : Prop := Claim7.holds Tryd.pinned (.plain (OpenSpec.ofChange topChunksSpec)) topChunksCard

/-- THE SECOND FORM's CARD OF 'imprimaturtop.TopScores'. -/
def topScoresUptoCard : Claim7 := { stood := { row := topScoresUptoRow, standIns := [], harness := (true, "8173e802fe12a9b203085cd6d8e6afa9256137d228d9a448d4ba40a61593a7f8"), looks := false }, kinds := [], alts := [], laidByText := true, laidKinds := [.data, .data, .data, .data, .data, .data], laidTests := true, laidLooks := .later }
def TopScoresUptoCardSaid : Prop := Claim7.holds Tryd.pinned (.plain (OpenSpec.upto topScoresSpec)) topScoresUptoCard

/-- THE SECOND FORM's CARD OF 'imprimaturtop.TopProves'. -/
def topProvesUptoCard : Claim7 := { stood := { row := topProvesUptoRow, standIns := [], harness := (true, "8173e802fe12a9b203085cd6d8e6afa9256137d228d9a448d4ba40a61593a7f8"), looks := false }, kinds := [], alts := [], laidByText := true, laidKinds := [.data, .data, .widerDeep, .data, .data, .data, .data, .data], laidTests := true, laidLooks := .later }
def TopProvesUptoCardSaid : Prop := Claim7.holds Tryd.pinned (.plain (OpenSpec.upto topProvesSpec)) topProvesUptoCard

/-- THE SECOND FORM's CARD OF 'imprimaturtop.TopJournal'. -/
def topJournalUptoCard : Claim7 := { stood := { row := topJournalUptoRow, standIns := [], harness := (true, "8173e802fe12a9b203085cd6d8e6afa9256137d228d9a448d4ba40a61593a7f8"), looks := false }, kinds := [], alts := [], laidByText := true, laidKinds := [.data, .data, .data, .data, .data, .data], laidTests := true, laidLooks := .later }
def TopJournalUptoCardSaid : Prop := Claim7.holds Tryd.pinned (.plain (OpenSpec.upto topJournalSpec)) topJournalUptoCard

/-- THE SECOND FORM's CARD OF 'imprimaturtop.TopChunks'. -/
def topChunksUptoCard : Claim7 := { stood := { row := topChunksUptoRow, standIns := [], harness := (true, "8173e802fe12a9b203085cd6d8e6afa9256137d228d9a448d4ba40a61593a7f8"), looks := false }, kinds := [], alts := [], laidByText := true, laidKinds := [.data, .data, .data, .data, .data, .data], laidTests := true, laidLooks := .later }
def TopChunksUptoCardSaid : Prop := Claim7.holds Tryd.pinned (.plain (OpenSpec.upto topChunksSpec)) topChunksUptoCard
end Rows
end Go.Proofs.YtbenedckmapjoaaDoor
