/-
  DERIVED. GIVEN WITH THE SEED: THE CARDS: each row of YtcnpdapampclpaaDoorRows.lean that lists a variable, with what it lists TIED to the program's text (the seventh form; the later family's looks); each row that meets fmt, with fmt's text TOLD by the authors' own Lean function (tested against real Go, not proved from fmt's source: count such statements apart). THE CARD IS WHAT COUNTS. Prove the row's statement (the work); the ties are given (YtcnpdapampclpaaDoorTie.lean); close each card by the builder's one call (the guide's Derived/Test/ToyasCard.lean, 'card_holds'). Laid BY PROGRAM, IN A SANDBOX (cutbox-door.mjs). By AI agents, Wed Nov 11 2026. No macro, syntax, notation, axiom, sorry.
-/
import Derived.Test.YtcnpdapampclpaaDoorRows
import GoSem.ClaimSeven
namespace Go.Proofs.YtcnpdapampclpaaDoor
namespace Rows

/-- THE TIED CARD OF 'imprimaturlaw20.TrailTops'. -/
def trailTopsCard : Claim7 := { stood := { row := trailTopsRow, standIns := [], harness := (true, "aeb45c49fc68a3074243c954c6e55463567ec4ade6e637cbdc555f212b84183f"), looks := false }, kinds := [], alts := [], laidByText := true, laidKinds := [.data, .data], laidTests := true, laidLooks := .later }
def TrailTopsCardSaid : Prop := Claim7.holds Tryd.pinned (.plain (OpenSpec.ofChange trailTopsSpec)) trailTopsCard

/-- THE TIED CARD OF 'imprimaturlaw20.TrailLong'. -/
def trailLongCard : Claim7 := { stood := { row := trailLongRow, standIns := [], harness := (true, "aeb45c49fc68a3074243c954c6e55463567ec4ade6e637cbdc555f212b84183f"), looks := false }, kinds := [], alts := [], laidByText := true, laidKinds := [.data, .data], laidTests := true, laidLooks := .later }
def TrailLongCardSaid : Prop := Claim7.holds Tryd.pinned (.plain (OpenSpec.ofChange trailLongSpec)) trailLongCard

/-- THE TIED CARD OF 'imprimaturlaw20.TrailWays'. -/
def trailWaysCard : Claim7 := { stood := { row := trailWaysRow, standIns := [], harness := (true, "aeb45c49fc68a3074243c954c6e55463567ec4ade6e637cbdc555f212b84183f"), looks := false }, kinds := [], alts := [], laidByText := true, laidKinds := [.data, .data], laidTests := true, laidLooks := .later }
def TrailWaysCardSaid : Prop := Claim7.holds Tryd.pinned (.plain (OpenSpec.ofChange trailWaysSpec)) trailWaysCard

/-- THE TIED CARD OF 'imprimaturlaw20.TrailStays'. -/
def trailStaysCard : Claim7 := { stood := { row := trailStaysRow, standIns := [], harness := (true, "aeb45c49fc68a3074243c954c6e55463567ec4ade6e637cbdc555f212b84183f"), looks := false }, kinds := [], alts := [], laidByText := true, laidKinds := [.data, .data], laidTests := true, laidLooks := .later }
def TrailStaysCardSaid : Prop := Claim7.holds Tryd.pinned (.plain (OpenSpec.ofChange trailStaysSpec)) trailStaysCard

/-- THE TIED CARD OF 'imprimaturlaw20.TrailNil'. -/
def trailNilCard : Claim7 := { stood := { row := trailNilRow, standIns := [], harness := (true, "aeb45c49fc68a3074243c954c6e55463567ec4ade6e637cbdc555f212b84183f"), looks := false }, kinds := [], alts := [], laidByText := true, laidKinds := [.data, .data], laidTests := true, laidLooks := .later }
def TrailNilCardSaid : Prop := Claim7.holds Tryd.pinned (.plain (OpenSpec.ofChange trailNilSpec)) trailNilCard

/-- THE TIED CARD OF 'imprimaturlaw20.TrailIns'. -/
def trailInsCard : Claim7 := { stood := { row := trailInsRow, standIns := [], harness := (true, "aeb45c49fc68a3074243c954c6e55463567ec4ade6e637cbdc555f212b84183f"), looks := false }, kinds := [], alts := [], laidByText := true, laidKinds := [.data, .data], laidTests := true, laidLooks := .later }
def TrailInsCardSaid : Prop := Claim7.holds Tryd.pinned (.plain (OpenSpec.ofChange trailInsSpec)) trailInsCard

/-- THE TIED CARD OF 'imprimaturlaw20.TrailOnly'. -/
def trailOnlyCard : Claim7 := { stood := { row := trailOnlyRow, standIns := [], harness := (true, "aeb45c49fc68a3074243c954c6e55463567ec4ade6e637cbdc555f212b84183f"), looks := false }, kinds := [], alts := [], laidByText := true, laidKinds := [.data, .data], laidTests := true, laidLooks := .later }
def TrailOnlyCardSaid : Prop := Claim7.holds Tryd.pinned (.plain (OpenSpec.ofChange trailOnlySpec)) trailOnlyCard

/-- THE TIED CARD OF 'imprimaturlaw20.TrailBegins'. -/
def trailBeginsCard : Claim7 := { stood := { row := trailBeginsRow, standIns := [], harness := (true, "aeb45c49fc68a3074243c954c6e55463567ec4ade6e637cbdc555f212b84183f"), looks := false }, kinds := [], alts := [], laidByText := true, laidKinds := [.data, .data], laidTests := true, laidLooks := .later }
def TrailBeginsCardSaid : Prop := Claim7.holds Tryd.pinned (.plain (OpenSpec.ofChange trailBeginsSpec)) trailBeginsCard

/-- THE TIED CARD OF 'imprimaturlaw20.TrailFirst'. -/
def trailFirstCard : Claim7 := { stood := { row := trailFirstRow, standIns := [], harness := (true, "aeb45c49fc68a3074243c954c6e55463567ec4ade6e637cbdc555f212b84183f"), looks := false }, kinds := [], alts := [], laidByText := true, laidKinds := [.data, .data], laidTests := true, laidLooks := .later }
def TrailFirstCardSaid : Prop := Claim7.holds Tryd.pinned (.plain (OpenSpec.ofChange trailFirstSpec)) trailFirstCard

/-- THE TIED CARD OF 'imprimaturlaw20.TrailOwn'. -/
def trailOwnCard : Claim7 := { stood := { row := trailOwnRow, standIns := [], harness := (true, "aeb45c49fc68a3074243c954c6e55463567ec4ade6e637cbdc555f212b84183f"), looks := false }, kinds := [], alts := [], laidByText := true, laidKinds := [.data, .data], laidTests := true, laidLooks := .later }
def TrailOwnCardSaid : Prop := Claim7.holds Tryd.pinned (.plain (OpenSpec.ofChange trailOwnSpec)) trailOwnCard

/-- THE SECOND FORM's CARD OF 'imprimaturlaw20.TrailTops'. -/
def trailTopsUptoCard : Claim7 := { stood := { row := trailTopsUptoRow, standIns := [], harness := (true, "aeb45c49fc68a3074243c954c6e55463567ec4ade6e637cbdc555f212b84183f"), looks := false }, kinds := [], alts := [], laidByText := true, laidKinds := [.data, .data], laidTests := true, laidLooks := .later }
def TrailTopsUptoCardSaid : Prop := Claim7.holds Tryd.pinned (.plain (OpenSpec.upto trailTopsSpec)) trailTopsUptoCard

/-- THE SECOND FORM's CARD OF 'imprimaturlaw20.TrailLong'. -/
def trailLongUptoCard : Claim7 := { stood := { row := trailLongUptoRow, standIns := [], harness := (true, "aeb45c49fc68a3074243c954c6e55463567ec4ade6e637cbdc555f212b84183f"), looks := false }, kinds := [], alts := [], laidByText := true, laidKinds := [.data, .data], laidTests := true, laidLooks := .later }
def TrailLongUptoCardSaid : Prop := Claim7.holds Tryd.pinned (.plain (OpenSpec.upto trailLongSpec)) trailLongUptoCard

/-- THE SECOND FORM's CARD OF 'imprimaturlaw20.TrailWays'. -/
def trailWaysUptoCard : Claim7 := { stood := { row := trailWaysUptoRow, standIns := [], harness := (true, "aeb45c49fc68a3074243c954c6e55463567ec4ade6e637cbdc555f212b84183f"), looks := false }, kinds := [], alts := [], laidByText := true, laidKinds := [.data, .data], laidTests := true, laidLooks := .later }
def TrailWaysUptoCardSaid : Prop := Claim7.holds Tryd.pinned (.plain (OpenSpec.upto trailWaysSpec)) trailWaysUptoCard

/-- THE SECOND FORM's CARD OF 'imprimaturlaw20.TrailStays'. -/
def trailStaysUptoCard : Claim7 := { stood := { row := trailStaysUptoRow, standIns := [], harness := (true, "aeb45c49fc68a3074243c954c6e55463567ec4ade6e637cbdc555f212b84183f"), looks := false }, kinds := [], alts := [], laidByText := true, laidKinds := [.data, .data], laidTests := true, laidLooks := .later }
def TrailStaysUptoCardSaid : Prop := Claim7.holds Tryd.pinned (.plain (OpenSpec.upto trailStaysSpec)) trailStaysUptoCard

/-- THE SECOND FORM's CARD OF 'imprimaturlaw20.TrailNil'. -/
def trailNilUptoCard : Claim7 := { stood := { row := trailNilUptoRow, standIns := [], harness := (true, "aeb45c49fc68a3074243c954c6e55463567ec4ade6e637cbdc555f212b84183f"), looks := false }, kinds := [], alts := [], laidByText := true, laidKinds := [.data, .data], laidTests := true, laidLooks := .later }
def TrailNilUptoCardSaid : Prop := Claim7.holds Tryd.pinned (.plain (OpenSpec.upto trailNilSpec)) trailNilUptoCard

/-- THE SECOND FORM's CARD OF 'imprimaturlaw20.TrailIns'. -/
def trailInsUptoCard : Claim7 := { stood := { row := trailInsUptoRow, standIns := [], harness := (true, "aeb45c49fc68a3074243c954c6e55463567ec4ade6e637cbdc555f212b84183f"), looks := false }, kinds := [], alts := [], laidByText := true, laidKinds := [.data, .data], laidTests := true, laidLooks := .later }
def TrailInsUptoCardSaid : Prop := Claim7.holds Tryd.pinned (.plain (OpenSpec.upto trailInsSpec)) trailInsUptoCard

/-- THE SECOND FORM's CARD OF 'imprimaturlaw20.TrailOnly'. -/
def trailOnlyUptoCard : Claim7 := { stood := { row := trailOnlyUptoRow, standIns := [], harness := (true, "aeb45c49fc68a3074243c954c6e55463567ec4ade6e637cbdc555f212b84183f"), looks := false }, kinds := [], alts := [], laidByText := true, laidKinds := [.data, .data], laidTests := true, laidLooks := .later }
def TrailOnlyUptoCardSaid : Prop := Claim7.holds Tryd.pinned (.plain (OpenSpec.upto trailOnlySpec)) trailOnlyUptoCard

/-- THE SECOND FORM's CARD OF 'imprimaturlaw20.TrailBegins'. -/
def trailBeginsUptoCard : Claim7 := { stood := { row := trailBeginsUptoRow, standIns := [], harness := (true, "aeb45c49fc68a3074243c954c6e55463567ec4ade6e637cbdc555f212b84183f"), looks := false }, kinds := [], alts := [], laidByText := true, laidKinds := [.data, .data], laidTests := true, laidLooks := .later }
def TrailBeginsUptoCardSaid : Prop := Claim7.holds Tryd.pinned (.plain (OpenSpec.upto trailBeginsSpec)) trailBeginsUptoCard

/-- THE SECOND FORM's CARD OF 'imprimaturlaw20.TrailFirst'. -/
def trailFirstUptoCard : Claim7 := { stood := { row := trailFirstUptoRow, standIns := [], harness := (true, "aeb45c49fc68a3074243c954c6e55463567ec4ade6e637cbdc555f212b84183f"), looks := false }, kinds := [], alts := [], laidByText := true, laidKinds := [.data, .data], laidTests := true, laidLooks := .later }
def TrailFirstUptoCardSaid : Prop := Claim7.holds Tryd.pinned (.plain (OpenSpec.upto trailFirstSpec)) trailFirstUptoCard

/-- THE SECOND FORM's CARD OF 'imprimaturlaw20.TrailOwn'. -/
def trailOwnUptoCard : Claim7 := { stood := { row := trailOwnUptoRow, standIns := [], harness := (true, "aeb45c49fc68a3074243c954c6e55463567ec4ade6e637cbdc555f212b84183f"), looks := false }, kinds := [], alts := [], laidByText := true, laidKinds := [.data, .data], laidTests := true, laidLooks := .later }
def TrailOwnUptoCardSaid : Prop := Claim7.holds Tryd.pinned (.plain (OpenSpec.upto trailOwnSpec)) trailOwnUptoCard
end Rows
end Go.Proofs.YtcnpdapampclpaaDoor
