/-
  DERIVED. GIVEN WITH THE SEED: THE CARDS: each row of YtdpdmmbdoeefbaaDoorRows.lean that lists a variable, with what it lists TIED to the program's text (the seventh form; the later family's looks); each row that meets fmt, with fmt's text TOLD by the authors' own Lean function (tested against real Go, not proved from fmt's source: count such statements apart). THE CARD IS WHAT COUNTS. Prove the row's statement (the work); the ties are given (YtdpdmmbdoeefbaaDoorTie.lean); close each card by the builder's one call (the guide's Derived/Test/ToyasCard.lean, 'card_holds'). Laid BY PROGRAM, IN A SANDBOX (cutbox-door.mjs). By AI agents, Wed Nov 11 2026. No macro, syntax, notation, axiom, sorry.
-/
import Derived.Test.YtdpdmmbdoeefbaaDoorRows
import GoSem.ClaimSeven
namespace Go.Proofs.YtdpdmmbdoeefbaaDoor
namespace Rows

/-- THE TIED CARD OF 'imprimaturlaw06.MerkleChecks'. -/
def merkleChecksCard : Claim7 := { stood := { row := merkleChecksRow, standIns := [], harness := (true, "71278b923553afd3ce6668de286aa17af738b180b9b578020af3a3047c43b0a2"), looks := false }, kinds := [], alts := [], laidByText := true, laidKinds := [.data, .data], laidTests := true, laidLooks := .later }
def MerkleChecksCardSaid : Prop := Claim7.holds Tryd.pinned (.plain (OpenSpec.ofChange merkleChecksSpec)) merkleChecksCard

/-- THE TIED CARD OF 'imprimaturlaw06.MerkleMaps'. -/
def merkleMapsCard : Claim7 := { stood := { row := merkleMapsRow, standIns := [], harness := (true, "71278b923553afd3ce6668de286aa17af738b180b9b578020af3a3047c43b0a2"), looks := false }, kinds := [], alts := [], laidByText := true, laidKinds := [.data, .data], laidTests := true, laidLooks := .later }
def MerkleMapsCardSaid : Prop := Claim7.holds Tryd.pinned (.plain (OpenSpec.ofChange merkleMapsSpec)) merkleMapsCard

/-- THE TIED CARD OF 'imprimaturlaw06.MerkleOnly'. -/
def merkleOnlyCard : Claim7 := { stood := { row := merkleOnlyRow, standIns := [], harness := (true, "71278b923553afd3ce6668de286aa17af738b180b9b578020af3a3047c43b0a2"), looks := false }, kinds := [], alts := [], laidByText := true, laidKinds := [.data, .data], laidTests := true, laidLooks := .later }
def MerkleOnlyCardSaid : Prop := Claim7.holds Tryd.pinned (.plain (OpenSpec.ofChange merkleOnlySpec)) merkleOnlyCard

/-- THE TIED CARD OF 'imprimaturlaw06.MerklePuts'. -/
def merklePutsCard : Claim7 := { stood := { row := merklePutsRow, standIns := [], harness := (true, "71278b923553afd3ce6668de286aa17af738b180b9b578020af3a3047c43b0a2"), looks := false }, kinds := [], alts := [], laidByText := true, laidKinds := [.data, .data], laidTests := true, laidLooks := .later }
def MerklePutsCardSaid : Prop := Claim7.holds Tryd.pinned (.plain (OpenSpec.ofChange merklePutsSpec)) merklePutsCard

/-- THE TIED CARD OF 'imprimaturlaw06.MerkleCuts'. -/
def merkleCutsCard : Claim7 := { stood := { row := merkleCutsRow, standIns := [], harness := (true, "71278b923553afd3ce6668de286aa17af738b180b9b578020af3a3047c43b0a2"), looks := false }, kinds := [], alts := [], laidByText := true, laidKinds := [.data, .data], laidTests := true, laidLooks := .later }
def MerkleCutsCardSaid : Prop := Claim7.holds Tryd.pinned (.plain (OpenSpec.ofChange merkleCutsSpec)) merkleCutsCard

/-- THE TIED CARD OF 'imprimaturlaw06.MerkleWhole'. -/
def merkleWholeCard : Claim7 := { stood := { row := merkleWholeRow, standIns := [], harness := (true, "71278b923553afd3ce6668de286aa17af738b180b9b578020af3a3047c43b0a2"), looks := false }, kinds := [], alts := [], laidByText := true, laidKinds := [.data, .data], laidTests := true, laidLooks := .later }
def MerkleWholeCardSaid : Prop := Claim7.holds Tryd.pinned (.plain (OpenSpec.ofChange merkleWholeSpec)) merkleWholeCard

/-- THE TIED CARD OF 'imprimaturlaw06.MerkleProves'. -/
def merkleProvesCard : Claim7 := { stood := { row := merkleProvesRow, standIns := [], harness := (true, "71278b923553afd3ce6668de286aa17af738b180b9b578020af3a3047c43b0a2"), looks := false }, kinds := [], alts := [], laidByText := true, laidKinds := [.data, .data], laidTests := true, laidLooks := .later }
def MerkleProvesCardSaid : Prop := Claim7.holds Tryd.pinned (.plain (OpenSpec.ofChange merkleProvesSpec)) merkleProvesCard

/-- THE TIED CARD OF 'imprimaturlaw06.MerkleOwn'. -/
def merkleOwnCard : Claim7 := { stood := { row := merkleOwnRow, standIns := [], harness := (true, "71278b923553afd3ce6668de286aa17af738b180b9b578020af3a3047c43b0a2"), looks := false }, kinds := [], alts := [], laidByText := true, laidKinds := [.data, .data], laidTests := true, laidLooks := .later }
def MerkleOwnCardSaid : Prop := Claim7.holds Tryd.pinned (.plain (OpenSpec.ofChange merkleOwnSpec)) merkleOwnCard

/-- THE TIED CARD OF 'imprimaturlaw06.MerkleRoots'. -/
def merkleRootsCard : Claim7 := { stood := { row := merkleRootsRow, standIns := [], harness := (true, "71278b923553afd3ce6668de286aa17af738b180b9b578020af3a3047c43b0a2"), looks := false }, kinds := [], alts := [], laidByText := true, laidKinds := [.data, .data], laidTests := true, laidLooks := .later }
def MerkleRootsCardSaid : Prop := Claim7.holds Tryd.pinned (.plain (OpenSpec.ofChange merkleRootsSpec)) merkleRootsCard

/-- THE TIED CARD OF 'imprimaturlaw06.MerkleRanges'. -/
def merkleRangesCard : Claim7 := { stood := { row := merkleRangesRow, standIns := [], harness := (true, "71278b923553afd3ce6668de286aa17af738b180b9b578020af3a3047c43b0a2"), looks := false }, kinds := [], alts := [], laidByText := true, laidKinds := [.data, .data], laidTests := true, laidLooks := .later }
def MerkleRangesCardSaid : Prop := Claim7.holds Tryd.pinned (.plain (OpenSpec.ofChange merkleRangesSpec)) merkleRangesCard

/-- THE TIED CARD OF 'imprimaturlaw06.MerkleSpans'. -/
def merkleSpansCard : Claim7 := { stood := { row := merkleSpansRow, standIns := [], harness := (true, "71278b923553afd3ce6668de286aa17af738b180b9b578020af3a3047c43b0a2"), looks := false }, kinds := [], alts := [], laidByText := true, laidKinds := [.data, .data], laidTests := true, laidLooks := .later }
def MerkleSpansCardSaid : Prop := Claim7.holds Tryd.pinned (.plain (OpenSpec.ofChange merkleSpansSpec)) merkleSpansCard

/-- THE SECOND FORM's CARD OF 'imprimaturlaw06.MerkleChecks'. -/
def merkleChecksUptoCard : Claim7 := { stood := { row := merkleChecksUptoRow, standIns := [], harness := (true, "71278b923553afd3ce6668de286aa17af738b180b9b578020af3a3047c43b0a2"), looks := false }, kinds := [], alts := [], laidByText := true, laidKinds := [.data, .data], laidTests := true, laidLooks := .later }
def MerkleChecksUptoCardSaid : Prop := Claim7.holds Tryd.pinned (.plain (OpenSpec.upto merkleChecksSpec)) merkleChecksUptoCard

/-- THE SECOND FORM's CARD OF 'imprimaturlaw06.MerkleMaps'. -/
def merkleMapsUptoCard : Claim7 := { stood := { row := merkleMapsUptoRow, standIns := [], harness := (true, "71278b923553afd3ce6668de286aa17af738b180b9b578020af3a3047c43b0a2"), looks := false }, kinds := [], alts := [], laidByText := true, laidKinds := [.data, .data], laidTests := true, laidLooks := .later }
def MerkleMapsUptoCardSaid : Prop := Claim7.holds Tryd.pinned (.plain (OpenSpec.upto merkleMapsSpec)) merkleMapsUptoCard

/-- THE SECOND FORM's CARD OF 'imprimaturlaw06.MerkleOnly'. -/
def merkleOnlyUptoCard : Claim7 := { stood := { row := merkleOnlyUptoRow, standIns := [], harness := (true, "71278b923553afd3ce6668de286aa17af738b180b9b578020af3a3047c43b0a2"), looks := false }, kinds := [], alts := [], laidByText := true, laidKinds := [.data, .data], laidTests := true, laidLooks := .later }
def MerkleOnlyUptoCardSaid : Prop := Claim7.holds Tryd.pinned (.plain (OpenSpec.upto merkleOnlySpec)) merkleOnlyUptoCard

/-- THE SECOND FORM's CARD OF 'imprimaturlaw06.MerklePuts'. -/
def merklePutsUptoCard : Claim7 := { stood := { row := merklePutsUptoRow, standIns := [], harness := (true, "71278b923553afd3ce6668de286aa17af738b180b9b578020af3a3047c43b0a2"), looks := false }, kinds := [], alts := [], laidByText := true, laidKinds := [.data, .data], laidTests := true, laidLooks := .later }
def MerklePutsUptoCardSaid : Prop := Claim7.holds Tryd.pinned (.plain (OpenSpec.upto merklePutsSpec)) merklePutsUptoCard

/-- THE SECOND FORM's CARD OF 'imprimaturlaw06.MerkleCuts'. -/
def merkleCutsUptoCard : Claim7 := { stood := { row := merkleCutsUptoRow, standIns := [], harness := (true, "71278b923553afd3ce6668de286aa17af738b180b9b578020af3a3047c43b0a2"), looks := false }, kinds := [], alts := [], laidByText := true, laidKinds := [.data, .data], laidTests := true, laidLooks := .later }
def MerkleCutsUptoCardSaid : Prop := Claim7.holds Tryd.pinned (.plain (OpenSpec.upto merkleCutsSpec)) merkleCutsUptoCard

/-- THE SECOND FORM's CARD OF 'imprimaturlaw06.MerkleWhole'. -/
def merkleWholeUptoCard : Claim7 := { stood := { row := merkleWholeUptoRow, standIns := [], harness := (true, "71278b923553afd3ce6668de286aa17af738b180b9b578020af3a3047c43b0a2"), looks := false }, kinds := [], alts := [], laidByText := true, laidKinds := [.data, .data], laidTests := true, laidLooks := .later }
def MerkleWholeUptoCardSaid : Prop := Claim7.holds Tryd.pinned (.plain (OpenSpec.upto merkleWholeSpec)) merkleWholeUptoCard

/-- THE SECOND FORM's CARD OF 'imprimaturlaw06.MerkleProves'. -/
def merkleProvesUptoCard : Claim7 := { stood := { row := merkleProvesUptoRow, standIns := [], harness := (true, "71278b923553afd3ce6668de286aa17af738b180b9b578020af3a3047c43b0a2"), looks := false }, kinds := [], alts := [], laidByText := true, laidKinds := [.data, .data], laidTests := true, laidLooks := .later }
def MerkleProvesUptoCardSaid : Prop := Claim7.holds Tryd.pinned (.plain (OpenSpec.upto merkleProvesSpec)) merkleProvesUptoCard

/-- THE SECOND FORM's CARD OF 'imprimaturlaw06.MerkleOwn'. -/
def merkleOwnUptoCard : Claim7 := { stood := { row := merkleOwnUptoRow, standIns := [], harness := (true, "71278b923553afd3ce6668de286aa17af738b180b9b578020af3a3047c43b0a2"), looks := false }, kinds := [], alts := [], laidByText := true, laidKinds := [.data, .data], laidTests := true, laidLooks := .later }
def MerkleOwnUptoCardSaid : Prop := Claim7.holds Tryd.pinned (.plain (OpenSpec.upto merkleOwnSpec)) merkleOwnUptoCard

/-- THE SECOND FORM's CARD OF 'imprimaturlaw06.MerkleRoots'. -/
def merkleRootsUptoCard : Claim7 := { stood := { row := merkleRootsUptoRow, standIns := [], harness := (true, "71278b923553afd3ce6668de286aa17af738b180b9b578020af3a3047c43b0a2"), looks := false }, kinds := [], alts := [], laidByText := true, laidKinds := [.data, .data], laidTests := true, laidLooks := .later }
def MerkleRootsUptoCardSaid : Prop := Claim7.holds Tryd.pinned (.plain (OpenSpec.upto merkleRootsSpec)) merkleRootsUptoCard

/-- THE SECOND FORM's CARD OF 'imprimaturlaw06.MerkleRanges'. -/
def merkleRangesUptoCard : Claim7 := { stood := { row := merkleRangesUptoRow, standIns := [], harness := (true, "71278b923553afd3ce6668de286aa17af738b180b9b578020af3a3047c43b0a2"), looks := false }, kinds := [], alts := [], laidByText := true, laidKinds := [.data, .data], laidTests := true, laidLooks := .later }
def MerkleRangesUptoCardSaid : Prop := Claim7.holds Tryd.pinned (.plain (OpenSpec.upto merkleRangesSpec)) merkleRangesUptoCard

/-- THE SECOND FORM's CARD OF 'imprimaturlaw06.MerkleSpans'. -/
def merkleSpansUptoCard : Claim7 := { stood := { row := merkleSpansUptoRow, standIns := [], harness := (true, "71278b923553afd3ce6668de286aa17af738b180b9b578020af3a3047c43b0a2"), looks := false }, kinds := [], alts := [], laidByText := true, laidKinds := [.data, .data], laidTests := true, laidLooks := .later }
def MerkleSpansUptoCardSaid : Prop := Claim7.holds Tryd.pinned (.plain (OpenSpec.upto merkleSpansSpec)) merkleSpansUptoCard
end Rows
end Go.Proofs.YtdpdmmbdoeefbaaDoor
