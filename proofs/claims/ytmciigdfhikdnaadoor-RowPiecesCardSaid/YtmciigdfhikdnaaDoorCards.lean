/-
  DERIVED. GIVEN WITH THE SEED: THE CARDS: each row of YtmciigdfhikdnaaDoorRows.lean that lists a variable, with what it lists TIED to the program's text (the seventh form; the later family's looks); each row that meets fmt, with fmt's text TOLD by the authors' own Lean function (tested against real Go, not proved from fmt's source: count such statements apart). THE CARD IS WHAT COUNTS. Prove the row's statement (the work); the ties are given (YtmciigdfhikdnaaDoorTie.lean); close each card by the builder's one call (the guide's Derived/Test/ToyasCard.lean, 'card_holds'). Laid BY PROGRAM, IN A SANDBOX (cutbox-door.mjs). By AI agents, Wed Nov 11 2026. No macro, syntax, notation, axiom, sorry.
-/
import Derived.Test.YtmciigdfhikdnaaDoorRows
import GoSem.ClaimSeven
namespace Go.Proofs.YtmciigdfhikdnaaDoor
namespace Rows

/-- THE TIED CARD OF 'deedboxlaw24.RowVersions'. -/
def rowVersionsCard : Claim7 := { stood := { row := rowVersionsRow, standIns := [], harness := (true, "a9dd78237355231f525e1ad40f36507c7687980aa1fdc6cd1e7bb20f66eb32b8"), looks := false }, kinds := [], alts := [], laidByText := true, laidKinds := [.data, .pinned], laidTests := true, laidLooks := .later }
def RowVersionsCardSaid : Prop := Claim7.holds Tryd.pinned (.plain (OpenSpec.ofChange rowVersionsSpec)) rowVersionsCard

/-- THE TIED CARD OF 'deedboxlaw24.RowBuckets'. -/
def rowBucketsCard : Claim7 := { stood := { row := rowBucketsRow, standIns := [], harness := (true, "a9dd78237355231f525e1ad40f36507c7687980aa1fdc6cd1e7bb20f66eb32b8"), looks := false }, kinds := [], alts := [], laidByText := true, laidKinds := [.data, .pinned], laidTests := true, laidLooks := .later }
def RowBucketsCardSaid : Prop := Claim7.holds Tryd.pinned (.plain (OpenSpec.ofChange rowBucketsSpec)) rowBucketsCard

/-- THE TIED CARD OF 'deedboxlaw24.RowUploads'. -/
def rowUploadsCard : Claim7 := { stood := { row := rowUploadsRow, standIns := [], harness := (true, "a9dd78237355231f525e1ad40f36507c7687980aa1fdc6cd1e7bb20f66eb32b8"), looks := false }, kinds := [], alts := [], laidByText := true, laidKinds := [.data, .pinned], laidTests := true, laidLooks := .later }
def RowUploadsCardSaid : Prop := Claim7.holds Tryd.pinned (.plain (OpenSpec.ofChange rowUploadsSpec)) rowUploadsCard

/-- THE TIED CARD OF 'deedboxlaw24.RowPieces'. -/
def rowPiecesCard : Claim7 := { stood := { row := rowPiecesRow, standIns := [], harness := (true, "a9dd78237355231f525e1ad40f36507c7687980aa1fdc6cd1e7bb20f66eb32b8"), looks := false }, kinds := [], alts := [], laidByText := true, laidKinds := [.data, .pinned], laidTests := true, laidLooks := .later }
def RowPiecesCardSaid : Prop := Claim7.holds Tryd.pinned (.plain (OpenSpec.ofChange rowPiecesSpec)) rowPiecesCard

/-- THE SECOND FORM's CARD OF 'deedboxlaw24.RowVersions'. -/
def rowVersionsUptoCard : Claim7 := { stood := { row := rowVersionsUptoRow, standIns := [], harness := (true, "a9dd78237355231f525e1ad40f36507c7687980aa1fdc6cd1e7bb20f66eb32b8"), looks := false }, kinds := [], alts := [], laidByText := true, laidKinds := [.data, .pinned], laidTests := true, laidLooks := .later }
def RowVersionsUptoCardSaid : Prop := Claim7.holds Tryd.pinned (.plain (OpenSpec.upto rowVersionsSpec)) rowVersionsUptoCard

/-- THE SECOND FORM's CARD OF 'deedboxlaw24.RowBuckets'. -/
def rowBucketsUptoCard : Claim7 := { stood := { row := rowBucketsUptoRow, standIns := [], harness := (true, "a9dd78237355231f525e1ad40f36507c7687980aa1fdc6cd1e7bb20f66eb32b8"), looks := false }, kinds := [], alts := [], laidByText := true, laidKinds := [.data, .pinned], laidTests := true, laidLooks := .later }
def RowBucketsUptoCardSaid : Prop := Claim7.holds Tryd.pinned (.plain (OpenSpec.upto rowBucketsSpec)) rowBucketsUptoCard

/-- THE SECOND FORM's CARD OF 'deedboxlaw24.RowUploads'. -/
def rowUploadsUptoCard : Claim7 := { stood := { row := rowUploadsUptoRow, standIns := [], harness := (true, "a9dd78237355231f525e1ad40f36507c7687980aa1fdc6cd1e7bb20f66eb32b8"), looks := false }, kinds := [], alts := [], laidByText := true, laidKinds := [.data, .pinned], laidTests := true, laidLooks := .later }
def RowUploadsUptoCardSaid : Prop := Claim7.holds Tryd.pinned (.plain (OpenSpec.upto rowUploadsSpec)) rowUploadsUptoCard

/-- THE SECOND FORM's CARD OF 'deedboxlaw24.RowPieces'. -/
def rowPiecesUptoCard : Claim7 := { stood := { row := rowPiecesUptoRow, standIns := [], harness := (true, "a9dd78237355231f525e1ad40f36507c7687980aa1fdc6cd1e7bb20f66eb32b8"), looks := false }, kinds := [], alts := [], laidByText := true, laidKinds := [.data, .pinned], laidTests := true, laidLooks := .later }
def RowPiecesUptoCardSaid : Prop := Claim7.holds Tryd.pinned (.plain (OpenSpec.upto rowPiecesSpec)) rowPiecesUptoCard
end Rows
end Go.Proofs.YtmciigdfhikdnaaDoor
