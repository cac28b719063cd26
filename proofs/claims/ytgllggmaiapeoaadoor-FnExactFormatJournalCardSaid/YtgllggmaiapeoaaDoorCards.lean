/-
  DERIVED. GIVEN WITH THE SEED: THE CARDS: each row of YtgllggmaiapeoaaDoorRows.lean that lists a variable, with what it lists TIED to the program's text (the seventh form; the later family's looks); each row that meets fmt, with fmt's text TOLD by the authors' own Lean function (tested against real Go, not proved from fmt's source: count such statements apart). THE CARD IS WHAT COUNTS. Prove the row's statement (the work); the ties are given (YtgllggmaiapeoaaDoorTie.lean); close each card by the builder's one call (the guide's Derived/Test/ToyasCard.lean, 'card_holds'). Laid BY PROGRAM, IN A SANDBOX (cutbox-door.mjs). By AI agents, Wed Nov 11 2026. No macro, syntax, notation, axiom, sorry.
-/
import Derived.Test.YtgllggmaiapeoaaDoorRows
import GoSem.ClaimSeven
namespace Go.Proofs.YtgllggmaiapeoaaDoor
namespace Rows

/-- THE TIED CARD OF 'laws.FnExactFormatEntries'. -/
def fnExactFormatEntriesCard : Claim7 := { stood := { row := fnExactFormatEntriesRow, standIns := [], harness := (true, "abbd1c1cc5849506ffeeab55a33c9d4c9b275f011b5f65e6534fb3995fdd3b8c"), looks := false }, kinds := [], alts := [], laidByText := true, laidKinds := [.data, .data, .data], laidTests := true, laidLooks := .later }
def FnExactFormatEntriesCardSaid : Prop := Claim7.holds Tryd.pinned (.plain (OpenSpec.ofChange fnExactFormatEntriesSpec)) fnExactFormatEntriesCard

/-- THE TIED CARD OF 'laws.FnExactFormatEvent'. -/
def fnExactFormatEventCard : Claim7 := { stood := { row := fnExactFormatEventRow, standIns := [], harness := (true, "abbd1c1cc5849506ffeeab55a33c9d4c9b275f011b5f65e6534fb3995fdd3b8c"), looks := false }, kinds := [], alts := [], laidByText := true, laidKinds := [.data, .data, .data], laidTests := true, laidLooks := .later }
def FnExactFormatEventCardSaid : Prop := Claim7.holds Tryd.pinned (.plain (OpenSpec.ofChange fnExactFormatEventSpec)) fnExactFormatEventCard

/-- THE TIED CARD OF 'laws.FnExactFormatJournal'. -/
def fnExactFormatJournalCard : Claim7 := { stood := { row := fnExactFormatJournalRow, standIns := [], harness := (true, "abbd1c1cc5849506ffeeab55a33c9d4c9b275f011b5f65e6534fb3995fdd3b8c"), looks := false }, kinds := [], alts := [], laidByText := true, laidKinds := [.data, .data, .data], laidTests := true, laidLooks := .later }
def FnExactFormatJournalCardSaid : Prop := Claim7.holds Tryd.pinned (.plain (OpenSpec.ofChange fnExactFormatJournalSpec)) fnExactFormatJournalCard

/-- THE SECOND FORM's CARD OF 'laws.FnExactFormatEntries'. -/
def fnExactFormatEntriesUptoCard : Claim7 := { stood := { row := fnExactFormatEntriesUptoRow, standIns := [], harness := (true, "abbd1c1cc5849506ffeeab55a33c9d4c9b275f011b5f65e6534fb3995fdd3b8c"), looks := false }, kinds := [], alts := [], laidByText := true, laidKinds := [.data, .data, .data], laidTests := true, laidLooks := .later }
def FnExactFormatEntriesUptoCardSaid : Prop := Claim7.holds Tryd.pinned (.plain (OpenSpec.upto fnExactFormatEntriesSpec)) fnExactFormatEntriesUptoCard

/-- THE SECOND FORM's CARD OF 'laws.FnExactFormatEvent'. -/
def fnExactFormatEventUptoCard : Claim7 := { stood := { row := fnExactFormatEventUptoRow, standIns := [], harness := (true, "abbd1c1cc5849506ffeeab55a33c9d4c9b275f011b5f65e6534fb3995fdd3b8c"), looks := false }, kinds := [], alts := [], laidByText := true, laidKinds := [.data, .data, .data], laidTests := true, laidLooks := .later }
def FnExactFormatEventUptoCardSaid : Prop := Claim7.holds Tryd.pinned (.plain (OpenSpec.upto fnExactFormatEventSpec)) fnExactFormatEventUptoCard

/-- THE SECOND FORM's CARD OF 'laws.FnExactFormatJournal'. -/
def fnExactFormatJournalUptoCard : Claim7 := { stood := { row := fnExactFormatJournalUptoRow, standIns := [], harness := (true, "abbd1c1cc5849506ffeeab55a33c9d4c9b275f011b5f65e6534fb3995fdd3b8c"), looks := false }, kinds := [], alts := [], laidByText := true, laidKinds := [.data, .data, .data], laidTests := true, laidLooks := .later }
def FnExactFormatJournalUptoCardSaid : Prop := Claim7.holds Tryd.pinned (.plain (OpenSpec.upto fnExactFormatJournalSpec)) fnExactFormatJournalUptoCard
end Rows
end Go.Proofs.YtgllggmaiapeoaaDoor
