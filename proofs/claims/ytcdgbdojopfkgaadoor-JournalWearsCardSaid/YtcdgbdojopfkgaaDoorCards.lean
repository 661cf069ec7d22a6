/-
  DERIVED. GIVEN WITH THE SEED: THE CARDS: each row of YtcdgbdojopfkgaaDoorRows.lean that lists a variable, with what it lists TIED to the program's text (the seventh form; the later family's looks); each row that meets fmt, with fmt's text TOLD by the authors' own Lean function (tested against real Go, not proved from fmt's source: count such statements apart). THE CARD IS WHAT COUNTS. Prove the row's statement (the work); the ties are given (YtcdgbdojopfkgaaDoorTie.lean); close each card by the builder's one call (the guide's Derived/Test/ToyasCard.lean, 'card_holds'). Laid BY PROGRAM, IN A SANDBOX (cutbox-door.mjs). By AI agents, Wed Nov 11 2026. No macro, syntax, notation, axiom, sorry.
-/
import Derived.Test.YtcdgbdojopfkgaaDoorRows
import GoSem.ClaimSeven
namespace Go.Proofs.YtcdgbdojopfkgaaDoor
namespace Rows

/-- THE TIED CARD OF 'custodylaw25.JournalFull'. -/
def journalFullCard : Claim7 := { stood := { row := journalFullRow, standIns := [], harness := (true, "f7432a900e37da058124685bf9051ec6149657bfc5d8c5334b02b243d931f5d1"), looks := false }, kinds := [], alts := [], laidByText := true, laidKinds := [.data, .pinned], laidTests := true, laidLooks := .later }
def JournalFullCardSaid : Prop := Claim7.holds Tryd.pinned (.plain (OpenSpec.ofChange journalFullSpec)) journalFullCard

/-- THE TIED CARD OF 'custodylaw25.JournalRecovers'. -/
def journalRecoversCard : Claim7 := { stood := { row := journalRecoversRow, standIns := [], harness := (true, "f7432a900e37da058124685bf9051ec6149657bfc5d8c5334b02b243d931f5d1"), looks := false }, kinds := [], alts := [], laidByText := true, laidKinds := [.data, .pinned], laidTests := true, laidLooks := .later }
def JournalRecoversCardSaid : Prop := Claim7.holds Tryd.pinned (.plain (OpenSpec.ofChange journalRecoversSpec)) journalRecoversCard

/-- THE TIED CARD OF 'custodylaw25.JournalWears'. -/
def journalWearsCard : Claim7 := { stood := { row := journalWearsRow, standIns := [], harness := (true, "f7432a900e37da058124685bf9051ec6149657bfc5d8c5334b02b243d931f5d1"), looks := false }, kinds := [], alts := [], laidByText := true, laidKinds := [.data, .pinned], laidTests := true, laidLooks := .later }
def JournalWearsCardSaid : Prop := Claim7.holds Tryd.pinned (.plain (OpenSpec.ofChange journalWearsSpec)) journalWearsCard

/-- THE SECOND FORM's CARD OF 'custodylaw25.JournalFull'. -/
def journalFullUptoCard : Claim7 := { stood := { row := journalFullUptoRow, standIns := [], harness := (true, "f7432a900e37da058124685bf9051ec6149657bfc5d8c5334b02b243d931f5d1"), looks := false }, kinds := [], alts := [], laidByText := true, laidKinds := [.data, .pinned], laidTests := true, laidLooks := .later }
def JournalFullUptoCardSaid : Prop := Claim7.holds Tryd.pinned (.plain (OpenSpec.upto journalFullSpec)) journalFullUptoCard

/-- THE SECOND FORM's CARD OF 'custodylaw25.JournalRecovers'. -/
def journalRecoversUptoCard : Claim7 := { stood := { row := journalRecoversUptoRow, standIns := [], harness := (true, "f7432a900e37da058124685bf9051ec6149657bfc5d8c5334b02b243d931f5d1"), looks := false }, kinds := [], alts := [], laidByText := true, laidKinds := [.data, .pinned], laidTests := true, laidLooks := .later }
def JournalRecoversUptoCardSaid : Prop := Claim7.holds Tryd.pinned (.plain (OpenSpec.upto journalRecoversSpec)) journalRecoversUptoCard

/-- THE SECOND FORM's CARD OF 'custodylaw25.JournalWears'. -/
def journalWearsUptoCard : Claim7 := { stood := { row := journalWearsUptoRow, standIns := [], harness := (true, "f7432a900e37da058124685bf9051ec6149657bfc5d8c5334b02b243d931f5d1"), looks := false }, kinds := [], alts := [], laidByText := true, laidKinds := [.data, .pinned], laidTests := true, laidLooks := .later }
def JournalWearsUptoCardSaid : Prop := Claim7.holds Tryd.pinned (.plain (OpenSpec.upto journalWearsSpec)) journalWearsUptoCard
end Rows
end Go.Proofs.YtcdgbdojopfkgaaDoor
