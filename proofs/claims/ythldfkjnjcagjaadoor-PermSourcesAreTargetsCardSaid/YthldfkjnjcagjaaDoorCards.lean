/-
  DERIVED. GIVEN WITH THE SEED: THE CARDS: each row of YthldfkjnjcagjaaDoorRows.lean that lists a variable, with what it lists TIED to the program's text (the seventh form; the later family's looks); each row that meets fmt, with fmt's text TOLD by the authors' own Lean function (tested against real Go, not proved from fmt's source: count such statements apart). THE CARD IS WHAT COUNTS. Prove the row's statement (the work); the ties are given (YthldfkjnjcagjaaDoorTie.lean); close each card by the builder's one call (the guide's Derived/Test/ToyasCard.lean, 'card_holds'). Laid BY PROGRAM, IN A SANDBOX (cutbox-door.mjs). By AI agents, Wed Nov 11 2026. No macro, syntax, notation, axiom, sorry.
-/
import Derived.Test.YthldfkjnjcagjaaDoorRows
import GoSem.ClaimSeven
namespace Go.Proofs.YthldfkjnjcagjaaDoor
namespace Rows

/-- THE TIED CARD OF 'custodylaw14.PermTypesMatchSpec'. -/
def permTypesMatchSpecCard : Claim7 := { stood := { row := permTypesMatchSpecRow, standIns := [], harness := (true, "bfb226df4d857bce8f585921117d0e2dd07ce5c76ccc9dc5a913bacc529f1d4c"), looks := false }, kinds := [], alts := [], laidByText := true, laidKinds := [.data], laidTests := true, laidLooks := .later }
def PermTypesMatchSpecCardSaid : Prop := Claim7.holds Tryd.pinned (.plain (OpenSpec.ofChange permTypesMatchSpecSpec)) permTypesMatchSpecCard

/-- THE TIED CARD OF 'custodylaw14.PermRulesMatchSpec'. -/
def permRulesMatchSpecCard : Claim7 := { stood := { row := permRulesMatchSpecRow, standIns := [], harness := (true, "bfb226df4d857bce8f585921117d0e2dd07ce5c76ccc9dc5a913bacc529f1d4c"), looks := false }, kinds := [], alts := [], laidByText := true, laidKinds := [.data], laidTests := true, laidLooks := .later }
def PermRulesMatchSpecCardSaid : Prop := Claim7.holds Tryd.pinned (.plain (OpenSpec.ofChange permRulesMatchSpecSpec)) permRulesMatchSpecCard

/-- THE TIED CARD OF 'custodylaw14.PermGrantMatchesSpec'. -/
def permGrantMatchesSpecCard : Claim7 := { stood := { row := permGrantMatchesSpecRow, standIns := [], harness := (true, "bfb226df4d857bce8f585921117d0e2dd07ce5c76ccc9dc5a913bacc529f1d4c"), looks := false }, kinds := [], alts := [], laidByText := true, laidKinds := [.data], laidTests := true, laidLooks := .later }
def PermGrantMatchesSpecCardSaid : Prop := Claim7.holds Tryd.pinned (.plain (OpenSpec.ofChange permGrantMatchesSpecSpec)) permGrantMatchesSpecCard

/-- THE TIED CARD OF 'custodylaw14.PermSourcesAreTargets'. -/
def permSourcesAreTargetsCard : Claim7 := { stood := { row := permSourcesAreTargetsRow, standIns := [], harness := (true, "bfb226df4d857bce8f585921117d0e2dd07ce5c76ccc9dc5a913bacc529f1d4c"), looks := false }, kinds := [], alts := [], laidByText := true, laidKinds := [.data], laidTests := true, laidLooks := .later }
def PermSourcesAreTargetsCardSaid : Prop := Claim7.holds Tryd.pinned (.plain (OpenSpec.ofChange permSourcesAreTargetsSpec)) permSourcesAreTargetsCard

/-- THE TIED CARD OF 'custodylaw14.PermGrantNarrows'. -/
def permGrantNarrowsCard : Claim7 := { stood := { row := permGrantNarrowsRow, standIns := [], harness := (true, "bfb226df4d857bce8f585921117d0e2dd07ce5c76ccc9dc5a913bacc529f1d4c"), looks := false }, kinds := [], alts := [], laidByText := true, laidKinds := [.data], laidTests := true, laidLooks := .later }
def PermGrantNarrowsCardSaid : Prop := Claim7.holds Tryd.pinned (.plain (OpenSpec.ofChange permGrantNarrowsSpec)) permGrantNarrowsCard

/-- THE TIED CARD OF 'custodylaw14.PermRulesAddUses'. -/
def permRulesAddUsesCard : Claim7 := { stood := { row := permRulesAddUsesRow, standIns := [], harness := (true, "bfb226df4d857bce8f585921117d0e2dd07ce5c76ccc9dc5a913bacc529f1d4c"), looks := false }, kinds := [], alts := [], laidByText := true, laidKinds := [.data], laidTests := true, laidLooks := .later }
def PermRulesAddUsesCardSaid : Prop := Claim7.holds Tryd.pinned (.plain (OpenSpec.ofChange permRulesAddUsesSpec)) permRulesAddUsesCard

/-- THE SECOND FORM's CARD OF 'custodylaw14.PermTypesMatchSpec'. -/
def permTypesMatchSpecUptoCard : Claim7 := { stood := { row := permTypesMatchSpecUptoRow, standIns := [], harness := (true, "bfb226df4d857bce8f585921117d0e2dd07ce5c76ccc9dc5a913bacc529f1d4c"), looks := false }, kinds := [], alts := [], laidByText := true, laidKinds := [.data], laidTests := true, laidLooks := .later }
def PermTypesMatchSpecUptoCardSaid : Prop := Claim7.holds Tryd.pinned (.plain (OpenSpec.upto permTypesMatchSpecSpec)) permTypesMatchSpecUptoCard

/-- THE SECOND FORM's CARD OF 'custodylaw14.PermRulesMatchSpec'. -/
def permRulesMatchSpecUptoCard : Claim7 := { stood := { row := permRulesMatchSpecUptoRow, standIns := [], harness := (true, "bfb226df4d857bce8f585921117d0e2dd07ce5c76ccc9dc5a913bacc529f1d4c"), looks := false }, kinds := [], alts := [], laidByText := true, laidKinds := [.data], laidTests := true, laidLooks := .later }
def PermRulesMatchSpecUptoCardSaid : Prop := Claim7.holds Tryd.pinned (.plain (OpenSpec.upto permRulesMatchSpecSpec)) permRulesMatchSpecUptoCard

/-- THE SECOND FORM's CARD OF 'custodylaw14.PermGrantMatchesSpec'. -/
def permGrantMatchesSpecUptoCard : Claim7 := { stood := { row := permGrantMatchesSpecUptoRow, standIns := [], harness := (true, "bfb226df4d857bce8f585921117d0e2dd07ce5c76ccc9dc5a913bacc529f1d4c"), looks := false }, kinds := [], alts := [], laidByText := true, laidKinds := [.data], laidTests := true, laidLooks := .later }
def PermGrantMatchesSpecUptoCardSaid : Prop := Claim7.holds Tryd.pinned (.plain (OpenSpec.upto permGrantMatchesSpecSpec)) permGrantMatchesSpecUptoCard

/-- THE SECOND FORM's CARD OF 'custodylaw14.PermSourcesAreTargets'. -/
def permSourcesAreTargetsUptoCard : Claim7 := { stood := { row := permSourcesAreTargetsUptoRow, standIns := [], harness := (true, "bfb226df4d857bce8f585921117d0e2dd07ce5c76ccc9dc5a913bacc529f1d4c"), looks := false }, kinds := [], alts := [], laidByText := true, laidKinds := [.data], laidTests := true, laidLooks := .later }
def PermSourcesAreTargetsUptoCardSaid : Prop := Claim7.holds Tryd.pinned (.plain (OpenSpec.upto permSourcesAreTargetsSpec)) permSourcesAreTargetsUptoCard

/-- THE SECOND FORM's CARD OF 'custodylaw14.PermGrantNarrows'. -/
def permGrantNarrowsUptoCard : Claim7 := { stood := { row := permGrantNarrowsUptoRow, standIns := [], harness := (true, "bfb226df4d857bce8f585921117d0e2dd07ce5c76ccc9dc5a913bacc529f1d4c"), looks := false }, kinds := [], alts := [], laidByText := true, laidKinds := [.data], laidTests := true, laidLooks := .later }
def PermGrantNarrowsUptoCardSaid : Prop := Claim7.holds Tryd.pinned (.plain (OpenSpec.upto permGrantNarrowsSpec)) permGrantNarrowsUptoCard

/-- THE SECOND FORM's CARD OF 'custodylaw14.PermRulesAddUses'. -/
def permRulesAddUsesUptoCard : Claim7 := { stood := { row := permRulesAddUsesUptoRow, standIns := [], harness := (true, "bfb226df4d857bce8f585921117d0e2dd07ce5c76ccc9dc5a913bacc529f1d4c"), looks := false }, kinds := [], alts := [], laidByText := true, laidKinds := [.data], laidTests := true, laidLooks := .later }
def PermRulesAddUsesUptoCardSaid : Prop := Claim7.holds Tryd.pinned (.plain (OpenSpec.upto permRulesAddUsesSpec)) permRulesAddUsesUptoCard
end Rows
end Go.Proofs.YthldfkjnjcagjaaDoor
