/-
  NARROWER THAN 'FOR EVERY INPUT', by the rows' own cells (each row's printed sentence says how): SectorMatchesSpec: laid · SectorJoinMatchesSpec: laid · SectorRoundTrip: laid · SectorInjective: laid · SectorTorn: laid · SectorMixed: laid.
  DERIVED. THE GIVEN ROWS OF THIS SEAT. 6 by the template 'for every input the law returns true; each argument reads behind the call as it read before'; 0 by the template 'total and deterministic' (their statements: YtfdhnpdppkcdeaaDoorTotals.lean).
  GIVEN WITH THE SEED: the statements are not yours to turn. If you find one false, say at which input.
  Laid BY PROGRAM, IN A SANDBOX (cutbox-rows.mjs): the forced cells as the released guide's own fill.sh prints them over the translation 4b9dcfad037575e3… (all of the seat's roots in one cut). By AI agents, Wed Nov 11 2026. No macro, syntax, notation, axiom, sorry.
-/
import Derived.Test.YtfdhnpdppkcdeaaDoorChecked
import GoSem.PinnedTables
import GoSem.Claim
import GoSem.ClaimJoined
import GoSem.ClaimMapViews
import Derived.JoinedTies
import Derived.KernelRfl
namespace Go.Proofs.YtfdhnpdppkcdeaaDoor
/- THE CELL 'sum', in the pinned program and in every row, IS THE sha256 OF THE DUMP (.gsa) THAT YtfdhnpdppkcdeaaDoorProg.lean LOADS. Nothing in Lean hashes anything: it is a label: what it is worth is what the hold of that sum in a sandbox is worth. -/
noncomputable def Tryd.pinned : Pinned := { name := "ytfdhnpdppkcdeaadoor", sum := "4b9dcfad037575e372a9783b2944d8bef0e3fcc64a0202ab86289e0e624fbbc1", checked := Tryd.checked }
namespace Rows
def none {H : Type} : Left H := { results := [], args := [] }

/- WHAT THE LISTED PACKAGE-LEVEL VARIABLES READ AS WHEN THE CALL BEGINS. Each datum BY PROGRAM (the guide's laid-datum.mjs) off the statement by which the dump's own 'gosem.cut.vars' lays the variable. In a bare row this is a premise. The card (YtfdhnpdppkcdeaaDoorCards.lean) ties it to the program's text. -/
def laid_unicode_utf8_acceptRanges {H : Type} : DataW H := .agg [.agg [.lit (.int .u8 128), .lit (.int .u8 191)], .agg [.lit (.int .u8 160), .lit (.int .u8 191)], .agg [.lit (.int .u8 128), .lit (.int .u8 159)], .agg [.lit (.int .u8 144), .lit (.int .u8 191)], .agg [.lit (.int .u8 128), .lit (.int .u8 143)], .agg [.lit (.int .u8 0), .lit (.int .u8 0)], .agg [.lit (.int .u8 0), .lit (.int .u8 0)], .agg [.lit (.int .u8 0), .lit (.int .u8 0)], .agg [.lit (.int .u8 0), .lit (.int .u8 0)], .agg [.lit (.int .u8 0), .lit (.int .u8 0)], .agg [.lit (.int .u8 0), .lit (.int .u8 0)], .agg [.lit (.int .u8 0), .lit (.int .u8 0)], .agg [.lit (.int .u8 0), .lit (.int .u8 0)], .agg [.lit (.int .u8 0), .lit (.int .u8 0)], .agg [.lit (.int .u8 0), .lit (.int .u8 0)], .agg [.lit (.int .u8 0), .lit (.int .u8 0)]]
/-- One of Go's own tables, pinned by name: the form's constant. -/
def laid_unicode_utf8_first : DataW Unit := Go.Pinned.utf8First

/-- 'custodylaw24.SectorMatchesSpec': WHATEVER THE INPUT: true; the input reads as it did. -/
def sectorMatchesSpecSpec : ChangeSpec := { name := "sectorMatchesSpec", fn := fun _ => fun
  | [d1, d2, d3, d4] => { results := [.lit (.bool true)], args := [d1, d2, d3, d4] }
  | _ => none }
def sectorMatchesSpecRow : OpenClaim := { program := "ytfdhnpdppkcdeaadoor", sum := "4b9dcfad037575e372a9783b2944d8bef0e3fcc64a0202ab86289e0e624fbbc1", func := "custody/custodylaw24.SectorMatchesSpec", spec := "sectorMatchesSpec", inPlace := ["internal/bytealg.IndexByteString", "internal/bytealg.IndexString", "internal/abi.NoEscape"], unfollowed := true, recurses := true, named := ["unicode/utf8.first", "unicode/utf8.acceptRanges", "internal/bytealg.MaxLen"], apart := false, laid := [("unicode/utf8.acceptRanges", laid_unicode_utf8_acceptRanges), ("unicode/utf8.first", laid_unicode_utf8_first)] }
def SectorMatchesSpecSaid : Prop := sectorMatchesSpecRow.holds Tryd.pinned (OpenSpec.ofChange sectorMatchesSpecSpec)

/-- ITS FALSE NEIGHBOUR: 'it returns false'. Refute it at one input. -/
def sectorMatchesSpecWrong : ChangeSpec := { name := "sectorMatchesSpec", fn := fun _ => fun
  | [d1, d2, d3, d4] => { results := [.lit (.bool false)], args := [d1, d2, d3, d4] }
  | _ => none }
def SectorMatchesSpecWrongFalsely : Prop := sectorMatchesSpecRow.holds Tryd.pinned (OpenSpec.ofChange sectorMatchesSpecWrong)

/-- 'custodylaw24.SectorJoinMatchesSpec': WHATEVER THE INPUT: true; the input reads as it did. -/
def sectorJoinMatchesSpecSpec : ChangeSpec := { name := "sectorJoinMatchesSpec", fn := fun _ => fun
  | [d] => { results := [.lit (.bool true)], args := [d] }
  | _ => none }
def sectorJoinMatchesSpecRow : OpenClaim := { program := "ytfdhnpdppkcdeaadoor", sum := "4b9dcfad037575e372a9783b2944d8bef0e3fcc64a0202ab86289e0e624fbbc1", func := "custody/custodylaw24.SectorJoinMatchesSpec", spec := "sectorJoinMatchesSpec", inPlace := ["internal/bytealg.IndexByteString", "internal/bytealg.IndexString", "internal/abi.NoEscape"], unfollowed := true, recurses := true, named := ["unicode/utf8.first", "unicode/utf8.acceptRanges", "internal/bytealg.MaxLen"], apart := false, laid := [("unicode/utf8.acceptRanges", laid_unicode_utf8_acceptRanges), ("unicode/utf8.first", laid_unicode_utf8_first)] }
def SectorJoinMatchesSpecSaid : Prop := sectorJoinMatchesSpecRow.holds Tryd.pinned (OpenSpec.ofChange sectorJoinMatchesSpecSpec)

/-- ITS FALSE NEIGHBOUR: 'it returns false'. Refute it at one input. -/
def sectorJoinMatchesSpecWrong : ChangeSpec := { name := "sectorJoinMatchesSpec", fn := fun _ => fun
  | [d] => { results := [.lit (.bool false)], args := [d] }
  | _ => none }
def SectorJoinMatchesSpecWrongFalsely : Prop := sectorJoinMatchesSpecRow.holds Tryd.pinned (OpenSpec.ofChange sectorJoinMatchesSpecWrong)

/-- 'custodylaw24.SectorRoundTrip': WHATEVER THE INPUT: true; the input reads as it did. -/
def sectorRoundTripSpec : ChangeSpec := { name := "sectorRoundTrip", fn := fun _ => fun
  | [d1, d2, d3] => { results := [.lit (.bool true)], args := [d1, d2, d3] }
  | _ => none }
def sectorRoundTripRow : OpenClaim := { program := "ytfdhnpdppkcdeaadoor", sum := "4b9dcfad037575e372a9783b2944d8bef0e3fcc64a0202ab86289e0e624fbbc1", func := "custody/custodylaw24.SectorRoundTrip", spec := "sectorRoundTrip", inPlace := ["internal/bytealg.IndexByteString", "internal/bytealg.IndexString", "internal/abi.NoEscape"], unfollowed := true, recurses := true, named := ["unicode/utf8.first", "unicode/utf8.acceptRanges", "internal/bytealg.MaxLen"], apart := false, laid := [("unicode/utf8.acceptRanges", laid_unicode_utf8_acceptRanges), ("unicode/utf8.first", laid_unicode_utf8_first)] }
def SectorRoundTripSaid : Prop := sectorRoundTripRow.holds Tryd.pinned (OpenSpec.ofChange sectorRoundTripSpec)

/-- ITS FALSE NEIGHBOUR: 'it returns false'. Refute it at one input. -/
def sectorRoundTripWrong : ChangeSpec := { name := "sectorRoundTrip", fn := fun _ => fun
  | [d1, d2, d3] => { results := [.lit (.bool false)], args := [d1, d2, d3] }
  | _ => none }
def SectorRoundTripWrongFalsely : Prop := sectorRoundTripRow.holds Tryd.pinned (OpenSpec.ofChange sectorRoundTripWrong)

/-- 'custodylaw24.SectorInjective': WHATEVER THE INPUT: true; the input reads as it did. -/
def sectorInjectiveSpec : ChangeSpec := { name := "sectorInjective", fn := fun _ => fun
  | [d1, d2, d3, d4] => { results := [.lit (.bool true)], args := [d1, d2, d3, d4] }
  | _ => none }
def sectorInjectiveRow : OpenClaim := { program := "ytfdhnpdppkcdeaadoor", sum := "4b9dcfad037575e372a9783b2944d8bef0e3fcc64a0202ab86289e0e624fbbc1", func := "custody/custodylaw24.SectorInjective", spec := "sectorInjective", inPlace := ["internal/bytealg.IndexByteString", "internal/bytealg.IndexString", "internal/abi.NoEscape"], unfollowed := true, recurses := true, named := ["unicode/utf8.first", "unicode/utf8.acceptRanges", "internal/bytealg.MaxLen"], apart := false, laid := [("unicode/utf8.acceptRanges", laid_unicode_utf8_acceptRanges), ("unicode/utf8.first", laid_unicode_utf8_first)] }
def SectorInjectiveSaid : Prop := sectorInjectiveRow.holds Tryd.pinned (OpenSpec.ofChange sectorInjectiveSpec)

/-- ITS FALSE NEIGHBOUR: 'it returns false'. Refute it at one input. -/
def sectorInjectiveWrong : ChangeSpec := { name := "sectorInjective", fn := fun _ => fun
  | [d1, d2, d3, d4] => { results := [.lit (.bool false)], args := [d1, d2, d3, d4] }
  | _ => none }
def SectorInjectiveWrongFalsely : Prop := sectorInjectiveRow.holds Tryd.pinned (OpenSpec.ofChange sectorInjectiveWrong)

/-- 'custodylaw24.SectorTorn': WHATEVER THE INPUT: true; the input reads as it did. -/
def sectorTornSpec : ChangeSpec := { name := "sectorTorn", fn := fun _ => fun
  | [d1, d2, d3, d4] => { results := [.lit (.bool true)], args := [d1, d2, d3, d4] }
  | _ => none }
def sectorTornRow : OpenClaim := { program := "ytfdhnpdppkcdeaadoor", sum := "4b9dcfad037575e372a9783b2944d8bef0e3fcc64a0202ab86289e0e624fbbc1", func := "custody/custodylaw24.SectorTorn", spec := "sectorTorn", inPlace := ["internal/bytealg.IndexByteString", "internal/bytealg.IndexString", "internal/abi.NoEscape"], unfollowed := true, recurses := true, named := ["unicode/utf8.first", "unicode/utf8.acceptRanges", "internal/bytealg.MaxLen"], apart := false, laid := [("unicode/utf8.acceptRanges", laid_unicode_utf8_acceptRanges), ("unicode/utf8.first", laid_unicode_utf8_first)] }
def SectorTornSaid : Prop := sectorTornRow.holds Tryd.pinned (OpenSpec.ofChange sectorTornSpec)

/-- ITS FALSE NEIGHBOUR: 'it returns false'. Refute it at one input. -/
def sectorTornWrong : ChangeSpec := { name := "sectorTorn", fn := fun _ => fun
  | [d1, d2, d3, d4] => { results := [.lit (.bool false)], args := [d1, d2, d3, d4] }
  | _ => none }
def SectorTornWrongFalsely : Prop := sectorTornRow.holds Tryd.pinned (OpenSpec.ofChange sectorTornWrong)

/-- 'custodylaw24.SectorMixed': WHATEVER THE INPUT: true; the input reads as it did. -/
def sectorMixedSpec : ChangeSpec := { name := "sectorMixed", fn := fun _ => fun
  | [d1, d2, d3, d4, d5] => { results := [.lit (.bool true)], args := [d1, d2, d3, d4, d5] }
  | _ => none }
def sectorMixedRow : OpenClaim := { program := "ytfdhnpdppkcdeaadoor", sum := "4b9dcfad037575e372a9783b2944d8bef0e3fcc64a0202ab86289e0e624fbbc1", func := "custody/custodylaw24.SectorMixed", spec := "sectorMixed", inPlace := ["internal/bytealg.IndexByteString", "internal/bytealg.IndexString", "internal/abi.NoEscape"], unfollowed := true, recurses := true, named := ["unicode/utf8.first", "unicode/utf8.acceptRanges", "internal/bytealg.MaxLen"], apart := false, laid := [("unicode/utf8.acceptRanges", laid_unicode_utf8_acceptRanges), ("unicode/utf8.first", laid_unicode_utf8_first)] }
def SectorMixedSaid : Prop := sectorMixedRow.holds Tryd.pinned (OpenSpec.ofChange sectorMixedSpec)

/-- ITS FALSE NEIGHBOUR: 'it returns false'. Refute it at one input. -/
def sectorMixedWrong : ChangeSpec := { name := "sectorMixed", fn := fun _ => fun
  | [d1, d2, d3, d4, d5] => { results := [.lit (.bool false)], args := [d1, d2, d3, d4, d5] }
  | _ => none }
def SectorMixedWrongFalsely : Prop := sectorMixedRow.holds Tryd.pinned (OpenSpec.ofChange sectorMixedWrong)

/- THE SECOND FORM. 'bulk': how many values and letters a reading holds, each counted each time it is reached (what is shared counts as often as it is met; a slice's spare places count too). A statement '..UptoSaid' is the law's where the arguments, and the package variables that the reading takes, are together of bulk at most 1048576: NARROWER than '..Said'. Prove '..Said' where nothing that the law and all that it calls make is longer than what came in: it says more and counts as full. Else prove '..UptoSaid'. A law counts once. -/
mutual
def uptoBulk {H : Type} : DataW H → Nat
  | .lit (.string bytes) => bytes.length + 1
  | .lit _ => 1
  | .nil => 1
  | .ptr d => uptoBulk d + 1
  | .slice elems spare => uptoBulkAll elems + uptoBulkAll spare + 1
  | .agg parts => uptoBulkAll parts + 1
  | .iface _ d => uptoBulk d + 1
  | .map entries => uptoBulkEntries entries + 1
  | .held _ => 1
def uptoBulkAll {H : Type} : List (DataW H) → Nat
  | [] => 0
  | d :: r => uptoBulk d + uptoBulkAll r
def uptoBulkEntries {H : Type} : List (Lit × DataW H) → Nat
  | [] => 0
  | x :: r => uptoBulkEntry x + uptoBulkEntries r
def uptoBulkEntry {H : Type} : Lit × DataW H → Nat
  | (.string bytes, d) => bytes.length + uptoBulk d + 1
  | (_, d) => uptoBulk d + 1
 end
def uptoSmall : (H : Type) → List (DataW H) → Bool := fun _ ds => decide (uptoBulkAll ds ≤ 1048576)
def OpenSpec.upto (s : _root_.Go.ChangeSpec) : _root_.Go.OpenSpec := { _root_.Go.OpenSpec.ofChange s with cond := some uptoSmall }

/-- 'custodylaw24.SectorMatchesSpec', WHERE WHAT IT READS IS OF BULK AT MOST 1048576: true; the input reads as it did. -/
def sectorMatchesSpecUptoRow : OpenClaim := { program := "ytfdhnpdppkcdeaadoor", sum := "4b9dcfad037575e372a9783b2944d8bef0e3fcc64a0202ab86289e0e624fbbc1", func := "custody/custodylaw24.SectorMatchesSpec", spec := "sectorMatchesSpec", inPlace := ["internal/bytealg.IndexByteString", "internal/bytealg.IndexString", "internal/abi.NoEscape"], unfollowed := true, recurses := true, named := ["unicode/utf8.first", "unicode/utf8.acceptRanges", "internal/bytealg.MaxLen"], apart := false, laid := [("unicode/utf8.acceptRanges", laid_unicode_utf8_acceptRanges), ("unicode/utf8.first", laid_unicode_utf8_first)], narrowed := true }
def SectorMatchesSpecUptoSaid : Prop := sectorMatchesSpecUptoRow.holds Tryd.pinned (OpenSpec.upto sectorMatchesSpecSpec)

/-- 'custodylaw24.SectorJoinMatchesSpec', WHERE WHAT IT READS IS OF BULK AT MOST 1048576: true; the input reads as it did. -/
def sectorJoinMatchesSpecUptoRow : OpenClaim := { program := "ytfdhnpdppkcdeaadoor", sum := "4b9dcfad037575e372a9783b2944d8bef0e3fcc64a0202ab86289e0e624fbbc1", func := "custody/custodylaw24.SectorJoinMatchesSpec", spec := "sectorJoinMatchesSpec", inPlace := ["internal/bytealg.IndexByteString", "internal/bytealg.IndexString", "internal/abi.NoEscape"], unfollowed := true, recurses := true, named := ["unicode/utf8.first", "unicode/utf8.acceptRanges", "internal/bytealg.MaxLen"], apart := false, laid := [("unicode/utf8.acceptRanges", laid_unicode_utf8_acceptRanges), ("unicode/utf8.first", laid_unicode_utf8_first)], narrowed := true }
def SectorJoinMatchesSpecUptoSaid : Prop := sectorJoinMatchesSpecUptoRow.holds Tryd.pinned (OpenSpec.upto sectorJoinMatchesSpecSpec)

/-- 'custodylaw24.SectorRoundTrip', WHERE WHAT IT READS IS OF BULK AT MOST 1048576: true; the input reads as it did. -/
def sectorRoundTripUptoRow : OpenClaim := { program := "ytfdhnpdppkcdeaadoor", sum := "4b9dcfad037575e372a9783b2944d8bef0e3fcc64a0202ab86289e0e624fbbc1", func := "custody/custodylaw24.SectorRoundTrip", spec := "sectorRoundTrip", inPlace := ["internal/bytealg.IndexByteString", "internal/bytealg.IndexString", "internal/abi.NoEscape"], unfollowed := true, recurses := true, named := ["unicode/utf8.first", "unicode/utf8.acceptRanges", "internal/bytealg.MaxLen"], apart := false, laid := [("unicode/utf8.acceptRanges", laid_unicode_utf8_acceptRanges), ("unicode/utf8.first", laid_unicode_utf8_first)], narrowed := true }
def SectorRoundTripUptoSaid : Prop := sectorRoundTripUptoRow.holds Tryd.pinned (OpenSpec.upto sectorRoundTripSpec)

/-- 'custodylaw24.SectorInjective', WHERE WHAT IT READS IS OF BULK AT MOST 1048576: true; the input reads as it did. -/
def sectorInjectiveUptoRow : OpenClaim := { program := "ytfdhnpdppkcdeaadoor", sum := "4b9dcfad037575e372a9783b2944d8bef0e3fcc64a0202ab86289e0e624fbbc1", func := "custody/custodylaw24.SectorInjective", spec := "sectorInjective", inPlace := ["internal/bytealg.IndexByteString", "internal/bytealg.IndexString", "internal/abi.NoEscape"], unfollowed := true, recurses := true, named := ["unicode/utf8.first", "unicode/utf8.acceptRanges", "internal/bytealg.MaxLen"], apart := false, laid := [("unicode/utf8.acceptRanges", laid_unicode_utf8_acceptRanges), ("unicode/utf8.first", laid_unicode_utf8_first)], narrowed := true }
def SectorInjectiveUptoSaid : Prop := sectorInjectiveUptoRow.holds Tryd.pinned (OpenSpec.upto sectorInjectiveSpec)

/-- 'custodylaw24.SectorTorn', WHERE WHAT IT READS IS OF BULK AT MOST 1048576: true; the input reads as it did. -/
def sectorTornUptoRow : OpenClaim := { program := "ytfdhnpdppkcdeaadoor", sum := "4b9dcfad037575e372a9783b2944d8bef0e3fcc64a0202ab86289e0e624fbbc1", func := "custody/custodylaw24.SectorTorn", spec := "sectorTorn", inPlace := ["internal/bytealg.IndexByteString", "internal/bytealg.IndexString", "internal/abi.NoEscape"], unfollowed := true, recurses := true, named := ["unicode/utf8.first", "unicode/utf8.acceptRanges", "internal/bytealg.MaxLen"], apart := false, laid := [("unicode/utf8.acceptRanges", laid_unicode_utf8_acceptRanges), ("unicode/utf8.first", laid_unicode_utf8_first)], narrowed := true }
def SectorTornUptoSaid : Prop := sectorTornUptoRow.holds Tryd.pinned (OpenSpec.upto sectorTornSpec)

/-- 'custodylaw24.SectorMixed', WHERE WHAT IT READS IS OF BULK AT MOST 1048576: true; the input reads as it did. -/
def sectorMixedUptoRow : OpenClaim := { program := "ytfdhnpdppkcdeaadoor", sum := "4b9dcfad037575e372a9783b2944d8bef0e3fcc64a0202ab86289e0e624fbbc1", func := "custody/custodylaw24.SectorMixed", spec := "sectorMixed", inPlace := ["internal/bytealg.IndexByteString", "internal/bytealg.IndexString", "internal/abi.NoEscape"], unfollowed := true, recurses := true, named := ["unicode/utf8.first", "unicode/utf8.acceptRanges", "internal/bytealg.MaxLen"], apart := false, laid := [("unicode/utf8.acceptRanges", laid_unicode_utf8_acceptRanges), ("unicode/utf8.first", laid_unicode_utf8_first)], narrowed := true }
def SectorMixedUptoSaid : Prop := sectorMixedUptoRow.holds Tryd.pinned (OpenSpec.upto sectorMixedSpec)

end Rows
end Go.Proofs.YtfdhnpdppkcdeaaDoor
