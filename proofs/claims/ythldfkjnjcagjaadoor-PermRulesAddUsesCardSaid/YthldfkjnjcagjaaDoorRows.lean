/-
  NARROWER THAN 'FOR EVERY INPUT', by the rows' own cells (each row's printed sentence says how): PermTypesMatchSpec: laid · PermRulesMatchSpec: laid · PermGrantMatchesSpec: laid · PermSourcesAreTargets: laid · PermGrantNarrows: laid · PermRulesAddUses: laid.
  DERIVED. THE GIVEN ROWS OF THIS SEAT. 6 by the template 'for every input the law returns true; each argument reads behind the call as it read before'; 0 by the template 'total and deterministic' (their statements: YthldfkjnjcagjaaDoorTotals.lean).
  GIVEN WITH THE SEED: the statements are not yours to turn. If you find one false, say at which input.
  Laid BY PROGRAM, IN A SANDBOX (cutbox-rows.mjs): the forced cells as the released guide's own fill.sh prints them over the translation 7e9a402d8a8a2c9f… (all of the seat's roots in one cut). By AI agents, Wed Nov 11 2026. No macro, syntax, notation, axiom, sorry.
-/
import Derived.Test.YthldfkjnjcagjaaDoorChecked
import GoSem.Claim
import GoSem.ClaimJoined
import GoSem.ClaimMapViews
import Derived.JoinedTies
import Derived.KernelRfl
namespace Go.Proofs.YthldfkjnjcagjaaDoor
/- THE CELL 'sum', in the pinned program and in every row, IS THE sha256 OF THE DUMP (.gsa) THAT YthldfkjnjcagjaaDoorProg.lean LOADS. Nothing in Lean hashes anything: it is a label: what it is worth is what the hold of that sum in a sandbox is worth. -/
noncomputable def Tryd.pinned : Pinned := { name := "ythldfkjnjcagjaadoor", sum := "7e9a402d8a8a2c9fc431693ff9326576b2c16d04374e2f36ae2876ad699f6bd2", checked := Tryd.checked }
namespace Rows
def none {H : Type} : Left H := { results := [], args := [] }

/- WHAT THE LISTED PACKAGE-LEVEL VARIABLES READ AS WHEN THE CALL BEGINS. Each datum BY PROGRAM (the guide's laid-datum.mjs) off the statement by which the dump's own 'gosem.cut.vars' lays the variable. In a bare row this is a premise. The card (YthldfkjnjcagjaaDoorCards.lean) ties it to the program's text. -/
def laid_custody_perm_byRule {H : Type} : DataW H := .agg [.agg [.lit (.int .i64 1), .lit (.int .i64 128), .lit (.int .i64 512)], .agg [.lit (.int .i64 2), .lit (.int .i64 128), .lit (.int .i64 0)], .agg [.lit (.int .i64 3), .lit (.int .i64 128), .lit (.int .i64 512)], .agg [.lit (.int .i64 4), .lit (.int .i64 128), .lit (.int .i64 0)], .agg [.lit (.int .i64 5), .lit (.int .i64 256), .lit (.int .i64 0)]]

/-- 'custodylaw14.PermTypesMatchSpec': WHATEVER THE INPUT: true; the input reads as it did. -/
def permTypesMatchSpecSpec : ChangeSpec := { name := "permTypesMatchSpec", fn := fun _ => fun
  | [d1, d2, d3] => { results := [.lit (.bool true)], args := [d1, d2, d3] }
  | _ => none }
def permTypesMatchSpecRow : OpenClaim := { program := "ythldfkjnjcagjaadoor", sum := "7e9a402d8a8a2c9fc431693ff9326576b2c16d04374e2f36ae2876ad699f6bd2", func := "custody/custodylaw14.PermTypesMatchSpec", spec := "permTypesMatchSpec", unfollowed := true, recurses := true, named := ["custody/perm.byRule"], apart := false, laid := [("custody/perm.byRule", laid_custody_perm_byRule)] }
def PermTypesMatchSpecSaid : Prop := permTypesMatchSpecRow.holds Tryd.pinned (OpenSpec.ofChange permTypesMatchSpecSpec)

/-- ITS FALSE NEIGHBOUR: 'it returns false'. Refute it at one input. -/
def permTypesMatchSpecWrong : ChangeSpec := { name := "permTypesMatchSpec", fn := fun _ => fun
  | [d1, d2, d3] => { results := [.lit (.bool false)], args := [d1, d2, d3] }
  | _ => none }
def PermTypesMatchSpecWrongFalsely : Prop := permTypesMatchSpecRow.holds Tryd.pinned (OpenSpec.ofChange permTypesMatchSpecWrong)

/-- 'custodylaw14.PermRulesMatchSpec': WHATEVER THE INPUT: true; the input reads as it did. -/
def permRulesMatchSpecSpec : ChangeSpec := { name := "permRulesMatchSpec", fn := fun _ => fun
  | [d1, d2] => { results := [.lit (.bool true)], args := [d1, d2] }
  | _ => none }
def permRulesMatchSpecRow : OpenClaim := { program := "ythldfkjnjcagjaadoor", sum := "7e9a402d8a8a2c9fc431693ff9326576b2c16d04374e2f36ae2876ad699f6bd2", func := "custody/custodylaw14.PermRulesMatchSpec", spec := "permRulesMatchSpec", unfollowed := true, recurses := true, named := ["custody/perm.byRule"], apart := false, laid := [("custody/perm.byRule", laid_custody_perm_byRule)] }
def PermRulesMatchSpecSaid : Prop := permRulesMatchSpecRow.holds Tryd.pinned (OpenSpec.ofChange permRulesMatchSpecSpec)

/-- ITS FALSE NEIGHBOUR: 'it returns false'. Refute it at one input. -/
def permRulesMatchSpecWrong : ChangeSpec := { name := "permRulesMatchSpec", fn := fun _ => fun
  | [d1, d2] => { results := [.lit (.bool false)], args := [d1, d2] }
  | _ => none }
def PermRulesMatchSpecWrongFalsely : Prop := permRulesMatchSpecRow.holds Tryd.pinned (OpenSpec.ofChange permRulesMatchSpecWrong)

/-- 'custodylaw14.PermGrantMatchesSpec': WHATEVER THE INPUT: true; the input reads as it did. -/
def permGrantMatchesSpecSpec : ChangeSpec := { name := "permGrantMatchesSpec", fn := fun _ => fun
  | [d1, d2] => { results := [.lit (.bool true)], args := [d1, d2] }
  | _ => none }
def permGrantMatchesSpecRow : OpenClaim := { program := "ythldfkjnjcagjaadoor", sum := "7e9a402d8a8a2c9fc431693ff9326576b2c16d04374e2f36ae2876ad699f6bd2", func := "custody/custodylaw14.PermGrantMatchesSpec", spec := "permGrantMatchesSpec", unfollowed := true, recurses := true, named := ["custody/perm.byRule"], apart := false, laid := [("custody/perm.byRule", laid_custody_perm_byRule)] }
def PermGrantMatchesSpecSaid : Prop := permGrantMatchesSpecRow.holds Tryd.pinned (OpenSpec.ofChange permGrantMatchesSpecSpec)

/-- ITS FALSE NEIGHBOUR: 'it returns false'. Refute it at one input. -/
def permGrantMatchesSpecWrong : ChangeSpec := { name := "permGrantMatchesSpec", fn := fun _ => fun
  | [d1, d2] => { results := [.lit (.bool false)], args := [d1, d2] }
  | _ => none }
def PermGrantMatchesSpecWrongFalsely : Prop := permGrantMatchesSpecRow.holds Tryd.pinned (OpenSpec.ofChange permGrantMatchesSpecWrong)

/-- 'custodylaw14.PermSourcesAreTargets': WHATEVER THE INPUT: true; the input reads as it did. -/
def permSourcesAreTargetsSpec : ChangeSpec := { name := "permSourcesAreTargets", fn := fun _ => fun
  | [d1, d2] => { results := [.lit (.bool true)], args := [d1, d2] }
  | _ => none }
def permSourcesAreTargetsRow : OpenClaim := { program := "ythldfkjnjcagjaadoor", sum := "7e9a402d8a8a2c9fc431693ff9326576b2c16d04374e2f36ae2876ad699f6bd2", func := "custody/custodylaw14.PermSourcesAreTargets", spec := "permSourcesAreTargets", unfollowed := true, recurses := true, named := ["custody/perm.byRule"], apart := false, laid := [("custody/perm.byRule", laid_custody_perm_byRule)] }
def PermSourcesAreTargetsSaid : Prop := permSourcesAreTargetsRow.holds Tryd.pinned (OpenSpec.ofChange permSourcesAreTargetsSpec)

/-- ITS FALSE NEIGHBOUR: 'it returns false'. Refute it at one input. -/
def permSourcesAreTargetsWrong : ChangeSpec := { name := "permSourcesAreTargets", fn := fun _ => fun
  | [d1, d2] => { results := [.lit (.bool false)], args := [d1, d2] }
  | _ => none }
def PermSourcesAreTargetsWrongFalsely : Prop := permSourcesAreTargetsRow.holds Tryd.pinned (OpenSpec.ofChange permSourcesAreTargetsWrong)

/-- 'custodylaw14.PermGrantNarrows': WHATEVER THE INPUT: true; the input reads as it did. -/
def permGrantNarrowsSpec : ChangeSpec := { name := "permGrantNarrows", fn := fun _ => fun
  | [d1, d2, d3, d4] => { results := [.lit (.bool true)], args := [d1, d2, d3, d4] }
  | _ => none }
def permGrantNarrowsRow : OpenClaim := { program := "ythldfkjnjcagjaadoor", sum := "7e9a402d8a8a2c9fc431693ff9326576b2c16d04374e2f36ae2876ad699f6bd2", func := "custody/custodylaw14.PermGrantNarrows", spec := "permGrantNarrows", unfollowed := true, recurses := true, named := ["custody/perm.byRule"], apart := false, laid := [("custody/perm.byRule", laid_custody_perm_byRule)] }
def PermGrantNarrowsSaid : Prop := permGrantNarrowsRow.holds Tryd.pinned (OpenSpec.ofChange permGrantNarrowsSpec)

/-- ITS FALSE NEIGHBOUR: 'it returns false'. Refute it at one input. -/
def permGrantNarrowsWrong : ChangeSpec := { name := "permGrantNarrows", fn := fun _ => fun
  | [d1, d2, d3, d4] => { results := [.lit (.bool false)], args := [d1, d2, d3, d4] }
  | _ => none }
def PermGrantNarrowsWrongFalsely : Prop := permGrantNarrowsRow.holds Tryd.pinned (OpenSpec.ofChange permGrantNarrowsWrong)

/-- 'custodylaw14.PermRulesAddUses': WHATEVER THE INPUT: true; the input reads as it did. -/
def permRulesAddUsesSpec : ChangeSpec := { name := "permRulesAddUses", fn := fun _ => fun
  | [d1, d2, d3] => { results := [.lit (.bool true)], args := [d1, d2, d3] }
  | _ => none }
def permRulesAddUsesRow : OpenClaim := { program := "ythldfkjnjcagjaadoor", sum := "7e9a402d8a8a2c9fc431693ff9326576b2c16d04374e2f36ae2876ad699f6bd2", func := "custody/custodylaw14.PermRulesAddUses", spec := "permRulesAddUses", unfollowed := true, recurses := true, named := ["custody/perm.byRule"], apart := false, laid := [("custody/perm.byRule", laid_custody_perm_byRule)] }
def PermRulesAddUsesSaid : Prop := permRulesAddUsesRow.holds Tryd.pinned (OpenSpec.ofChange permRulesAddUsesSpec)

/-- ITS FALSE NEIGHBOUR: 'it returns false'. Refute it at one input. -/
def permRulesAddUsesWrong : ChangeSpec := { name := "permRulesAddUses", fn := fun _ => fun
  | [d1, d2, d3] => { results := [.lit (.bool false)], args := [d1, d2, d3] }
  | _ => none }
def PermRulesAddUsesWrongFalsely : Prop := permRulesAddUsesRow.holds Tryd.pinned (OpenSpec.ofChange permRulesAddUsesWrong)

/- THE SECOND FORM. 'bulk': how many values and letters a reading holds, each counted each time it is reached (what is shared counts as often as it is met; a slice's spare places count too). A statement '..UptoSaid' is the law's where the arguments, and the package variables that the reading takes, are together of bulk at most 1048576: NARROWER than '..Said'. Prove '..Said' where nothing that the law and all that it calls make is longer than what came in: it says more and counts as full. Else prove '..UptoSaid'. A law counts once. -/
mutual
def uptoBulk {H : Type} : DataW H → Nat
  | .lit (.string bytes) => bytes.length + 1
  | .lit _ => 1
  | .nil => 1
  | .ptr d => uptoBulk d + 1
  | .slice elems spare => uptoBulkAll elems + uptoBulkAll spare + 1
  | .agg parts => uptoBulkAll parts + 1
  | .iface _ d => uptoBulk d + 1
  | .map entries => uptoBulkEntries entries + 1
  | .held _ => 1
def uptoBulkAll {H : Type} : List (DataW H) → Nat
  | [] => 0
  | d :: r => uptoBulk d + uptoBulkAll r
def uptoBulkEntries {H : Type} : List (Lit × DataW H) → Nat
  | [] => 0
  | x :: r => uptoBulkEntry x + uptoBulkEntries r
def uptoBulkEntry {H : Type} : Lit × DataW H → Nat
  | (.string bytes, d) => bytes.length + uptoBulk d + 1
  | (_, d) => uptoBulk d + 1
 end
def uptoSmall : (H : Type) → List (DataW H) → Bool := fun _ ds => decide (uptoBulkAll ds ≤ 1048576)
def OpenSpec.upto (s : _root_.Go.ChangeSpec) : _root_.Go.OpenSpec := { _root_.Go.OpenSpec.ofChange s with cond := some uptoSmall }

/-- 'custodylaw14.PermTypesMatchSpec', WHERE WHAT IT READS IS OF BULK AT MOST 1048576: true; the input reads as it did. -/
def permTypesMatchSpecUptoRow : OpenClaim := { program := "ythldfkjnjcagjaadoor", sum := "7e9a402d8a8a2c9fc431693ff9326576b2c16d04374e2f36ae2876ad699f6bd2", func := "custody/custodylaw14.PermTypesMatchSpec", spec := "permTypesMatchSpec", unfollowed := true, recurses := true, named := ["custody/perm.byRule"], apart := false, laid := [("custody/perm.byRule", laid_custody_perm_byRule)], narrowed := true }
def PermTypesMatchSpecUptoSaid : Prop := permTypesMatchSpecUptoRow.holds Tryd.pinned (OpenSpec.upto permTypesMatchSpecSpec)

/-- 'custodylaw14.PermRulesMatchSpec', WHERE WHAT IT READS IS OF BULK AT MOST 1048576: true; the input reads as it did. -/
def permRulesMatchSpecUptoRow : OpenClaim := { program := "ythldfkjnjcagjaadoor", sum := "7e9a402d8a8a2c9fc431693ff9326576b2c16d04374e2f36ae2876ad699f6bd2", func := "custody/custodylaw14.PermRulesMatchSpec", spec := "permRulesMatchSpec", unfollowed := true, recurses := true, named := ["custody/perm.byRule"], apart := false, laid := [("custody/perm.byRule", laid_custody_perm_byRule)], narrowed := true }
def PermRulesMatchSpecUptoSaid : Prop := permRulesMatchSpecUptoRow.holds Tryd.pinned (OpenSpec.upto permRulesMatchSpecSpec)

/-- 'custodylaw14.PermGrantMatchesSpec', WHERE WHAT IT READS IS OF BULK AT MOST 1048576: true; the input reads as it did. -/
def permGrantMatchesSpecUptoRow : OpenClaim := { program := "ythldfkjnjcagjaadoor", sum := "7e9a402d8a8a2c9fc431693ff9326576b2c16d04374e2f36ae2876ad699f6bd2", func := "custody/custodylaw14.PermGrantMatchesSpec", spec := "permGrantMatchesSpec", unfollowed := true, recurses := true, named := ["custody/perm.byRule"], apart := false, laid := [("custody/perm.byRule", laid_custody_perm_byRule)], narrowed := true }
def PermGrantMatchesSpecUptoSaid : Prop := permGrantMatchesSpecUptoRow.holds Tryd.pinned (OpenSpec.upto permGrantMatchesSpecSpec)

/-- 'custodylaw14.PermSourcesAreTargets', WHERE WHAT IT READS IS OF BULK AT MOST 1048576: true; the input reads as it did. -/
def permSourcesAreTargetsUptoRow : OpenClaim := { program := "ythldfkjnjcagjaadoor", sum := "7e9a402d8a8a2c9fc431693ff9326576b2c16d04374e2f36ae2876ad699f6bd2", func := "custody/custodylaw14.PermSourcesAreTargets", spec := "permSourcesAreTargets", unfollowed := true, recurses := true, named := ["custody/perm.byRule"], apart := false, laid := [("custody/perm.byRule", laid_custody_perm_byRule)], narrowed := true }
def PermSourcesAreTargetsUptoSaid : Prop := permSourcesAreTargetsUptoRow.holds Tryd.pinned (OpenSpec.upto permSourcesAreTargetsSpec)

/-- 'custodylaw14.PermGrantNarrows', WHERE WHAT IT READS IS OF BULK AT MOST 1048576: true; the input reads as it did. -/
def permGrantNarrowsUptoRow : OpenClaim := { program := "ythldfkjnjcagjaadoor", sum := "7e9a402d8a8a2c9fc431693ff9326576b2c16d04374e2f36ae2876ad699f6bd2", func := "custody/custodylaw14.PermGrantNarrows", spec := "permGrantNarrows", unfollowed := true, recurses := true, named := ["custody/perm.byRule"], apart := false, laid := [("custody/perm.byRule", laid_custody_perm_byRule)], narrowed := true }
def PermGrantNarrowsUptoSaid : Prop := permGrantNarrowsUptoRow.holds Tryd.pinned (OpenSpec.upto permGrantNarrowsSpec)

/-- 'custodylaw14.PermRulesAddUses', WHERE WHAT IT READS IS OF BULK AT MOST 1048576: true; the input reads as it did. -/
def permRulesAddUsesUptoRow : OpenClaim := { program := "ythldfkjnjcagjaadoor", sum := "7e9a402d8a8a2c9fc431693ff9326576b2c16d04374e2f36ae2876ad699f6bd2", func := "custody/custodylaw14.PermRulesAddUses", spec := "permRulesAddUses", unfollowed := true, recurses := true, named := ["custody/perm.byRule"], apart := false, laid := [("custody/perm.byRule", laid_custody_perm_byRule)], narrowed := true }
def PermRulesAddUsesUptoSaid : Prop := permRulesAddUsesUptoRow.holds Tryd.pinned (OpenSpec.upto permRulesAddUsesSpec)

end Rows
end Go.Proofs.YthldfkjnjcagjaaDoor
