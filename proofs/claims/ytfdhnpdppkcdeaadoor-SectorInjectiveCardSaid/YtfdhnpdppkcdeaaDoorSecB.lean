/- Plain Lean about layer 24: what the printed get, put, Count and Open come to, in the program and in the specification. -/
import Derived.Test.YtfdhnpdppkcdeaaDoorSecA
import Derived.Laws.BitsLemmas
import Derived.Test.YtfdhnpdppkcdeaaDoorHandPack
import Derived.Test.YtfdhnpdppkcdeaaDoorPx6
import Derived.Test.YtfdhnpdppkcdeaaDoorPx12
import Derived.Test.YtfdhnpdppkcdeaaDoorPx10
namespace Go.Proofs.YtfdhnpdppkcdeaaDoor.P
open Go.RowKit Go.Proofs.YtfdhnpdppkcdeaaDoorW.PrintWords Go.Proofs.YtfdhnpdppkcdeaaDoorW.PrintMore Go.Proofs.YtfdhnpdppkcdeaaDoorW.PrintLast

/-! ### the specification's get -/
/-! ### Open -/
def B (s : ByteArray) : List Int := bytesOf s
def numOf (s : ByteArray) : Int := leval ((bytesOf s).take 8)
def partOf (s : ByteArray) : Int := leval (((bytesOf s).take 10).drop 8)
def leftOf (s : ByteArray) : Int := leval (((bytesOf s).take 12).drop 10)
def shown (s : ByteArray) : Nat := min (leftOf s).toNat 44
/-- What a sector has to be. -/
def Good (s : ByteArray) : Prop :=
  (bytesOf s).take 8 = (bytesOf s).drop 56 ∧ 1 ≤ numOf s ∧ numOf s ≤ 4611686018427387904 ∧ partOf s * 44 + leftOf s ≤ 8000 ∧ ¬ (0 < partOf s ∧ leftOf s = 0) ∧ ∀ i : Nat, 12 + shown s ≤ i → i < 56 → bt s i = 0
open Classical in
noncomputable def openS (s : ByteArray) : Int × Int × Int × ByteArray × Int :=
  if s.size = 64 then (if Good s then (numOf s, partOf s, leftOf s, s.extract 12 (12 + shown s), 0) else (0, 0, 0, ⟨#[]⟩, 7)) else (0, 0, 0, ⟨#[]⟩, 1)
end Go.Proofs.YtfdhnpdppkcdeaaDoor.P
