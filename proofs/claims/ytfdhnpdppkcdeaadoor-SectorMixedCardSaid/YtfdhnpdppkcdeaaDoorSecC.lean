/- Plain Lean about layer 24: the specification's Open and Pack; the checks of the sanity function. -/
import Derived.Test.YtfdhnpdppkcdeaaDoorSecB
import Derived.Test.YtfdhnpdppkcdeaaDoorPx7
import Derived.Test.YtfdhnpdppkcdeaaDoorPx13
import Derived.Test.YtfdhnpdppkcdeaaDoorPx15
namespace Go.Proofs.YtfdhnpdppkcdeaaDoor.P
open Go.RowKit Go.Proofs.YtfdhnpdppkcdeaaDoorW.PrintWords Go.Proofs.YtfdhnpdppkcdeaaDoorW.PrintMore Go.Proofs.YtfdhnpdppkcdeaaDoorW.PrintLast

/-! ### the specification's put and Pack -/
theorem byte_le64 (n : Int) : Byte (le64 n) := by
  intro b hb
  simp only [le64, List.mem_cons, List.not_mem_nil, or_false] at hb
  omega
theorem byte_le16 (n : Int) : Byte (le16 n) := by
  intro b hb
  simp only [le16, List.mem_cons, List.not_mem_nil, or_false] at hb
  omega
theorem byte_rep (n : Nat) : Byte (List.replicate n 0) := by
  intro b hb
  have := (List.mem_replicate.1 hb).2
  omega
theorem byte_secNums (number : Int) (record : ByteArray) (i : Nat) : Byte (secNums number record i) :=
  (((((byte_le64 _).append (byte_le16 _)).append (byte_le16 _)).append (byte_bytesOf _)).append (byte_rep _)).append (byte_le64 _)
theorem bytesOf_secOf (number : Int) (record : ByteArray) (i : Nat) : bytesOf (secOf number record i) = secNums number record i := bytesOf_strOfNums (byte_secNums _ _ _)
theorem size_strOfNums (l : List Int) (h : Byte l) : (strOfNums l).size = l.length := by
  rw [← bytesOf_length, bytesOf_strOfNums h]
theorem textOf_size (record : ByteArray) (i : Nat) : (textOf record i).size ≤ 44 := by
  unfold textOf; rw [ByteArray.size_extract]; omega

end Go.Proofs.YtfdhnpdppkcdeaaDoor.P
