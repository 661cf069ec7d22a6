/- Plain Lean about layer 14: Type, Quorum and Has, in the program and in the specification. -/
import Derived.Test.YthldfkjnjcagjaaDoorPermPure
import Derived.Test.YthldfkjnjcagjaaDoorPx4
import Derived.Test.YthldfkjnjcagjaaDoorPx14
import Derived.Test.YthldfkjnjcagjaaDoorPx15
import Derived.Test.YthldfkjnjcagjaaDoorPx18
namespace Go.Proofs.YthldfkjnjcagjaaDoor.P
open Go.RowKit Go.Lib Go.Proofs.YthldfkjnjcagjaaDoorW.PrintWords Go.Proofs.YthldfkjnjcagjaaDoorW.PrintMore Go.Proofs.YthldfkjnjcagjaaDoorW.PrintLast

theorem rd59 (l : List S59) {i : Nat} (h : i < l.length) : rd_T59 l (i : Int) = l[i] := by
  unfold rd_T59
  rw [Int.toNat_natCast, List.getD_eq_getElem?_getD, List.getElem?_eq_getElem h]
  rfl
theorem rd33 (l : List S33) {i : Nat} (h : i < l.length) : rd_T33 l (i : Int) = l[i] := by
  unfold rd_T33
  rw [Int.toNat_natCast, List.getD_eq_getElem?_getD, List.getElem?_eq_getElem h]
  rfl
def typeRes (z : Int) : Int × Bool := (if z < 0 then 0 else z, decide (0 ≤ z))
theorem reftype_l0 (name a0 : ByteArray) (l1 : List S59) (l2 : List S55) (l3 : List S33) (h40 : l1.length ≤ 1000) : ∀ (d k i : Nat), l1.length - i = d → i ≤ l1.length → d < k →
    custodyref14_Type.l0 k name (i : Int) a0 l1 l2 l3 = some (typeRes (idxByFrom (fun _ y => isNamed name y) z59 (l1.drop i) i))
  | 0, k, i, hd, hi, hk => by
    obtain ⟨k, rfl⟩ : ∃ m, k = m + 1 := ⟨k - 1, by omega⟩
    rw [custodyref14_Type.l0, if_neg (by omega), List.drop_eq_nil_of_le (by omega)]
    rfl
  | d + 1, k, i, hd, hi, hk => by
    obtain ⟨k, rfl⟩ : ∃ m, k = m + 1 := ⟨k - 1, by omega⟩
    have hlt : i < l1.length := by omega
    have e2 : wrap64 ((i : Int) + 1) = ((i + 1 : Nat) : Int) := by unfold wrap64; omega
    rw [custodyref14_Type.l0, if_pos (by omega), if_pos (by omega), e2, rd59 l1 hlt, List.drop_eq_getElem_cons hlt, idxByFrom]
    by_cases h : l1[i].f0.toList = name.toList
    · have hn : isNamed name l1[i] = true := by unfold isNamed; simpa using h
      rw [if_pos h, if_pos hn]
      unfold typeRes
      rw [if_neg (by omega), decide_eq_true (by omega)]
    · have hn : ¬ isNamed name l1[i] = true := by unfold isNamed; simpa using h
      rw [if_neg h, if_neg hn]
      exact reftype_l0 name a0 l1 l2 l3 h40 d k (i + 1) (by omega) (by omega) (by omega)
theorem reftype_eq {k : Nat} (name a0 : ByteArray) (l1 : List S59) (l2 : List S55) (l3 : List S33) (h40 : l1.length ≤ 1000) (hk : 2000 ≤ k) : custodyref14_Type.f k a0 l1 l2 l3 name = perm_Type.f a0 l1 l2 l3 name :=
  reftype_l0 name a0 l1 l2 l3 h40 l1.length k 0 (by omega) (by omega) (by omega)
def quorumRes (l3 : List S33) (z : Int) : Option (Int × Int × Int × Int × Int × Bool) :=
  if z < 0 then some (0, 0, 0, 0, 0, false) else some ((rd_T33 l3 z).f0, (rd_T33 l3 z).f1, (rd_T33 l3 z).f2, (rd_T33 l3 z).f3, (rd_T33 l3 z).f4, true)
theorem refquorum_l0 (c : Int) (a0 : ByteArray) (l1 : List S59) (l2 : List S55) (l3 : List S33) (h40 : l3.length ≤ 1000) : ∀ (d k i : Nat), l3.length - i = d → i ≤ l3.length → d < k →
    custodyref14_Quorum.l0 k c (i : Int) a0 l1 l2 l3 = quorumRes l3 (idxByFrom (fun _ y => isFor c y) z33 (l3.drop i) i)
  | 0, k, i, hd, hi, hk => by
    obtain ⟨k, rfl⟩ : ∃ m, k = m + 1 := ⟨k - 1, by omega⟩
    rw [custodyref14_Quorum.l0, if_neg (by omega), List.drop_eq_nil_of_le (by omega)]
    rfl
  | d + 1, k, i, hd, hi, hk => by
    obtain ⟨k, rfl⟩ : ∃ m, k = m + 1 := ⟨k - 1, by omega⟩
    have hlt : i < l3.length := by omega
    have e2 : wrap64 ((i : Int) + 1) = ((i + 1 : Nat) : Int) := by unfold wrap64; omega
    rw [custodyref14_Quorum.l0, if_pos (by omega), if_pos (by omega), e2, List.drop_eq_getElem_cons hlt, idxByFrom]
    by_cases h : (rd_T33 l3 (i : Int)).f0 = c
    · have hn : isFor c l3[i] = true := by unfold isFor; rw [← rd33 l3 hlt]; simpa using h
      rw [if_pos h, if_pos hn]
      unfold quorumRes
      rw [if_neg (by omega)]
    · have hn : ¬ isFor c l3[i] = true := by unfold isFor; rw [← rd33 l3 hlt]; simpa using h
      rw [if_neg h, if_neg hn]
      exact refquorum_l0 c a0 l1 l2 l3 h40 d k (i + 1) (by omega) (by omega) (by omega)
theorem refquorum_eq {k : Nat} (c : Int) (a0 : ByteArray) (l1 : List S59) (l2 : List S55) (l3 : List S33) (h40 : l3.length ≤ 1000) (hk : 2000 ≤ k) : custodyref14_Quorum.f k a0 l1 l2 l3 c = perm_Quorum.f a0 l1 l2 l3 c :=
  refquorum_l0 c a0 l1 l2 l3 h40 l3.length k 0 (by omega) (by omega) (by omega)
theorem has_eq (a0 : ByteArray) (l1 : List S59) (l2 : List S55) (l3 : List S33) (t flags : Int) (hf : Fits flags) : ∃ b, perm_Has.f a0 l1 l2 l3 t flags = some b ∧ custodyref14_Has.f a0 l1 l2 l3 t flags = some b := by
  unfold perm_Has.f custodyref14_Has.f perm_exists.f custodyref14_is.f
  rw [subset_eq _ hf, refsub]
  by_cases h0 : t ≥ 0
  · rw [if_pos h0, Option.bind_some, Option.bind_some]
    by_cases h1 : t < (l1.length : Int)
    · rw [if_pos (decide_eq_true h1), if_pos h0, if_pos h1]
      exact ⟨_, rfl, rfl⟩
    · have hn : ¬ (decide (t < (l1.length : Int)) = true) := by simpa using h1
      rw [if_neg hn]
      exact ⟨_, rfl, rfl⟩
  · rw [if_neg h0, Option.bind_some, Option.bind_some]
    exact ⟨_, rfl, rfl⟩
end Go.Proofs.YthldfkjnjcagjaaDoor.P
