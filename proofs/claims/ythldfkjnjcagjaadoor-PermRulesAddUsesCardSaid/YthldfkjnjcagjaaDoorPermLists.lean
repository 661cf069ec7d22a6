/- Plain Lean about layer 14: Sources and Targets, in the program (sort, then compact) and in the specification (insert one by one). -/
import Derived.Test.YthldfkjnjcagjaaDoorPermPure
import Derived.Test.YthldfkjnjcagjaaDoorPx4
import Derived.Test.YthldfkjnjcagjaaDoorPx14
import Derived.Test.YthldfkjnjcagjaaDoorPx15
import Derived.Test.YthldfkjnjcagjaaDoorPx18
import Derived.Test.YthldfkjnjcagjaaDoorHandLists
import Derived.Test.YthldfkjnjcagjaaDoorPx21
import Derived.Test.YthldfkjnjcagjaaDoorPx22
import Derived.Test.YthldfkjnjcagjaaDoorPx5
import Derived.Test.YthldfkjnjcagjaaDoorPx28
import Derived.Test.YthldfkjnjcagjaaDoorPx23
import Derived.Test.YthldfkjnjcagjaaDoorPx8
namespace Go.Proofs.YthldfkjnjcagjaaDoor.P
open Go.RowKit Go.Lib Go.Proofs.YthldfkjnjcagjaaDoorW.PrintWords Go.Proofs.YthldfkjnjcagjaaDoorW.PrintMore Go.Proofs.YthldfkjnjcagjaaDoorW.PrintLast

theorem rd55 (l : List S55) {i : Nat} (h : i < l.length) : rd_T55 l (i : Int) = l[i] := by
  unfold rd_T55
  rw [Int.toNat_natCast, List.getD_eq_getElem?_getD, List.getElem?_eq_getElem h]
  rfl
def mayIs (kind a b : Int) (x : S55) : Bool := x.f0 == kind && (x.f1 == a && x.f2 == b)
theorem may_l0 (kind a b : Int) (l2 : List S55) (hb : l2.length ≤ 1000) : ∀ (d k i : Nat), l2.length - i = d → i ≤ l2.length → d < k → ∃ z, api_Rule_45.l0 k l2 (l2.length : Int) (i : Int) kind a b = some z ∧ decide (z ≥ 0) = (l2.drop i).any (mayIs kind a b)
  | 0, k, i, hd, hi, hk => by
    obtain ⟨k, rfl⟩ : ∃ m, k = m + 1 := ⟨k - 1, by omega⟩
    refine ⟨-1, by rw [api_Rule_45.l0, if_neg (by omega)], ?_⟩
    rw [List.drop_eq_nil_of_le (by omega)]
    rfl
  | d + 1, k, i, hd, hi, hk => by
    obtain ⟨k, rfl⟩ : ∃ m, k = m + 1 := ⟨k - 1, by omega⟩
    have hlt : i < l2.length := by omega
    have e2 : wrap64 ((i : Int) + 1) = ((i + 1 : Nat) : Int) := by unfold wrap64; omega
    rw [api_Rule_45.l0, if_pos (by omega), if_pos (by omega), if_pos (by omega), rd55 l2 hlt, e2, List.drop_eq_getElem_cons hlt, List.any_cons]
    have hc : (kind == l2[i].f0 && (a == l2[i].f1 && b == l2[i].f2)) = mayIs kind a b l2[i] := by
      unfold mayIs
      rw [Bool.beq_comm (a := kind), Bool.beq_comm (a := a), Bool.beq_comm (a := b)]
    rw [hc]
    by_cases h : mayIs kind a b l2[i] = true
    · rw [if_pos h]
      exact ⟨_, rfl, by rw [h, Bool.true_or]; exact decide_eq_true (by omega)⟩
    · rw [if_neg h, (by simpa using h : mayIs kind a b l2[i] = false), Bool.false_or]
      exact may_l0 kind a b l2 hb d k (i + 1) (by omega) (by omega) (by omega)
theorem may_eq {k : Nat} (kind a b : Int) (a0 : ByteArray) (l1 : List S59) (l2 : List S55) (l3 : List S33) (hb : l2.length ≤ 1000) (hk : 1001 ≤ k) : perm_May.f k a0 l1 l2 l3 kind a b = some (l2.any (mayIs kind a b)) := by
  obtain ⟨z, h1, h2⟩ := may_l0 kind a b l2 hb l2.length k 0 (by omega) (by omega) (by omega)
  unfold perm_May.f api_Rule_42.f api_Rule_45.f
  rw [show (0 : Int) = ((0 : Nat) : Int) from rfl, h1, Option.bind_some, Option.bind_some]
  exact congrArg some h2
theorem any_mem_iff (kind a b : Int) (l2 : List S55) : l2.any (mayIs kind a b) = true ↔ (⟨kind, a, b⟩ : S55) ∈ l2 := by
  rw [List.any_eq_true]
  constructor
  · rintro ⟨⟨p, q, r⟩, hx, h⟩
    unfold mayIs at h
    simp only [Bool.and_eq_true, beq_iff_eq] at h
    obtain ⟨rfl, rfl, rfl⟩ := h
    exact hx
  · intro h
    exact ⟨_, h, by simp [mayIs]⟩
end Go.Proofs.YthldfkjnjcagjaaDoor.P
