/- Plain Lean about layer 24: the specification's Pack, Same and few. -/
import Derived.Test.YtfdhnpdppkcdeaaDoorSecC
namespace Go.Proofs.YtfdhnpdppkcdeaaDoor.P
open Go.RowKit Go.Proofs.YtfdhnpdppkcdeaaDoorW.PrintWords Go.Proofs.YtfdhnpdppkcdeaaDoorW.PrintMore Go.Proofs.YtfdhnpdppkcdeaaDoorW.PrintLast

/-! ### Same, few -/
theorem same_l0 (a b : List ByteArray) (hl : a.length = b.length) (hb : a.length ≤ 9223372036854775807) : ∀ (d k i : Nat), a.length - i = d → i ≤ a.length → d < k →
    ∃ c, custodyref24_Same.l0 k a b (i : Int) = some c ∧ (c = true ↔ a.drop i = b.drop i)
  | 0, k, i, hd, hi, hk => by
    obtain ⟨k, rfl⟩ : ∃ m, k = m + 1 := ⟨k - 1, by omega⟩
    simp only [custodyref24_Same.l0]
    rw [if_neg (by omega)]
    exact ⟨_, rfl, by rw [List.drop_eq_nil_of_le (by omega), List.drop_eq_nil_of_le (by omega)]; simp⟩
  | d + 1, k, i, hd, hi, hk => by
    obtain ⟨k, rfl⟩ : ∃ m, k = m + 1 := ⟨k - 1, by omega⟩
    have e2 : wrap64 ((i : Int) + 1) = ((i + 1 : Nat) : Int) := by unfold wrap64; omega
    obtain ⟨c, hc, hcc⟩ := same_l0 a b hl hb d k (i + 1) (by omega) (by omega) (by omega)
    simp only [custodyref24_Same.l0]
    rw [if_pos (by omega), if_pos (by omega), if_pos (by omega), e2, hc]
    have r : ∀ l : List ByteArray, i < l.length → l.drop i = rdOf ByteArray.empty l (i : Int) :: l.drop (i + 1) := fun l h => by
      rw [List.drop_eq_getElem_cons h]
      congr 1
      unfold rdOf
      rw [Int.toNat_natCast, List.getD_eq_getElem?_getD, List.getElem?_eq_getElem h]
      rfl
    rw [r a (by omega), r b (by omega)]
    have hinj : ∀ x y : ByteArray, x.toList = y.toList ↔ x = y := fun x y => ⟨fun z => bytesOf_inj (by unfold bytesOf; rw [toList_eq, toList_eq] at z; rw [z]), fun z => by rw [z]⟩
    by_cases h : rdOf ByteArray.empty a (i : Int) = rdOf ByteArray.empty b (i : Int)
    · rw [if_pos ((hinj _ _).2 h)]
      exact ⟨c, rfl, by rw [hcc, h]; simp⟩
    · rw [if_neg (fun z => h ((hinj _ _).1 z))]
      exact ⟨false, rfl, by simp [h]⟩
theorem same_eq (a b : List ByteArray) {k : Nat} (hb : a.length ≤ 9223372036854775807) (hk : a.length < k) : ∃ c, custodyref24_Same.f k a b = some c ∧ (c = true ↔ a = b) := by
  unfold custodyref24_Same.f
  by_cases hl : a.length = b.length
  · rw [if_pos (by omega)]
    exact same_l0 a b hl hb a.length k 0 (by omega) (by omega) (by omega)
  · rw [if_neg (by omega)]
    exact ⟨false, rfl, by simp; intro h; exact hl (by rw [h])⟩
end Go.Proofs.YtfdhnpdppkcdeaaDoor.P
