/- Plain Lean about layer 24: the specification's Pack, Same and few. -/
import Derived.Test.YtfdhnpdppkcdeaaDoorSecC
namespace Go.Proofs.YtfdhnpdppkcdeaaDoor.P
open Go.RowKit Go.Proofs.YtfdhnpdppkcdeaaDoorW.PrintWords Go.Proofs.YtfdhnpdppkcdeaaDoorW.PrintMore Go.Proofs.YtfdhnpdppkcdeaaDoorW.PrintLast

/-! ### Same, few -/
theorem few_l0 (a : List ByteArray) (hb : a.length ≤ 9223372036854775807) : ∀ (d k i : Nat), a.length - i = d → i ≤ a.length → d < k → ∃ c, custodylaw24_few.l0 k a (i : Int) = some c ∧ (c = true → a.length ≤ 200)
  | 0, k, i, hd, hi, hk => by
    obtain ⟨k, rfl⟩ : ∃ m, k = m + 1 := ⟨k - 1, by omega⟩
    simp only [custodylaw24_few.l0]
    rw [if_neg (by omega)]
    exact ⟨_, rfl, fun z => by have := of_decide_eq_true z; omega⟩
  | d + 1, k, i, hd, hi, hk => by
    obtain ⟨k, rfl⟩ : ∃ m, k = m + 1 := ⟨k - 1, by omega⟩
    have e2 : wrap64 ((i : Int) + 1) = ((i + 1 : Nat) : Int) := by unfold wrap64; omega
    simp only [custodylaw24_few.l0]
    rw [if_pos (by omega), if_pos (by omega), e2]
    by_cases h : ((rdOf ByteArray.empty a (i : Int)).size : Int) > 100
    · rw [if_pos h]; exact ⟨false, rfl, fun z => by simp at z⟩
    · rw [if_neg h]
      exact few_l0 a hb d k (i + 1) (by omega) (by omega) (by omega)
theorem few_eq (a : List ByteArray) (hb : a.length ≤ 9223372036854775807) {k : Nat} (hk : a.length < k) : ∃ c, custodylaw24_few.f k a = some c ∧ (c = true → a.length ≤ 200) :=
  few_l0 a hb a.length k 0 (by omega) (by omega) hk

end Go.Proofs.YtfdhnpdppkcdeaaDoor.P
