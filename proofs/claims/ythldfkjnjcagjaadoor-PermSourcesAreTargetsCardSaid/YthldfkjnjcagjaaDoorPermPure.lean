/- Plain Lean about layer 14: Subset, Few, Uses and Grant, in the program and in the specification. -/
import Derived.Laws.BitsLemmas
import Derived.Laws.Closers25b
import Derived.Test.YthldfkjnjcagjaaDoorHandUses
import Derived.Test.YthldfkjnjcagjaaDoorPx9
import Derived.Test.YthldfkjnjcagjaaDoorPx12
import Derived.Test.YthldfkjnjcagjaaDoorPx26
namespace Go.Proofs.YthldfkjnjcagjaaDoor.P
open Go.RowKit Go.Proofs.YthldfkjnjcagjaaDoorW.PrintWords Go.Proofs.YthldfkjnjcagjaaDoorW.PrintMore Go.Proofs.YthldfkjnjcagjaaDoorW.PrintLast

/-! ### Few -/
theorem few_l0 (a0 : ByteArray) (l1 : List S59) (l2 : List S55) (l3 : List S33) (h40 : l1.length ≤ 40) : ∀ (d k i : Nat), l1.length - i = d → i ≤ l1.length → d < k → ∃ b, custodyref14_Few.l0 k (i : Int) a0 l1 l2 l3 = some b
  | 0, k, i, hd, hi, hk => by
    obtain ⟨k, rfl⟩ : ∃ m, k = m + 1 := ⟨k - 1, by omega⟩
    rw [custodyref14_Few.l0, if_neg (by omega)]
    exact ⟨_, rfl⟩
  | d + 1, k, i, hd, hi, hk => by
    obtain ⟨k, rfl⟩ : ∃ m, k = m + 1 := ⟨k - 1, by omega⟩
    have e2 : wrap64 ((i : Int) + 1) = ((i + 1 : Nat) : Int) := by unfold wrap64; omega
    rw [custodyref14_Few.l0, if_pos (by omega), if_pos (by omega), e2]
    split
    · exact ⟨_, rfl⟩
    · exact few_l0 a0 l1 l2 l3 h40 d k (i + 1) (by omega) (by omega) (by omega)
theorem few_eq {k : Nat} (hk : 50 ≤ k) (a0 : ByteArray) (l1 : List S59) (l2 : List S55) (l3 : List S33) : ∃ b, custodyref14_Few.f k a0 l1 l2 l3 = some b ∧ (b = true → l1.length ≤ 40 ∧ l2.length ≤ 100 ∧ l3.length ≤ 40) := by
  obtain ⟨k, rfl⟩ : ∃ m, k = m + 1 := ⟨k - 1, by omega⟩
  unfold custodyref14_Few.f
  by_cases h1 : (l1.length : Int) > 40
  · rw [if_pos h1, custodyref14_Few.j0, if_pos rfl]; exact ⟨_, rfl, fun z => by simp at z⟩
  · rw [if_neg h1]
    by_cases h2 : (l2.length : Int) > 100
    · rw [if_pos h2, custodyref14_Few.j0, if_pos rfl]; exact ⟨_, rfl, fun z => by simp at z⟩
    · rw [if_neg h2, custodyref14_Few.j0]
      by_cases h3 : (l3.length : Int) > 40
      · rw [decide_eq_true h3, if_pos rfl]; exact ⟨_, rfl, fun z => by simp at z⟩
      · rw [decide_eq_false h3, if_neg (by simp)]
        obtain ⟨b, hb⟩ := few_l0 a0 l1 l2 l3 (by omega) l1.length k 0 (by omega) (by omega) (by omega)
        exact ⟨b, hb, fun _ => by omega⟩

/-! ### Uses -/
/-! ### Grant -/
end Go.Proofs.YthldfkjnjcagjaaDoor.P
