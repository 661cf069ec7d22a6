/- Plain Lean about layer 24: a sector torn out of two sectors of other numbers is one of the two, or it does not open. -/
import Derived.Test.YtfdhnpdppkcdeaaDoorSecF
namespace Go.Proofs.YtfdhnpdppkcdeaaDoor.P
open Go.RowKit Go.Proofs.YtfdhnpdppkcdeaaDoorW.PrintWords Go.Proofs.YtfdhnpdppkcdeaaDoorW.PrintMore Go.Proofs.YtfdhnpdppkcdeaaDoorW.PrintLast

def EndsEq (l : List Int) : Prop := l.take 8 = l.drop 56
theorem mixed_ends {s t : List Int} {n : Nat} (hs : s.length = 64) (es : EndsEq s) (et : EndsEq t) (hne : s.take 8 ≠ t.take 8) (hn : n ≤ 64) (hm : EndsEq (s.take n ++ t.drop n)) : s.take n ++ t.drop n = s ∨ s.take n ++ t.drop n = t := by
  unfold EndsEq at es et hm
  have hl : (s.take n).length = n := by rw [List.length_take]; omega
  rw [List.take_append, List.drop_append, hl, List.take_take, List.drop_take, List.drop_drop] at hm
  by_cases c1 : n < 8
  · right
    rw [show min 8 n = n from by omega, show n - 56 = 0 from by omega, List.take_zero, List.nil_append, show n + (56 - n) = 56 from by omega, ← et] at hm
    rw [List.take_drop, show n + (8 - n) = 8 from by omega] at hm
    have e : s.take n = t.take n := by
      have h1 := congrArg (List.take n) hm
      rw [List.take_left' hl, List.take_take, show min n 8 = n from by omega] at h1
      exact h1
    rw [e, List.take_append_drop]
  · rw [show min 8 n = 8 from by omega, show 8 - n = 0 from by omega, List.take_zero, List.append_nil] at hm
    by_cases c2 : n ≤ 56
    · rw [show n - 56 = 0 from by omega, List.take_zero, List.nil_append, show n + (56 - n) = 56 from by omega, ← et] at hm
      exact absurd hm hne
    · left
      rw [es, show 56 - n = 0 from by omega, Nat.add_zero] at hm
      have e : s.drop n = t.drop n := by
        have h1 := congrArg (List.drop (n - 56)) hm
        rw [List.drop_drop, List.drop_left' (by rw [List.length_take, List.length_drop]; omega), show 56 + (n - 56) = n from by omega] at h1
        exact h1
      rw [← e, List.take_append_drop]
end Go.Proofs.YtfdhnpdppkcdeaaDoor.P
