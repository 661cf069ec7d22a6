import Derived.Test.YtfdhnpdppkcdeaaDoorPx18
import Derived.Test.YtfdhnpdppkcdeaaDoorSecF
namespace Go.Proofs.YtfdhnpdppkcdeaaDoor.Pure
open Go.RowKit Go.Proofs.YtfdhnpdppkcdeaaDoor.P Go.Proofs.YtfdhnpdppkcdeaaDoorW.PrintWords Go.Proofs.YtfdhnpdppkcdeaaDoorW.PrintLast Go.Proofs.YtfdhnpdppkcdeaaDoorW.PrintMore
theorem j0_ok (k : Nat) (hk : 300 ≤ k) (a0 : Int) (a1 : ByteArray) (l2 : List ByteArray) (b : Bool) (hl : l2.length ≤ 200 ∨ b = true) : custodylaw24_SectorRoundTrip.j0 k a0 a1 l2 b = some true := by
  obtain ⟨k, rfl⟩ : ∃ m, k = m + 1 := ⟨k - 1, by omega⟩
  rw [custodylaw24_SectorRoundTrip.j0, sanity_ok (by omega)]
  cases b with
  | true => rfl
  | false =>
    have hl2 : l2.length ≤ 200 := hl.resolve_right (by simp)
    rw [if_neg (by simp)]
    by_cases h1 : a0 < 1
    · have : sector_Pack.f a0 a1 = some ([], 1) := by unfold sector_Pack.f; rw [if_pos h1]
      rw [this]
      simp [h1]
    · by_cases h2 : 4611686018427387904 < a0
      · have : sector_Pack.f a0 a1 = some ([], 1) := by unfold sector_Pack.f; rw [if_neg h1, if_pos h2]
        rw [this]
        simp [h2]
      · by_cases h3 : 8000 < a1.size
        · have : sector_Pack.f a0 a1 = some ([], 2) := by unfold sector_Pack.f; rw [if_neg h1, if_neg h2, if_pos h3]
          rw [this]
          have h3' : (8000 : Int) < (a1.size : Int) := by omega
          simp [h3']
        · have hpl := packed_length a0 a1
          have hc := cnt_le (n := a1.size) (by omega)
          rw [packf_ok (by omega) (by omega) (by omega), Option.bind_some, if_pos rfl, if_pos (by show ([] : List ByteArray).length + (packed a0 a1).length < _; rw [List.length_nil]; omega), Option.bind_some, if_pos (by show (([] : List ByteArray) ++ packed a0 a1).length + _ < _; rw [List.nil_append]; omega), join_eq (by omega), Option.bind_some]
          show (Option.bind (some true) fun t236 => _) = _
          rw [List.nil_append, joinS_packed a0 a1 (by omega) (by omega) (by omega), count_eq a1.size (by omega), hpl]
          simp
theorem SectorRoundTrip (a0 : Int) (_w0 : (Lit.int .i64 a0).wf = true) (a1 : ByteArray) (_w1 : a1.size ≤ 140737488355328) (l2 : List ByteArray) (_w2 : l2.length ≤ 9223372036854775807) : ∃ k, custodylaw24_SectorRoundTrip.f k a0 a1 l2 = some true := by
  obtain ⟨c, hc, hc2⟩ := few_eq l2 (by omega) (k := l2.length + 1000) (by omega)
  refine ⟨l2.length + 1000, ?_⟩
  unfold custodylaw24_SectorRoundTrip.f
  rw [hc, Option.bind_some]
  split
  · rename_i h
    exact j0_ok _ (by omega) _ _ _ _ (.inl (hc2 h))
  · exact j0_ok _ (by omega) _ _ _ _ (.inr rfl)
end Go.Proofs.YtfdhnpdppkcdeaaDoor.Pure
