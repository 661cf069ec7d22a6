import Derived.Test.YtfdhnpdppkcdeaaDoorPx14
import Derived.Test.YtfdhnpdppkcdeaaDoorSecE
namespace Go.Proofs.YtfdhnpdppkcdeaaDoor.Pure
open Go.RowKit Go.Proofs.YtfdhnpdppkcdeaaDoor.P Go.Proofs.YtfdhnpdppkcdeaaDoorW.PrintWords Go.Proofs.YtfdhnpdppkcdeaaDoorW.PrintLast Go.Proofs.YtfdhnpdppkcdeaaDoorW.PrintMore
theorem SectorMatchesSpec (a0 : Int) (_w0 : (Lit.int .i64 a0).wf = true) (a1 : ByteArray) (_w1 : a1.size ≤ 140737488355328) (a2 : ByteArray) (_w2 : a2.size ≤ 140737488355328) (a3 : Int) (_w3 : (Lit.int .i64 a3).wf = true) : ∃ k, custodylaw24_SectorMatchesSpec.f k a0 a1 a2 a3 = some true := by
  refine ⟨1000, ?_⟩
  unfold custodylaw24_SectorMatchesSpec.f
  rw [sanity_ok (by omega)]
  by_cases h : (a1.size : Int) > 9000
  · rw [if_pos h]; rfl
  · rw [if_neg h, refpack_eq a0 a1 (by omega), open_eq a2 (by omega), refopen_eq a2 (by omega)]
    obtain ⟨⟨l, e⟩, hp, hl⟩ : ∃ q, sector_Pack.f a0 a1 = some q ∧ q.1.length ≤ 182 := by
      unfold sector_Pack.f
      split
      · exact ⟨_, rfl, by simp⟩
      · split
        · exact ⟨_, rfl, by simp⟩
        · split
          · exact ⟨_, rfl, by simp⟩
          · refine ⟨_, rfl, ?_⟩
            have := cnt_le (n := a1.size) (by omega)
            simpa using this
    obtain ⟨c, hc⟩ : ∃ c, sector_Count.f a3 = some c := by
      unfold sector_Count.f
      split
      · exact ⟨_, rfl⟩
      · split
        · exact ⟨_, rfl⟩
        · exact ⟨_, rfl⟩
    obtain ⟨b, hb, hb2⟩ := same_eq l l (k := 1000) (by have : l.length ≤ 182 := hl; omega) (by have : l.length ≤ 182 := hl; omega)
    rw [hb2.2 rfl] at hb
    rw [hp, refcount_eq, hc]
    simp [hb]
end Go.Proofs.YtfdhnpdppkcdeaaDoor.Pure
