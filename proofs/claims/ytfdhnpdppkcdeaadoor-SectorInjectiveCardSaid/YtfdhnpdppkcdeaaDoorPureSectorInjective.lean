import Derived.Test.YtfdhnpdppkcdeaaDoorPx19
import Derived.Test.YtfdhnpdppkcdeaaDoorSecF
namespace Go.Proofs.YtfdhnpdppkcdeaaDoor.Pure
open Go.RowKit Go.Proofs.YtfdhnpdppkcdeaaDoor.P Go.Proofs.YtfdhnpdppkcdeaaDoorW.PrintWords Go.Proofs.YtfdhnpdppkcdeaaDoorW.PrintLast Go.Proofs.YtfdhnpdppkcdeaaDoorW.PrintMore
theorem list_inj (x y : ByteArray) : x.toList = y.toList ↔ x = y := ⟨fun z => bytesOf_inj (by unfold bytesOf; rw [toList_eq, toList_eq] at z; rw [z]), fun z => by rw [z]⟩
theorem packf_cases (n : Int) (s : ByteArray) : (∃ e, e ≠ 0 ∧ sector_Pack.f n s = some ([], e)) ∨ (1 ≤ n ∧ n ≤ 4611686018427387904 ∧ s.size ≤ 8000 ∧ sector_Pack.f n s = some (packed n s, 0)) := by
  by_cases h1 : n < 1
  · exact .inl ⟨1, by decide, by unfold sector_Pack.f; rw [if_pos h1]⟩
  · by_cases h2 : 4611686018427387904 < n
    · exact .inl ⟨1, by decide, by unfold sector_Pack.f; rw [if_neg h1, if_pos h2]⟩
    · by_cases h3 : 8000 < s.size
      · exact .inl ⟨2, by decide, by unfold sector_Pack.f; rw [if_neg h1, if_neg h2, if_pos h3]⟩
      · exact .inr ⟨by omega, by omega, by omega, packf_ok (by omega) (by omega) (by omega)⟩
theorem packed_inj {n m : Int} {s t : ByteArray} (h1 : 1 ≤ n) (h2 : n ≤ 4611686018427387904) (h3 : s.size ≤ 8000) (k1 : 1 ≤ m) (k2 : m ≤ 4611686018427387904) (k3 : t.size ≤ 8000) (h : packed n s = packed m t) : n = m ∧ s = t := by
  have e1 := joinS_packed n s h1 h2 h3 []
  have e2 := joinS_packed m t k1 k2 k3 []
  rw [h, e2] at e1
  simp only [Prod.mk.injEq] at e1
  exact ⟨e1.1.symm, e1.2.1.symm⟩
theorem inj_j0 (k : Nat) (hk : 300 ≤ k) (a0 : Int) (a1 : ByteArray) (a2 : Int) (a3 : ByteArray) (b : Bool) : custodylaw24_SectorInjective.j0 k a0 a1 a2 a3 b = some true := by
  obtain ⟨k, rfl⟩ : ∃ m, k = m + 2 := ⟨k - 2, by omega⟩
  have sj : ∀ p q, custodylaw24_SectorInjective.j1 (k + 1) a0 a1 a2 a3 p q true = some true := fun p q => by
    rw [custodylaw24_SectorInjective.j1, sanity_ok (by omega)]; rfl
  rw [custodylaw24_SectorInjective.j0, sanity_ok (by omega)]
  cases b with
  | true => rfl
  | false =>
    rw [if_neg (by simp)]
    rcases packf_cases a0 a1 with ⟨e, he, hp⟩ | ⟨h1, h2, h3, hp⟩
    · obtain ⟨⟨q1, q2⟩, hq⟩ : ∃ q, sector_Pack.f a2 a3 = some q := by
        rcases packf_cases a2 a3 with ⟨e, he, hp⟩ | ⟨h1, h2, h3, hp⟩
        · exact ⟨_, hp⟩
        · exact ⟨_, hp⟩
      rw [hp, hq, Option.bind_some, Option.bind_some, if_neg he, sj]
    · rcases packf_cases a2 a3 with ⟨e, he, hq⟩ | ⟨k1, k2, k3, hq⟩
      · rw [hp, hq, Option.bind_some, Option.bind_some, if_pos rfl]
        have : (e != 0) = true := by simpa using he
        rw [show ((([] : List ByteArray), e).2 != 0) = true from this, sj]
      · have hc := cnt_le h3
        have hl := packed_length a0 a1
        obtain ⟨c, hs, hs2⟩ := same_eq (packed a0 a1) (packed a2 a3) (k := k) (by omega) (by omega)
        rw [hp, hq, Option.bind_some, Option.bind_some, if_pos rfl]
        rw [custodylaw24_SectorInjective.j1, sanity_ok (by omega), if_neg (by simp), Option.bind_some, if_pos rfl]
        show ((custodyref24_Same.f k (packed a0 a1) (packed a2 a3)).bind _) = _
        rw [hs, Option.bind_some]
        by_cases h : a0 = a2
        · subst h
          rw [if_pos rfl]
          congr 1
          rw [beq_iff_eq]
          by_cases ht : a1 = a3
          · subst ht
            rw [hs2.2 rfl]
            simp
          · have : c = false := by
              cases c with
              | false => rfl
              | true => exact absurd (packed_inj h1 h2 h3 k1 k2 k3 (hs2.1 rfl)).2 ht
            rw [this]
            symm
            rw [beq_eq_false_iff_ne]
            exact fun z => ht ((list_inj _ _).1 z)
        · have : c = false := by
            cases c with
            | false => rfl
            | true => exact absurd (packed_inj h1 h2 h3 k1 k2 k3 (hs2.1 rfl)).1 h
          rw [if_neg h, this]
          rfl
theorem SectorInjective (a0 : Int) (_w0 : (Lit.int .i64 a0).wf = true) (a1 : ByteArray) (_w1 : a1.size ≤ 140737488355328) (a2 : Int) (_w2 : (Lit.int .i64 a2).wf = true) (a3 : ByteArray) (_w3 : a3.size ≤ 140737488355328) : ∃ k, custodylaw24_SectorInjective.f k a0 a1 a2 a3 = some true := by
  refine ⟨1000, ?_⟩
  unfold custodylaw24_SectorInjective.f
  split
  · exact inj_j0 _ (by omega) _ _ _ _ _
  · exact inj_j0 _ (by omega) _ _ _ _ _
end Go.Proofs.YtfdhnpdppkcdeaaDoor.Pure
