import Derived.Test.YthldfkjnjcagjaaDoorPermPure
import Derived.Test.YthldfkjnjcagjaaDoorPolRow
namespace Go.Proofs.YthldfkjnjcagjaaDoor.Pure
open Go.RowKit Go.Proofs.YthldfkjnjcagjaaDoor.P Go.Proofs.YthldfkjnjcagjaaDoorW.PrintWords Go.Proofs.YthldfkjnjcagjaaDoorW.PrintLast Go.Proofs.YthldfkjnjcagjaaDoorW.PrintMore
theorem wf_fits {n : Int} (h : wf n) : Fits n := by
  unfold wf at h
  simp only [Lit.wf, Bool.and_eq_true, decide_eq_true_eq] at h
  exact ⟨by have := h.1; simp [IntKind.min, IntKind.bits, IntKind.signed] at this; omega, by have := h.2; simp [IntKind.max, IntKind.bits, IntKind.signed] at this; omega⟩
theorem bits_sub {u v f : Int} (hu : Fits u) (h : bits .and .i64 u v = u) : bits .and .i64 (bits .and .i64 u f) v = bits .and .i64 u f := by
  have e : BitVec.ofInt 64 u &&& BitVec.ofInt 64 v = BitVec.ofInt 64 u := BitVec.eq_of_toInt_eq (by rw [← bits_and, h, ofInt_toInt hu])
  rw [bits_and, bits_and u f, BitVec.ofInt_toInt, BitVec.and_assoc, BitVec.and_comm (BitVec.ofInt 64 f), ← BitVec.and_assoc, e]
theorem short_le {less life : Int} (h0 : 0 ≤ less) (hl : life > 1) (hm : life ≤ 1099511627776) : 1 ≤ wrap64 (1 + Int.tmod less life) ∧ wrap64 (1 + Int.tmod less life) ≤ life := by
  rw [Int.tmod_eq_emod_of_nonneg h0]
  have h1 := Int.emod_nonneg less (show life ≠ 0 by omega)
  have h2 := Int.emod_lt_of_pos less (show 0 < life by omega)
  unfold wrap64
  omega
theorem grantOf_again {l1 : List S59} {l2 : List S55} {t v l : Int} (hok : t ≥ 0 ∧ t < (l1.length : Int) ∧ bits .and .i64 v 956 = v ∧ bits .and .i64 v (usesOf l1 l2 t) = v) (hl : 0 ≤ l ∧ l ≤ 1099511627776) (hs : ¬ ((rd_T59 l1 t).f2 > 0 ∧ l > (rd_T59 l1 t).f2)) (hz : l = 0 → (rd_T59 l1 t).f2 = 0) : grantOf l1 l2 t v l = (v, l, 0) := by
  unfold grantOf
  rw [if_pos (⟨hok.1, hok.2.1⟩ : t ≥ 0 ∧ t < (l1.length : Int)), if_pos (⟨hok.2.2.1, hl.1, hl.2⟩ : bits .and .i64 v 956 = v ∧ 0 ≤ l ∧ l ≤ 1099511627776), if_pos (show bits .and .i64 v (usesOf l1 l2 t) = v ∧ ¬ ((rd_T59 l1 t).f2 > 0 ∧ l > (rd_T59 l1 t).f2) from ⟨hok.2.2.2, hs⟩)]
  by_cases h0 : l = 0
  · rw [if_pos h0, hz h0, h0]
  · rw [if_neg h0]
theorem PermGrantNarrows (a0 : ByteArray) (l1 : List S59) (l2 : List S55) (l3 : List S33) (_k1 : ∀ x ∈ l1, ok59 x) (_k2 : ∀ x ∈ l2, ok55 x) (_k3 : ∀ x ∈ l3, ok33 x) (n0 n1 n2 : Int) (_w0 : wf n0) (w1 : wf n1) (_w2 : wf n2) (fewer : Int) (_wf : (Lit.int .i64 fewer).wf = true) (less : Int) (wl : (Lit.int .u16 less).wf = true) :
    ∃ (k : Nat) (few : Bool), custodyref14_Few.f k a0 l1 l2 l3 = some few ∧ (few = true → ∃ u life er, perm_Grant.f k a0 l1 l2 l3 n0 n1 n2 = some (u, life, er) ∧ (er ≠ 0 → u = 0 ∧ life = 0) ∧ (er = 0 → u = n1 ∧ ∃ us, perm_Uses.f a0 l1 l2 l3 n0 = some us ∧ perm_Subset.f u us = some true ∧ perm_Subset.f u 956 = some true ∧ (0 ≤ life → life ≤ 1099511627776 → perm_Grant.f k a0 l1 l2 l3 n0 u life = some (u, life, 0) ∧ perm_Grant.f k a0 l1 l2 l3 n0 (bits .and .i64 u fewer) (if life > 1 then wrap64 (1 + Int.tmod (wrap64 less) life) else life) = some (bits .and .i64 u fewer, (if life > 1 then wrap64 (1 + Int.tmod (wrap64 less) life) else life), 0)))) := by
  have f1 := wf_fits w1
  have hw : wrap64 less = less := by
    simp only [Lit.wf, Bool.and_eq_true, decide_eq_true_eq] at wl
    have h1 := wl.1
    have h2 := wl.2
    simp [IntKind.min, IntKind.max, IntKind.bits, IntKind.signed] at h1 h2
    unfold wrap64
    omega
  rw [hw]
  have hless : 0 ≤ less := by
    simp only [Lit.wf, Bool.and_eq_true, decide_eq_true_eq] at wl
    have := wl.1
    simp [IntKind.min, IntKind.signed] at this
    exact this
  obtain ⟨b, hb, hb2⟩ := few_eq (k := 10000) (by omega) a0 l1 l2 l3
  refine ⟨10000, b, hb, fun _ => ?_⟩
  by_cases c1 : n0 ≥ 0 ∧ n0 < (l1.length : Int)
  · by_cases c2 : bits .and .i64 n1 956 = n1 ∧ 0 ≤ n2 ∧ n2 ≤ 1099511627776
    · by_cases c3 : bits .and .i64 n1 (usesOf l1 l2 n0) = n1 ∧ ¬ ((rd_T59 l1 n0).f2 > 0 ∧ n2 > (rd_T59 l1 n0).f2)
      · have hg : grantOf l1 l2 n0 n1 n2 = (n1, (if n2 = 0 then (rd_T59 l1 n0).f2 else n2), 0) := by
          unfold grantOf
          rw [if_pos c1, if_pos c2, if_pos c3]
        refine ⟨n1, (if n2 = 0 then (rd_T59 l1 n0).f2 else n2), 0, by rw [grant_eq a0 l1 l2 l3 n0 n1 n2 f1 (by omega), hg], fun z => absurd rfl z, fun _ => ⟨rfl, usesOf l1 l2 n0, by unfold perm_Uses.f; rw [if_pos c1], by rw [subset_eq _ f1, refsub, decide_eq_true c3.1], by rw [subset_eq _ f1, refsub, decide_eq_true c2.1], fun h1 h2 => ?_⟩⟩
        have hz : (if n2 = 0 then (rd_T59 l1 n0).f2 else n2) = 0 → (rd_T59 l1 n0).f2 = 0 := by
          split
          · exact id
          · intro z; omega
        have hs : ¬ ((rd_T59 l1 n0).f2 > 0 ∧ (if n2 = 0 then (rd_T59 l1 n0).f2 else n2) > (rd_T59 l1 n0).f2) := by
          split
          · omega
          · exact c3.2
        generalize (if n2 = 0 then (rd_T59 l1 n0).f2 else n2) = life at h1 h2 hz hs
        refine ⟨?_, ?_⟩
        · rw [grant_eq a0 l1 l2 l3 n0 n1 life f1 (by omega)]
          exact congrArg some (grantOf_again ⟨c1.1, c1.2, c2.1, c3.1⟩ ⟨h1, h2⟩ hs hz)
        · rw [grant_eq a0 l1 l2 l3 n0 _ _ (fits_bits _ _ _) (by omega)]
          refine congrArg some (grantOf_again ⟨c1.1, c1.2, bits_sub f1 c2.1, bits_sub f1 c3.1⟩ ?_ ?_ ?_)
          · split
            · rename_i hl
              have := short_le hless hl h2
              omega
            · exact ⟨h1, h2⟩
          · split
            · rename_i hl
              have := short_le hless hl h2
              omega
            · exact hs
          · split
            · rename_i hl
              have := short_le hless hl h2
              intro z; omega
            · exact hz
      · refine ⟨0, 0, 10, by rw [grant_eq a0 l1 l2 l3 n0 n1 n2 f1 (by omega)]; unfold grantOf; rw [if_pos c1, if_pos c2, if_neg c3], fun _ => ⟨rfl, rfl⟩, fun z => absurd z (by decide)⟩
    · refine ⟨0, 0, 1, by rw [grant_eq a0 l1 l2 l3 n0 n1 n2 f1 (by omega)]; unfold grantOf; rw [if_pos c1, if_neg c2], fun _ => ⟨rfl, rfl⟩, fun z => absurd z (by decide)⟩
  · refine ⟨0, 0, 11, by rw [grant_eq a0 l1 l2 l3 n0 n1 n2 f1 (by omega)]; unfold grantOf; rw [if_neg c1], fun _ => ⟨rfl, rfl⟩, fun z => absurd z (by decide)⟩
end Go.Proofs.YthldfkjnjcagjaaDoor.Pure
