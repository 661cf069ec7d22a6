import Derived.Test.YtfdhnpdppkcdeaaDoorPx20
import Derived.Test.YtfdhnpdppkcdeaaDoorSecG
namespace Go.Proofs.YtfdhnpdppkcdeaaDoor.Pure
open Go.RowKit Go.Proofs.YtfdhnpdppkcdeaaDoor.P Go.Proofs.YtfdhnpdppkcdeaaDoorW.PrintWords Go.Proofs.YtfdhnpdppkcdeaaDoorW.PrintLast Go.Proofs.YtfdhnpdppkcdeaaDoorW.PrintMore
theorem torn_j1 (k : Nat) (hk : 100 ≤ k) (a0 a1 : ByteArray) (x : Int) (b : Bool) (h : b = true ∨ (0 ≤ x ∧ x ≤ 64 ∧ a0.size = 64 ∧ a1.size = 64 ∧ EndsEq (bytesOf a0) ∧ EndsEq (bytesOf a1) ∧ (bytesOf a0).take 8 ≠ (bytesOf a1).take 8)) : custodylaw24_SectorTorn.j1 k a0 a1 x b = some true := by
  obtain ⟨k, rfl⟩ : ∃ m, k = m + 1 := ⟨k - 1, by omega⟩
  rw [custodylaw24_SectorTorn.j1, sanity_ok (by omega)]
  cases b with
  | true => rfl
  | false =>
    obtain ⟨h1, h2, h3, h4, h5, h6, h7⟩ := h.resolve_left (by simp)
    obtain ⟨n, rfl⟩ := Int.eq_ofNat_of_zero_le h1
    rw [if_neg (by simp), if_pos h1, if_pos (by omega), if_pos (by omega), Int.toNat_natCast, if_pos (by rw [ByteArray.size_extract, ByteArray.size_extract]; omega), open_eq _ (by omega), Option.bind_some, Option.bind_some, if_pos rfl]
    have hb : bytesOf (a0.extract 0 n ++ a1.extract n a1.size) = (bytesOf a0).take n ++ (bytesOf a1).drop n := by
      rw [bytesOf_append, bytesOf_extract, bytesOf_extract, List.drop_zero, List.take_of_length_le (l := bytesOf a1) (by rw [bytesOf_length]; exact Nat.le_refl _)]
    have inj : ∀ x y : ByteArray, x.toList = y.toList ↔ x = y := fun x y => ⟨fun z => bytesOf_inj (by unfold bytesOf; rw [toList_eq, toList_eq] at z; rw [z]), fun z => by rw [z]⟩
    have hs : (a0.extract 0 n ++ a1.extract n a1.size).size = 64 := by rw [ByteArray.size_append, ByteArray.size_extract, ByteArray.size_extract]; omega
    rcases openS_kind hs with ⟨z1, z2⟩ | z
    · rcases mixed_ends (by rw [bytesOf_length]; exact h3) h5 h6 h7 (by omega) (hb ▸ z2.1) with e | e
      · rw [if_pos ((inj _ _).2 (bytesOf_inj (by rw [hb, e])))]
      · by_cases e0 : (a0.extract 0 n ++ a1.extract n a1.size).toList = a0.toList
        · rw [if_pos e0]
        · rw [if_neg e0, if_pos ((inj _ _).2 (bytesOf_inj (by rw [hb, e])))]
    · rw [z]
      split
      · rfl
      · split
        · rfl
        · rfl
theorem torn_j0 (k : Nat) (hk : 101 ≤ k) (a0 a1 : ByteArray) (x e1 e2 n1 n2 : Int) (q1 q2 : Int) (t1 : ByteArray) (p1 p2 : Int) (t2 : ByteArray)
    (h : e1 = 0 → e2 = 0 → n1 ≠ n2 → a0.size = 64 ∧ a1.size = 64 ∧ EndsEq (bytesOf a0) ∧ EndsEq (bytesOf a1) ∧ (bytesOf a0).take 8 ≠ (bytesOf a1).take 8) :
    custodylaw24_SectorTorn.j0 k a0 a1 x e1 e2 n1 q1 q2 t1 n2 p1 p2 t2 = some true := by
  obtain ⟨k, rfl⟩ : ∃ m, k = m + 1 := ⟨k - 1, by omega⟩
  rw [custodylaw24_SectorTorn.j0]
  have yes := torn_j1 k (by omega) a0 a1 x true (.inl rfl)
  by_cases c1 : e1 = 0
  · rw [if_pos c1]
    by_cases c2 : e2 = 0
    · rw [if_pos c2]
      by_cases c3 : n1 = n2
      · rw [if_pos c3, yes]
      · rw [if_neg c3]
        by_cases c4 : x < 0
        · rw [if_pos c4, yes]
        · rw [if_neg c4]
          by_cases c5 : x > 64
          · rw [decide_eq_true c5, yes]
          · exact torn_j1 k (by omega) a0 a1 x _ (.inr ⟨by omega, by omega, h c1 c2 c3⟩)
    · rw [if_neg c2, yes]
  · rw [if_neg c1, yes]
theorem SectorTorn (a0 : ByteArray) (_w0 : a0.size ≤ 140737488355328) (a1 : ByteArray) (_w1 : a1.size ≤ 140737488355328) (a2 : Bool) (a3 : Int) (_w3 : (Lit.int .i64 a3).wf = true) : ∃ k, custodylaw24_SectorTorn.f k a0 a1 a2 a3 = some true := by
  refine ⟨1000, ?_⟩
  unfold custodylaw24_SectorTorn.f
  rw [open_eq _ (by omega), open_eq _ (by omega), Option.bind_some, Option.bind_some]
  cases a2 with
  | true =>
    rw [if_pos rfl, if_pos (by omega)]
    refine torn_j0 _ (by omega) _ _ _ _ _ _ _ _ _ _ _ _ _ (fun e1 _ _ => ?_)
    obtain ⟨z1, z2, z3⟩ := openS_ok e1
    refine ⟨z1, by rw [size_strOfNums _ (byte_rep _)]; rfl, z2.1, ?_, ?_⟩
    · rw [bytesOf_strOfNums (byte_rep _)]; rfl
    · rw [bytesOf_strOfNums (byte_rep _)]
      intro e
      have h1 := z2.2.1
      unfold numOf at h1
      rw [e] at h1
      exact absurd h1 (by decide)
  | false =>
    rw [if_neg (by simp)]
    refine torn_j0 _ (by omega) _ _ _ _ _ _ _ _ _ _ _ _ _ (fun e1 e2 hn => ?_)
    obtain ⟨z1, z2, z3⟩ := openS_ok e1
    obtain ⟨y1, y2, y3⟩ := openS_ok e2
    refine ⟨z1, y1, z2.1, y2.1, fun e => hn ?_⟩
    rw [z3, y3]
    show numOf a0 = numOf a1
    unfold numOf
    rw [e]
end Go.Proofs.YtfdhnpdppkcdeaaDoor.Pure
