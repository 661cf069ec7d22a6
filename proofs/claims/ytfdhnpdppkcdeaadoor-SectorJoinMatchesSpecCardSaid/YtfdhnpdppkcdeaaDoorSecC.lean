/- Plain Lean about layer 24: the specification's Open and Pack; the checks of the sanity function. -/
import Derived.Test.YtfdhnpdppkcdeaaDoorSecB
import Derived.Test.YtfdhnpdppkcdeaaDoorPx7
import Derived.Test.YtfdhnpdppkcdeaaDoorPx13
import Derived.Test.YtfdhnpdppkcdeaaDoorPx15
namespace Go.Proofs.YtfdhnpdppkcdeaaDoor.P
open Go.RowKit Go.Proofs.YtfdhnpdppkcdeaaDoorW.PrintWords Go.Proofs.YtfdhnpdppkcdeaaDoorW.PrintMore Go.Proofs.YtfdhnpdppkcdeaaDoorW.PrintLast

theorem refopen_l0 (s : ByteArray) (h : s.size = 64) (sh : Nat) (hsh : sh ≤ 44) (p0 p1 p2 : Int) (t : ByteArray) : ∀ (d k j : Nat), 56 - j = d → 12 + sh ≤ j → j ≤ 56 → d < k →
    ((∀ i : Nat, j ≤ i → i < 56 → bt s i = 0) → custodyref24_Open.l0 k s (sh : Int) (j : Int) p0 p1 p2 t = some (p0, p1, p2, s.extract 12 (12 + sh), 0)) ∧
    (¬ (∀ i : Nat, j ≤ i → i < 56 → bt s i = 0) → custodyref24_Open.l0 k s (sh : Int) (j : Int) p0 p1 p2 t = some (0, 0, 0, (⟨#[]⟩ : ByteArray), 7))
  | 0, k, j, hd, h1, h2, hk => by
    obtain ⟨k, rfl⟩ : ∃ m, k = m + 1 := ⟨k - 1, by omega⟩
    have e : wrap64 (12 + (sh : Int)) = ((12 + sh : Nat) : Int) := by unfold wrap64; omega
    refine ⟨fun _ => ?_, fun z => absurd (fun i a b => by omega) z⟩
    simp only [custodyref24_Open.l0]
    rw [if_neg (by omega), e, if_pos (by omega), if_pos (by omega), Int.toNat_natCast]
  | d + 1, k, j, hd, h1, h2, hk => by
    obtain ⟨k, rfl⟩ : ∃ m, k = m + 1 := ⟨k - 1, by omega⟩
    have e : wrap64 ((j : Int) + 1) = ((j + 1 : Nat) : Int) := by unfold wrap64; omega
    have ih := refopen_l0 s h sh hsh p0 p1 p2 t d k (j + 1) (by omega) (by omega) (by omega) (by omega)
    simp only [custodyref24_Open.l0]
    rw [if_pos (by omega), if_pos (by omega), if_pos (by omega), e]
    by_cases hb : bt s j = 0
    · rw [if_pos hb]
      refine ⟨fun z => ih.1 (fun i a b => z i (by omega) b), fun z => ih.2 (fun y => z (fun i a b => ?_))⟩
      by_cases hij : i = j
      · rw [hij]; exact hb
      · exact y i (by omega) b
    · rw [if_neg hb]
      exact ⟨fun z => absurd (z j (Nat.le_refl _) (by omega)) hb, fun _ => rfl⟩

theorem refopen_j0 (s : ByteArray) (h : s.size = 64) (k : Nat) (hk : 60 ≤ k) (b : Bool) (p0 p1 : Int) (t : ByteArray) :
    (b = true ∨ ¬ (∀ i : Nat, 12 + shown s ≤ i → i < 56 → bt s i = 0) → custodyref24_Open.j0 k s b p0 p1 (leftOf s) t = some (0, 0, 0, (⟨#[]⟩ : ByteArray), 7)) ∧
    (b = false → (∀ i : Nat, 12 + shown s ≤ i → i < 56 → bt s i = 0) → custodyref24_Open.j0 k s b p0 p1 (leftOf s) t = some (p0, p1, leftOf s, s.extract 12 (12 + shown s), 0)) := by
  obtain ⟨k, rfl⟩ : ∃ m, k = m + 1 := ⟨k - 1, by omega⟩
  have hl := leftOf_bd s h
  have hs44 := shown_le s
  have hsh : mn (leftOf s) 44 = (shown s : Int) := by
    unfold mn shown
    split <;> omega
  have e : wrap64 (12 + (shown s : Int)) = ((12 + shown s : Nat) : Int) := by unfold wrap64; omega
  have hh := refopen_l0 s h (shown s) hs44 p0 p1 (leftOf s) t (56 - (12 + shown s)) k (12 + shown s) rfl (Nat.le_refl _) (by omega) (by omega)
  simp only [custodyref24_Open.j0]
  rw [hsh, e]
  cases b with
  | true => exact ⟨fun _ => by rw [if_pos rfl], fun z => by simp at z⟩
  | false =>
    rw [if_neg (by simp)]
    exact ⟨fun z => hh.2 (z.resolve_left (by simp)), fun _ z => hh.1 z⟩

open Classical in
theorem refopen_eq {k : Nat} (s : ByteArray) (hk : 70 ≤ k) : custodyref24_Open.f k s = some (openS s) := by
  unfold custodyref24_Open.f openS
  by_cases h : s.size = 64
  · have hp := partOf_bd s h
    have hl := leftOf_bd s h
    have hn := numOf_bd s h
    rw [if_pos (by omega), if_pos (by omega), if_pos (by omega), refget_eq _ (by rw [ByteArray.size_extract]; omega) (by omega)]
    simp only [Option.bind_some]
    rw [if_pos (by omega), if_pos (by omega), refget_eq _ (by rw [ByteArray.size_extract]; omega) (by omega)]
    simp only [Option.bind_some]
    rw [if_pos (by omega), if_pos (by omega), refget_eq _ (by rw [ByteArray.size_extract]; omega) (by omega)]
    simp only [Option.bind_some]
    have e1 : leval (bytesOf (s.extract 0 8)) = numOf s := by rw [bytesOf_extract, List.drop_zero]; rfl
    have e2 : leval (bytesOf (s.extract 8 10)) = partOf s := by rw [bytesOf_extract]; rfl
    have e3 : leval (bytesOf (s.extract 10 12)) = leftOf s := by rw [bytesOf_extract]; rfl
    have v2 : refVal (partOf s) = partOf s := by unfold refVal; rw [if_neg (by omega)]
    have v3 : refVal (leftOf s) = leftOf s := by unfold refVal; rw [if_neg (by omega)]
    have w3 : wrap64 (44 * partOf s) = partOf s * 44 := by unfold wrap64; omega
    have w4 : wrap64 (partOf s * 44 + leftOf s) = partOf s * 44 + leftOf s := by unfold wrap64; omega
    rw [e1, e2, e3, v2, v3, w3, w4, if_pos h]
    have J := fun b p0 p1 t => refopen_j0 s h k (by omega) b p0 p1 t
    have bad : ¬ Good s → some ((0 : Int), (0 : Int), (0 : Int), (⟨#[]⟩ : ByteArray), (7 : Int)) = some (if Good s then (numOf s, partOf s, leftOf s, s.extract 12 (12 + shown s), 0) else (0, 0, 0, ⟨#[]⟩, 7)) := fun z => by rw [if_neg z]
    have he := extract_eq_iff s
    by_cases c2 : numOf s < 1
    · rw [if_pos (by unfold refVal; rw [if_neg (by omega)]; exact c2), (J _ _ _ _).1 (.inl rfl)]; exact bad (fun z => by have := z.2.1; omega)
    · by_cases c3 : numOf s > 4611686018427387904
      · rw [if_pos (by unfold refVal; rw [if_pos c3]; decide), (J _ _ _ _).1 (.inl rfl)]; exact bad (fun z => by have := z.2.2.1; omega)
      · have v1 : refVal (numOf s) = numOf s := by unfold refVal; rw [if_neg c3]
        rw [v1, if_neg c2, if_pos (by omega)]
        by_cases c1 : (bytesOf s).take 8 = (bytesOf s).drop 56
        · rw [if_pos (he.2 c1)]
          by_cases c0 : leftOf s > 8000
          · rw [if_pos c0, (J _ _ _ _).1 (.inl rfl)]; exact bad (fun z => by have := z.2.2.2.1; omega)
          · rw [if_neg c0]
            by_cases c4 : partOf s * 44 + leftOf s > 8000
            · rw [if_pos c4, (J _ _ _ _).1 (.inl rfl)]; exact bad (fun z => by have := z.2.2.2.1; omega)
            · rw [if_neg c4]
              by_cases c5 : partOf s > 0
              · rw [if_pos c5]
                by_cases c6 : leftOf s = 0
                · rw [(J _ _ _ _).1 (.inl (beq_iff_eq.2 c6))]; exact bad (fun z => z.2.2.2.2.1 ⟨c5, c6⟩)
                · by_cases c7 : (∀ i : Nat, 12 + shown s ≤ i → i < 56 → bt s i = 0)
                  · rw [(J _ _ _ _).2 (beq_eq_false_iff_ne.2 c6) c7, if_pos ⟨c1, by omega, by omega, by omega, fun z => c6 z.2, c7⟩]
                  · rw [(J _ _ _ _).1 (.inr c7)]; exact bad (fun z => c7 z.2.2.2.2.2)
              · rw [if_neg c5]
                by_cases c7 : (∀ i : Nat, 12 + shown s ≤ i → i < 56 → bt s i = 0)
                · rw [(J _ _ _ _).2 rfl c7, if_pos ⟨c1, by omega, by omega, by omega, fun z => c5 z.1, c7⟩]
                · rw [(J _ _ _ _).1 (.inr c7)]; exact bad (fun z => c7 z.2.2.2.2.2)
        · rw [if_neg (fun z => c1 (he.1 z)), (J _ _ _ _).1 (.inl rfl)]; exact bad (fun z => c1 z.1)
  · rw [if_neg (by omega), if_neg h]

/-! ### the specification's put and Pack -/
theorem refcount_eq (a : Int) : custodyref24_Count.f a = sector_Count.f a := rfl
end Go.Proofs.YtfdhnpdppkcdeaaDoor.P
