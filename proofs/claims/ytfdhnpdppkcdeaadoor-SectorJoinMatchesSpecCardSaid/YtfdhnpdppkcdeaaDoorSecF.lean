/- Plain Lean about layer 24: Join, in the program and in the specification; what it makes of a packed record. -/
import Derived.Test.YtfdhnpdppkcdeaaDoorSecE
import Derived.Test.YtfdhnpdppkcdeaaDoorHandJoin
import Derived.Test.YtfdhnpdppkcdeaaDoorPx16
namespace Go.Proofs.YtfdhnpdppkcdeaaDoor.P
open Go.RowKit Go.Proofs.YtfdhnpdppkcdeaaDoorW.PrintWords Go.Proofs.YtfdhnpdppkcdeaaDoorW.PrintMore Go.Proofs.YtfdhnpdppkcdeaaDoorW.PrintLast

abbrev Joined := Int × ByteArray × Int × Int
noncomputable def goS (num left n : Int) : List ByteArray → Nat → ByteArray → Joined
  | [], _, acc => (num, acc, n, 0)
  | s :: ss, i, acc =>
    if (openS s).2.2.2.2 = 0 ∧ (openS s).1 = num ∧ (openS s).2.1 = (i : Int) ∧ (openS s).2.2.1 = wrap64 (left - (i : Int) * 44) then goS num left n ss (i + 1) (acc ++ (openS s).2.2.2.1) else (0, ⟨#[]⟩, 0, 7)
noncomputable def joinS (l : List ByteArray) : Joined :=
  if l.length = 0 then (0, ⟨#[]⟩, 0, 11) else
    if (openS (rdOf ByteArray.empty l 0)).2.2.2.2 = 0 ∧ (openS (rdOf ByteArray.empty l 0)).2.1 = 0 then
      (if l.length < cnt (openS (rdOf ByteArray.empty l 0)).2.2.1.toNat then (0, ⟨#[]⟩, 0, 7)
       else goS (openS (rdOf ByteArray.empty l 0)).1 (openS (rdOf ByteArray.empty l 0)).2.2.1 (cnt (openS (rdOf ByteArray.empty l 0)).2.2.1.toNat : Nat) (l.take (cnt (openS (rdOf ByteArray.empty l 0)).2.2.1.toNat)) 0 ⟨#[]⟩)
    else (0, ⟨#[]⟩, 0, 11)

theorem openS_ok {s : ByteArray} (h : (openS s).2.2.2.2 = 0) : s.size = 64 ∧ Good s ∧ openS s = (numOf s, partOf s, leftOf s, s.extract 12 (12 + shown s), 0) := by
  unfold openS at h ⊢
  split at h
  · rename_i h1
    split at h
    · rename_i h2
      exact ⟨h1, h2, by rw [if_pos h1, if_pos h2]⟩
    · simp at h
  · simp at h
theorem openS_text (s : ByteArray) : (openS s).2.2.2.1.size ≤ 44 := by
  have := shown_le s
  unfold openS
  split
  · split
    · show (s.extract 12 (12 + shown s)).size ≤ 44
      rw [ByteArray.size_extract]; omega
    · exact Nat.zero_le _
  · exact Nat.zero_le _
theorem good_left {s : ByteArray} (h : (openS s).2.2.2.2 = 0) : 0 ≤ (openS s).2.2.1 ∧ (openS s).2.2.1 ≤ 8000 := by
  obtain ⟨h1, h2, h3⟩ := openS_ok h
  rw [h3]
  have := leftOf_bd s h1
  have := partOf_bd s h1
  have := h2.2.2.2.1
  show 0 ≤ leftOf s ∧ leftOf s ≤ 8000
  omega
theorem go_eq {k : Nat} (hk : 10 ≤ k) (num left n : Int) : ∀ (l : List ByteArray) (i : Nat) (acc : ByteArray), i + l.length ≤ 182 → acc.size ≤ 44 * i → sector_Join.go k num left n l i acc = some (goS num left n l i acc)
  | [], _, _, _, _ => rfl
  | s :: ss, i, acc, hi, ha => by
    have ht := openS_text s
    rw [List.length_cons] at hi
    have e : (acc ++ (openS s).2.2.2.1).size ≤ 44 * (i + 1) := by rw [ByteArray.size_append]; omega
    rw [sector_Join.go, goS, open_eq s hk, Option.bind_some]
    split
    · rw [if_pos (by omega), go_eq hk num left n ss (i + 1) _ (by omega) e]
    · rfl
theorem join_eq {k : Nat} (hk : 10 ≤ k) (l : List ByteArray) : sector_Join.f k l = some (joinS l) := by
  unfold sector_Join.f joinS
  by_cases h : l.length = 0
  · rw [if_pos h, if_pos h]
  · rw [if_neg h, if_neg h, open_eq _ hk, Option.bind_some]
    by_cases h2 : (openS (rdOf ByteArray.empty l 0)).2.2.2.2 = 0 ∧ (openS (rdOf ByteArray.empty l 0)).2.1 = 0
    · have hg := good_left h2.1
      generalize hq : openS (rdOf ByteArray.empty l 0) = q at h2 hg ⊢
      obtain ⟨a, ha⟩ := Int.eq_ofNat_of_zero_le hg.1
      have hc := cnt_le (n := a) (by omega)
      rw [if_pos h2, if_pos h2, ha, count_eq a (by omega), Option.bind_some, if_neg (by omega)]
      simp only [Int.toNat_natCast]
      by_cases h3 : l.length < cnt a
      · rw [if_pos (by omega), if_pos h3]
      · rw [if_neg (by omega), if_neg h3]
        exact go_eq hk _ _ _ _ 0 _ (by rw [List.length_take]; omega) (Nat.le_refl _)
    · rw [if_neg h2, if_neg h2]

theorem refjoin_l0 (l : List ByteArray) (n : Nat) (hn : n ≤ l.length) (h182 : n ≤ 182) (num part left : Int) (t : ByteArray) (hleft : 0 ≤ left ∧ left ≤ 8000) : ∀ (d k i : Nat) (acc : ByteArray), n - i = d → i ≤ n → d + 80 ≤ k → acc.size ≤ 44 * i →
    custodyref24_Join.l0 k l (n : Int) acc (i : Int) num part left t = some (goS num left n ((l.take n).drop i) i acc)
  | 0, k, i, acc, hd, hi, hk, ha => by
    obtain ⟨k, rfl⟩ : ∃ m, k = m + 1 := ⟨k - 1, by omega⟩
    have : i = n := by omega
    rw [custodyref24_Join.l0, if_neg (by omega), this, take_drop_nil, goS]
  | d + 1, k, i, acc, hd, hi, hk, ha => by
    obtain ⟨k, rfl⟩ : ∃ m, k = m + 1 := ⟨k - 1, by omega⟩
    have e1 : wrap64 ((i : Int) + 1) = ((i + 1 : Nat) : Int) := by unfold wrap64; omega
    have e2 : wrap64 (44 * (i : Int)) = (i : Int) * 44 := by unfold wrap64; omega
    have ht := openS_text (rdOf ByteArray.empty l (i : Int))
    have ha2 : (acc ++ (openS (rdOf ByteArray.empty l (i : Int))).2.2.2.1).size ≤ 44 * (i + 1) := by rw [ByteArray.size_append]; omega
    have ih := refjoin_l0 l n hn h182 num part left t hleft d k (i + 1) _ (by omega) (by omega) (by omega) ha2
    have hh : acc.size + (openS (rdOf ByteArray.empty l (i : Int))).2.2.2.1.size ≤ 9223372036854775807 := by omega
    rw [custodyref24_Join.l0, if_pos (by omega), if_pos (by omega), if_pos (by omega), refopen_eq _ (by omega), Option.bind_some, take_drop_cons l (by omega : i < n) hn, goS, e1, e2, if_pos hh, ih]
    by_cases c1 : (openS (rdOf ByteArray.empty l (i : Int))).2.2.2.2 = 0
    · rw [if_pos c1]
      by_cases c2 : (openS (rdOf ByteArray.empty l (i : Int))).1 = num
      · rw [if_pos c2]
        by_cases c3 : (openS (rdOf ByteArray.empty l (i : Int))).2.1 = (i : Int)
        · rw [if_pos c3]
          by_cases c4 : (openS (rdOf ByteArray.empty l (i : Int))).2.2.1 = wrap64 (left - (i : Int) * 44)
          · rw [if_pos c4, if_pos ⟨c1, c2, c3, c4⟩]
          · rw [if_neg c4, if_neg (fun z => c4 z.2.2.2)]
        · rw [if_neg c3, if_neg (fun z => c3 z.2.2.1)]
      · rw [if_neg c2, if_neg (fun z => c2 z.2.1)]
    · rw [if_neg c1, if_neg (fun z => c1 z.1)]
theorem refjoin_eq {k : Nat} (hk : 300 ≤ k) (l : List ByteArray) : custodyref24_Join.f k l = some (joinS l) := by
  obtain ⟨k, rfl⟩ : ∃ m, k = m + 1 := ⟨k - 1, by omega⟩
  unfold custodyref24_Join.f joinS
  by_cases h : l.length = 0
  · rw [if_pos (by omega), if_pos h]
  · rw [if_neg (by omega), if_pos (by omega), if_neg h, refopen_eq _ (by omega), Option.bind_some]
    by_cases c1 : (openS (rdOf ByteArray.empty l 0)).2.2.2.2 = 0
    · have hg := good_left c1
      generalize hq : openS (rdOf ByteArray.empty l 0) = q at c1 hg ⊢
      rw [if_pos c1, custodyref24_Join.j0]
      by_cases c2 : q.2.1 = 0
      · obtain ⟨a, ha⟩ := Int.eq_ofNat_of_zero_le hg.1
        have hc := cnt_le (n := a) (by omega)
        rw [if_neg (by simp [c2]), if_pos ⟨c1, c2⟩, ha, refcount_eq, count_eq a (by omega), Option.bind_some, Int.toNat_natCast]
        by_cases h3 : l.length < cnt a
        · rw [if_pos (by omega), if_pos h3]
        · rw [if_neg (by omega), if_neg h3]
          exact refjoin_l0 l (cnt a) (by omega) hc _ _ _ _ (by omega) (cnt a) k 0 _ (by omega) (by omega) (by omega) (Nat.le_refl _)
      · rw [if_pos (by simpa using c2), if_neg (fun z => c2 z.2)]
    · rw [if_neg c1, custodyref24_Join.j0, if_pos rfl, if_neg (fun z => c1 z.1)]

/-! ### what a packed sector opens to -/
end Go.Proofs.YtfdhnpdppkcdeaaDoor.P
