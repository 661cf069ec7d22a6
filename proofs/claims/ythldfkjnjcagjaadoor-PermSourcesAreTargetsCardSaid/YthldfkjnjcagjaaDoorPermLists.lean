/- Plain Lean about layer 14: Sources and Targets, in the program (sort, then compact) and in the specification (insert one by one). -/
import Derived.Test.YthldfkjnjcagjaaDoorPermPure
import Derived.Test.YthldfkjnjcagjaaDoorPx4
import Derived.Test.YthldfkjnjcagjaaDoorPx14
import Derived.Test.YthldfkjnjcagjaaDoorPx15
import Derived.Test.YthldfkjnjcagjaaDoorPx18
import Derived.Test.YthldfkjnjcagjaaDoorHandLists
import Derived.Test.YthldfkjnjcagjaaDoorPx21
import Derived.Test.YthldfkjnjcagjaaDoorPx22
import Derived.Test.YthldfkjnjcagjaaDoorPx5
import Derived.Test.YthldfkjnjcagjaaDoorPx28
import Derived.Test.YthldfkjnjcagjaaDoorPx23
import Derived.Test.YthldfkjnjcagjaaDoorPx8
namespace Go.Proofs.YthldfkjnjcagjaaDoor.P
open Go.RowKit Go.Lib Go.Proofs.YthldfkjnjcagjaaDoorW.PrintWords Go.Proofs.YthldfkjnjcagjaaDoorW.PrintMore Go.Proofs.YthldfkjnjcagjaaDoorW.PrintLast

theorem compactUpTo_strict (d : Array Int) (hs : ∀ i j : Nat, i ≤ j → j < d.size → d[i]! ≤ d[j]!) : ∀ m : Nat, m ≤ d.size →
    (Lib.compactUpTo d m).Pairwise (· < ·) ∧ (∀ x ∈ Lib.compactUpTo d m, 0 < m ∧ x ≤ d[m - 1]!) ∧ ∀ x, x ∈ Lib.compactUpTo d m ↔ ∃ j, j < m ∧ d[j]! = x
  | 0, _ => by simp [Lib.compactUpTo]
  | m + 1, hm => by
    obtain ⟨h1, h2, h3⟩ := compactUpTo_strict d hs m (by omega)
    rw [Lib.compactUpTo_succ]
    by_cases hk : Lib.keeps d m = true
    · rw [if_pos hk]
      have hlt : ∀ x ∈ Lib.compactUpTo d m, x < d[m]! := by
        intro x hx
        obtain ⟨hm0, hx2⟩ := h2 x hx
        have hne : d[m]! ≠ d[m - 1]! := by
          unfold Lib.keeps at hk
          rcases of_decide_eq_true hk with h | h
          · omega
          · exact h
        have := hs (m - 1) m (by omega) (by omega)
        omega
      refine ⟨?_, ?_, ?_⟩
      · rw [List.pairwise_append]
        exact ⟨h1, by simp, fun x hx y hy => by rw [List.mem_singleton] at hy; subst hy; exact hlt x hx⟩
      · intro x hx
        rw [List.mem_append, List.mem_singleton] at hx
        refine ⟨by omega, ?_⟩
        rw [Nat.add_sub_cancel]
        rcases hx with hx | hx
        · have := hlt x hx; omega
        · omega
      · intro x
        rw [List.mem_append, List.mem_singleton, h3]
        constructor
        · rintro (⟨j, hj, e⟩ | e)
          · exact ⟨j, by omega, e⟩
          · exact ⟨m, by omega, e.symm⟩
        · rintro ⟨j, hj, e⟩
          by_cases h : j = m
          · subst h; exact .inr e.symm
          · exact .inl ⟨j, by omega, e⟩
    · rw [if_neg hk, List.append_nil]
      have hz : ¬ (m = 0 ∨ d[m]! ≠ d[m - 1]!) := by
        intro z
        exact hk (decide_eq_true z)
      have hm0 : m ≠ 0 := fun z => hz (.inl z)
      have he : d[m]! = d[m - 1]! := by
        by_cases h : d[m]! = d[m - 1]!
        · exact h
        · exact absurd (.inr h) hz
      refine ⟨h1, ?_, ?_⟩
      · intro x hx
        refine ⟨by omega, ?_⟩
        rw [Nat.add_sub_cancel, he]
        exact (h2 x hx).2
      · intro x
        rw [h3]
        constructor
        · rintro ⟨j, hj, e⟩
          exact ⟨j, by omega, e⟩
        · rintro ⟨j, hj, e⟩
          by_cases h : j = m
          · subst h; exact ⟨j - 1, by omega, by rw [← he]; exact e⟩
          · exact ⟨j, by omega, e⟩
theorem sorted_strict (zs : List Int) : (Lib.compact (sortedOf zs)).Pairwise (· < ·) ∧ ∀ x, x ∈ Lib.compact (sortedOf zs) ↔ x ∈ zs := by
  have hp : (sortedOf zs).Pairwise (fun x y => decide (x ≤ y) = true) := List.pairwise_mergeSort (fun a b c h1 h2 => by simp only [decide_eq_true_eq] at *; omega) (fun a b => by simp only [Bool.or_eq_true, decide_eq_true_eq]; omega) zs
  have hs : ∀ i j : Nat, i ≤ j → j < (sortedOf zs).toArray.size → (sortedOf zs).toArray[i]! ≤ (sortedOf zs).toArray[j]! := by
    intro i j hij hj
    have hj2 : j < (sortedOf zs).length := by simpa using hj
    have hi2 : i < (sortedOf zs).length := by omega
    rw [getElem!_pos (sortedOf zs).toArray i (by simpa using hi2), getElem!_pos (sortedOf zs).toArray j hj]
    by_cases h : i = j
    · subst h; exact Int.le_refl _
    · have := List.pairwise_iff_getElem.1 hp i j hi2 hj2 (by omega)
      simpa using this
  obtain ⟨h1, _, h3⟩ := compactUpTo_strict (sortedOf zs).toArray hs (sortedOf zs).length (by simp)
  refine ⟨h1, fun x => (h3 x).trans ?_⟩
  rw [← List.mem_mergeSort (le := fun x y => decide (x ≤ y)) (l := zs), List.mem_iff_getElem]
  constructor
  · rintro ⟨j, hj, e⟩
    exact ⟨j, hj, by rw [← e, getElem!_pos (sortedOf zs).toArray j (by simpa using hj)]; rfl⟩
  · rintro ⟨j, hj, e⟩
    exact ⟨j, hj, by rw [← e, getElem!_pos (sortedOf zs).toArray j (by simpa [sortedOf] using hj)]; rfl⟩
theorem distinctOf_strict (val : S55 → Int) (is : S55 → Bool) (l : List S55) : (distinctOf val is l).Pairwise (· < ·) ∧ ∀ x, x ∈ distinctOf val is l ↔ ∃ r ∈ l, is r = true ∧ val r = x := by
  obtain ⟨h1, h2⟩ := sorted_strict (selOf val is l)
  refine ⟨h1, fun x => (h2 x).trans ?_⟩
  unfold selOf
  rw [List.mem_map]
  constructor
  · rintro ⟨r, hr, e⟩
    rw [List.mem_filter] at hr
    exact ⟨r, hr.1, hr.2, e⟩
  · rintro ⟨r, h1, h2, e⟩
    exact ⟨r, List.mem_filter.2 ⟨h1, h2⟩, e⟩

theorem rd_at (l : List Int) {i : Nat} (h : i < l.length) : rd l (i : Int) = l[i] := by
  unfold rd
  rw [Int.toNat_natCast, List.getD_eq_getElem?_getD, List.getElem?_eq_getElem h]
  rfl
theorem rd55 (l : List S55) {i : Nat} (h : i < l.length) : rd_T55 l (i : Int) = l[i] := by
  unfold rd_T55
  rw [Int.toNat_natCast, List.getD_eq_getElem?_getD, List.getElem?_eq_getElem h]
  rfl
theorem distinct_length (val : S55 → Int) (is : S55 → Bool) (l : List S55) : (distinctOf val is l).length ≤ l.length := by
  unfold distinctOf
  exact Nat.le_trans (compact_le _) (by rw [sortedOf_length]; exact selOf_le _ _ _)
theorem holds_l0 (l : List Int) (n : Int) (hb : l.length ≤ 1000) : ∀ (d k i : Nat), l.length - i = d → i ≤ l.length → d < k → custodyref14_Holds.l0 k l n (i : Int) = some (decide (n ∈ l.drop i))
  | 0, k, i, hd, hi, hk => by
    obtain ⟨k, rfl⟩ : ∃ m, k = m + 1 := ⟨k - 1, by omega⟩
    rw [custodyref14_Holds.l0, if_neg (by omega), List.drop_eq_nil_of_le (by omega)]
    simp
  | d + 1, k, i, hd, hi, hk => by
    obtain ⟨k, rfl⟩ : ∃ m, k = m + 1 := ⟨k - 1, by omega⟩
    have hlt : i < l.length := by omega
    have e2 : wrap64 ((i : Int) + 1) = ((i + 1 : Nat) : Int) := by unfold wrap64; omega
    rw [custodyref14_Holds.l0, if_pos (by omega), if_pos (by omega), rd_at l hlt, e2, List.drop_eq_getElem_cons hlt]
    by_cases h : l[i] = n
    · rw [if_pos h, decide_eq_true (by rw [h]; simp)]
    · rw [if_neg h, holds_l0 l n hb d k (i + 1) (by omega) (by omega) (by omega)]
      congr 1
      rw [Bool.eq_iff_iff, decide_eq_true_eq, decide_eq_true_eq, List.mem_cons]
      constructor
      · exact .inr
      · rintro (e | e)
        · exact absurd e.symm h
        · exact e
theorem holds_eq {k : Nat} (l : List Int) (n : Int) (hb : l.length ≤ 1000) (hk : 1001 ≤ k) : custodyref14_Holds.f k l n = some (decide (n ∈ l)) :=
  holds_l0 l n hb l.length k 0 (by omega) (by omega) (by omega)
def mayIs (kind a b : Int) (x : S55) : Bool := x.f0 == kind && (x.f1 == a && x.f2 == b)
theorem may_l0 (kind a b : Int) (l2 : List S55) (hb : l2.length ≤ 1000) : ∀ (d k i : Nat), l2.length - i = d → i ≤ l2.length → d < k → ∃ z, api_Rule_45.l0 k l2 (l2.length : Int) (i : Int) kind a b = some z ∧ decide (z ≥ 0) = (l2.drop i).any (mayIs kind a b)
  | 0, k, i, hd, hi, hk => by
    obtain ⟨k, rfl⟩ : ∃ m, k = m + 1 := ⟨k - 1, by omega⟩
    refine ⟨-1, by rw [api_Rule_45.l0, if_neg (by omega)], ?_⟩
    rw [List.drop_eq_nil_of_le (by omega)]
    rfl
  | d + 1, k, i, hd, hi, hk => by
    obtain ⟨k, rfl⟩ : ∃ m, k = m + 1 := ⟨k - 1, by omega⟩
    have hlt : i < l2.length := by omega
    have e2 : wrap64 ((i : Int) + 1) = ((i + 1 : Nat) : Int) := by unfold wrap64; omega
    rw [api_Rule_45.l0, if_pos (by omega), if_pos (by omega), if_pos (by omega), rd55 l2 hlt, e2, List.drop_eq_getElem_cons hlt, List.any_cons]
    have hc : (kind == l2[i].f0 && (a == l2[i].f1 && b == l2[i].f2)) = mayIs kind a b l2[i] := by
      unfold mayIs
      rw [Bool.beq_comm (a := kind), Bool.beq_comm (a := a), Bool.beq_comm (a := b)]
    rw [hc]
    by_cases h : mayIs kind a b l2[i] = true
    · rw [if_pos h]
      exact ⟨_, rfl, by rw [h, Bool.true_or]; exact decide_eq_true (by omega)⟩
    · rw [if_neg h, (by simpa using h : mayIs kind a b l2[i] = false), Bool.false_or]
      exact may_l0 kind a b l2 hb d k (i + 1) (by omega) (by omega) (by omega)
theorem may_eq {k : Nat} (kind a b : Int) (a0 : ByteArray) (l1 : List S59) (l2 : List S55) (l3 : List S33) (hb : l2.length ≤ 1000) (hk : 1001 ≤ k) : perm_May.f k a0 l1 l2 l3 kind a b = some (l2.any (mayIs kind a b)) := by
  obtain ⟨z, h1, h2⟩ := may_l0 kind a b l2 hb l2.length k 0 (by omega) (by omega) (by omega)
  unfold perm_May.f api_Rule_42.f api_Rule_45.f
  rw [show (0 : Int) = ((0 : Nat) : Int) from rfl, h1, Option.bind_some, Option.bind_some]
  exact congrArg some h2
theorem any_mem_iff (kind a b : Int) (l2 : List S55) : l2.any (mayIs kind a b) = true ↔ (⟨kind, a, b⟩ : S55) ∈ l2 := by
  rw [List.any_eq_true]
  constructor
  · rintro ⟨⟨p, q, r⟩, hx, h⟩
    unfold mayIs at h
    simp only [Bool.and_eq_true, beq_iff_eq] at h
    obtain ⟨rfl, rfl, rfl⟩ := h
    exact hx
  · intro h
    exact ⟨_, h, by simp [mayIs]⟩
theorem src_holds (kind a b : Int) (l2 : List S55) : decide (a ∈ distinctOf (fun x => x.f1) (srcIs kind b) l2) = l2.any (mayIs kind a b) := by
  rw [Bool.eq_iff_iff, decide_eq_true_eq, any_mem_iff, (distinctOf_strict _ _ _).2]
  constructor
  · rintro ⟨⟨p, q, r⟩, hx, h, rfl⟩
    unfold srcIs at h
    simp only [Bool.and_eq_true, beq_iff_eq] at h
    obtain ⟨rfl, rfl⟩ := h
    exact hx
  · intro h
    exact ⟨_, h, by simp [srcIs], rfl⟩
theorem tgt_holds (kind a b : Int) (l2 : List S55) : decide (b ∈ distinctOf (fun x => x.f2) (tgtIs kind a) l2) = l2.any (mayIs kind a b) := by
  rw [Bool.eq_iff_iff, decide_eq_true_eq, any_mem_iff, (distinctOf_strict _ _ _).2]
  constructor
  · rintro ⟨⟨p, q, r⟩, hx, h, rfl⟩
    unfold tgtIs at h
    simp only [Bool.and_eq_true, beq_iff_eq] at h
    obtain ⟨rfl, rfl⟩ := h
    exact hx
  · intro h
    exact ⟨_, h, by simp [tgtIs], rfl⟩
end Go.Proofs.YthldfkjnjcagjaaDoor.P
