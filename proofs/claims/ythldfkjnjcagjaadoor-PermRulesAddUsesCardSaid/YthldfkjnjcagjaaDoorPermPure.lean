/- Plain Lean about layer 14: Subset, Few, Uses and Grant, in the program and in the specification. -/
import Derived.Laws.BitsLemmas
import Derived.Laws.Closers25b
import Derived.Test.YthldfkjnjcagjaaDoorHandUses
import Derived.Test.YthldfkjnjcagjaaDoorPx9
import Derived.Test.YthldfkjnjcagjaaDoorPx12
import Derived.Test.YthldfkjnjcagjaaDoorPx26
namespace Go.Proofs.YthldfkjnjcagjaaDoor.P
open Go.RowKit Go.Proofs.YthldfkjnjcagjaaDoorW.PrintWords Go.Proofs.YthldfkjnjcagjaaDoorW.PrintMore Go.Proofs.YthldfkjnjcagjaaDoorW.PrintLast

def Fits (n : Int) : Prop := -9223372036854775808 ≤ n ∧ n ≤ 9223372036854775807
theorem wrap_toInt (x : BitVec 64) : IntKind.i64.wrap (x.toNat : Int) = x.toInt := by
  rw [IntKind.wrap_i64, BitVec.toInt_eq_toNat_cond]
  have := x.isLt
  split <;> omega
theorem ofInt_toInt {n : Int} (h : Fits n) : (BitVec.ofInt 64 n).toInt = n := by
  rw [BitVec.toInt_ofInt]
  obtain ⟨h1, h2⟩ := h
  exact Int.bmod_eq_of_le (by omega) (by omega)
theorem bits_and (a b : Int) : bits .and .i64 a b = (BitVec.ofInt 64 a &&& BitVec.ofInt 64 b).toInt := by rw [← wrap_toInt]; rfl
theorem bits_or (a b : Int) : bits .or .i64 a b = (BitVec.ofInt 64 a ||| BitVec.ofInt 64 b).toInt := by rw [← wrap_toInt]; rfl
theorem bits_andNot (a b : Int) : bits .andNot .i64 a b = (BitVec.ofInt 64 a &&& ~~~ BitVec.ofInt 64 b).toInt := by rw [← wrap_toInt]; rfl
theorem bv_subset (x y : BitVec 64) : x &&& ~~~ y = 0#64 ↔ x &&& y = x := by
  constructor
  · intro h
    refine BitVec.eq_of_getLsbD_eq (fun i hi => ?_)
    have h1 := congrArg (fun z => z.getLsbD i) h
    simp only [BitVec.getLsbD_and, BitVec.getLsbD_not, BitVec.getLsbD_zero, decide_eq_true hi, Bool.true_and] at h1
    rw [BitVec.getLsbD_and]
    generalize x.getLsbD i = p at h1 ⊢
    generalize y.getLsbD i = q at h1 ⊢
    cases p <;> cases q <;> simp at h1 ⊢
  · intro h
    refine BitVec.eq_of_getLsbD_eq (fun i hi => ?_)
    have h1 := congrArg (fun z => z.getLsbD i) h
    simp only [BitVec.getLsbD_and] at h1
    rw [BitVec.getLsbD_and, BitVec.getLsbD_not, BitVec.getLsbD_zero, decide_eq_true hi, Bool.true_and]
    generalize x.getLsbD i = p at h1 ⊢
    generalize y.getLsbD i = q at h1 ⊢
    cases p <;> cases q <;> simp at h1 ⊢
theorem subset_eq {a : Int} (b : Int) (ha : Fits a) : perm_Subset.f a b = custodyref14_Subset.f a b := by
  unfold perm_Subset.f custodyref14_Subset.f
  congr 1
  rw [Bool.eq_iff_iff, beq_iff_eq, beq_iff_eq, bits_andNot, bits_and]
  have e := ofInt_toInt ha
  constructor
  · intro h
    have : BitVec.ofInt 64 a &&& ~~~ BitVec.ofInt 64 b = 0#64 := BitVec.eq_of_toInt_eq (by rw [h]; rfl)
    rw [(bv_subset _ _).1 this, e]
  · intro h
    have : BitVec.ofInt 64 a &&& BitVec.ofInt 64 b = BitVec.ofInt 64 a := BitVec.eq_of_toInt_eq (by rw [h, e])
    rw [(bv_subset _ _).2 this]
    rfl
theorem fits_bits (op : BinOp) (a b : Int) : Fits (bits op .i64 a b) := ⟨bits_lo_i64 op a b, bits_hi_i64 op a b⟩
theorem or_zero {u : Int} (h : Fits u) : bits .or .i64 u 0 = u := by
  rw [bits_or, show BitVec.ofInt 64 0 = 0#64 from rfl, BitVec.or_zero, ofInt_toInt h]

/-! ### Few -/
theorem few_l0 (a0 : ByteArray) (l1 : List S59) (l2 : List S55) (l3 : List S33) (h40 : l1.length ≤ 40) : ∀ (d k i : Nat), l1.length - i = d → i ≤ l1.length → d < k → ∃ b, custodyref14_Few.l0 k (i : Int) a0 l1 l2 l3 = some b
  | 0, k, i, hd, hi, hk => by
    obtain ⟨k, rfl⟩ : ∃ m, k = m + 1 := ⟨k - 1, by omega⟩
    rw [custodyref14_Few.l0, if_neg (by omega)]
    exact ⟨_, rfl⟩
  | d + 1, k, i, hd, hi, hk => by
    obtain ⟨k, rfl⟩ : ∃ m, k = m + 1 := ⟨k - 1, by omega⟩
    have e2 : wrap64 ((i : Int) + 1) = ((i + 1 : Nat) : Int) := by unfold wrap64; omega
    rw [custodyref14_Few.l0, if_pos (by omega), if_pos (by omega), e2]
    split
    · exact ⟨_, rfl⟩
    · exact few_l0 a0 l1 l2 l3 h40 d k (i + 1) (by omega) (by omega) (by omega)
theorem few_eq {k : Nat} (hk : 50 ≤ k) (a0 : ByteArray) (l1 : List S59) (l2 : List S55) (l3 : List S33) : ∃ b, custodyref14_Few.f k a0 l1 l2 l3 = some b ∧ (b = true → l1.length ≤ 40 ∧ l2.length ≤ 100 ∧ l3.length ≤ 40) := by
  obtain ⟨k, rfl⟩ : ∃ m, k = m + 1 := ⟨k - 1, by omega⟩
  unfold custodyref14_Few.f
  by_cases h1 : (l1.length : Int) > 40
  · rw [if_pos h1, custodyref14_Few.j0, if_pos rfl]; exact ⟨_, rfl, fun z => by simp at z⟩
  · rw [if_neg h1]
    by_cases h2 : (l2.length : Int) > 100
    · rw [if_pos h2, custodyref14_Few.j0, if_pos rfl]; exact ⟨_, rfl, fun z => by simp at z⟩
    · rw [if_neg h2, custodyref14_Few.j0]
      by_cases h3 : (l3.length : Int) > 40
      · rw [decide_eq_true h3, if_pos rfl]; exact ⟨_, rfl, fun z => by simp at z⟩
      · rw [decide_eq_false h3, if_neg (by simp)]
        obtain ⟨b, hb⟩ := few_l0 a0 l1 l2 l3 (by omega) l1.length k 0 (by omega) (by omega) (by omega)
        exact ⟨b, hb, fun _ => by omega⟩

/-! ### Uses -/
theorem useRule_eq (t u : Int) (r : S55) (hu : Fits u) : useRule t u r =
    (let u1 := if r.f1 = t ∧ 1 ≤ r.f0 ∧ r.f0 ≤ 4 then bits .or .i64 u 128 else u
     let u2 := if r.f1 = t ∧ r.f0 = 5 then bits .or .i64 u1 256 else u1
     if r.f2 = t ∧ (r.f0 = 1 ∨ r.f0 = 3) then bits .or .i64 u2 512 else u2) := by
  obtain ⟨k, a, b⟩ := r
  have h0 := or_zero hu
  have h1 := or_zero (fits_bits .or u 128)
  have h2 := or_zero (fits_bits .or u 256)
  simp only [useRule, byRuleT, List.foldl, useStep]
  by_cases ha : a = t
  · by_cases hb : b = t
    · by_cases k1 : k = 1
      · subst k1; simp [ha, hb]
      · by_cases k2 : k = 2
        · subst k2; simp [ha, hb, h1]
        · by_cases k3 : k = 3
          · subst k3; simp [ha, hb]
          · by_cases k4 : k = 4
            · subst k4; simp [ha, hb, h1]
            · by_cases k5 : k = 5
              · subst k5; simp [ha, hb, h2]
              · simp [ha, hb, k1, k3, k5, Ne.symm k1, Ne.symm k2, Ne.symm k3, Ne.symm k4, Ne.symm k5]
                intro z1 z2; omega
    · by_cases k1 : k = 1
      · subst k1; simp [ha, hb]
      · by_cases k2 : k = 2
        · subst k2; simp [ha, hb]
        · by_cases k3 : k = 3
          · subst k3; simp [ha, hb]
          · by_cases k4 : k = 4
            · subst k4; simp [ha, hb]
            · by_cases k5 : k = 5
              · subst k5; simp [ha, hb]
              · simp [ha, hb, k5, Ne.symm k1, Ne.symm k2, Ne.symm k3, Ne.symm k4, Ne.symm k5]
                intro z1 z2; omega
  · by_cases hb : b = t
    · by_cases k1 : k = 1
      · subst k1; simp [ha, hb]
      · by_cases k2 : k = 2
        · subst k2; simp [ha, hb, h0]
        · by_cases k3 : k = 3
          · subst k3; simp [ha, hb]
          · by_cases k4 : k = 4
            · subst k4; simp [ha, hb, h0]
            · by_cases k5 : k = 5
              · subst k5; simp [ha, hb, h0]
              · simp [ha, hb, k1, k3, Ne.symm k1, Ne.symm k2, Ne.symm k3, Ne.symm k4, Ne.symm k5]
    · simp [ha, hb]

theorem fits_ite {c : Prop} [Decidable c] {a b : Int} (ha : Fits a) (hb : Fits b) : Fits (if c then a else b) := by split <;> assumption
theorem fits_useRule (t u : Int) (r : S55) (hu : Fits u) : Fits (useRule t u r) := by
  rw [useRule_eq t u r hu]
  exact fits_ite (fits_bits _ _ _) (fits_ite (fits_bits _ _ _) (fits_ite (fits_bits _ _ _) hu))
/-! ### Grant -/
theorem refsub (a b : Int) : custodyref14_Subset.f a b = some (decide (bits .and .i64 a b = a)) := by
  unfold custodyref14_Subset.f
  congr 1
end Go.Proofs.YthldfkjnjcagjaaDoor.P
