/- Plain Lean about layer 14: Subset, Few, Uses and Grant, in the program and in the specification. -/
import Derived.Laws.BitsLemmas
import Derived.Laws.Closers25b
import Derived.Test.YthldfkjnjcagjaaDoorHandUses
import Derived.Test.YthldfkjnjcagjaaDoorPx9
import Derived.Test.YthldfkjnjcagjaaDoorPx12
import Derived.Test.YthldfkjnjcagjaaDoorPx26
namespace Go.Proofs.YthldfkjnjcagjaaDoor.P
open Go.RowKit Go.Proofs.YthldfkjnjcagjaaDoorW.PrintWords Go.Proofs.YthldfkjnjcagjaaDoorW.PrintMore Go.Proofs.YthldfkjnjcagjaaDoorW.PrintLast

def Fits (n : Int) : Prop := -9223372036854775808 ≤ n ∧ n ≤ 9223372036854775807
theorem wrap_toInt (x : BitVec 64) : IntKind.i64.wrap (x.toNat : Int) = x.toInt := by
  rw [IntKind.wrap_i64, BitVec.toInt_eq_toNat_cond]
  have := x.isLt
  split <;> omega
theorem ofInt_toInt {n : Int} (h : Fits n) : (BitVec.ofInt 64 n).toInt = n := by
  rw [BitVec.toInt_ofInt]
  obtain ⟨h1, h2⟩ := h
  exact Int.bmod_eq_of_le (by omega) (by omega)
theorem bits_or (a b : Int) : bits .or .i64 a b = (BitVec.ofInt 64 a ||| BitVec.ofInt 64 b).toInt := by rw [← wrap_toInt]; rfl
theorem fits_bits (op : BinOp) (a b : Int) : Fits (bits op .i64 a b) := ⟨bits_lo_i64 op a b, bits_hi_i64 op a b⟩
theorem or_zero {u : Int} (h : Fits u) : bits .or .i64 u 0 = u := by
  rw [bits_or, show BitVec.ofInt 64 0 = 0#64 from rfl, BitVec.or_zero, ofInt_toInt h]

/-! ### Few -/
theorem few_l0 (a0 : ByteArray) (l1 : List S59) (l2 : List S55) (l3 : List S33) (h40 : l1.length ≤ 40) : ∀ (d k i : Nat), l1.length - i = d → i ≤ l1.length → d < k → ∃ b, custodyref14_Few.l0 k (i : Int) a0 l1 l2 l3 = some b
  | 0, k, i, hd, hi, hk => by
    obtain ⟨k, rfl⟩ : ∃ m, k = m + 1 := ⟨k - 1, by omega⟩
    rw [custodyref14_Few.l0, if_neg (by omega)]
    exact ⟨_, rfl⟩
  | d + 1, k, i, hd, hi, hk => by
    obtain ⟨k, rfl⟩ : ∃ m, k = m + 1 := ⟨k - 1, by omega⟩
    have e2 : wrap64 ((i : Int) + 1) = ((i + 1 : Nat) : Int) := by unfold wrap64; omega
    rw [custodyref14_Few.l0, if_pos (by omega), if_pos (by omega), e2]
    split
    · exact ⟨_, rfl⟩
    · exact few_l0 a0 l1 l2 l3 h40 d k (i + 1) (by omega) (by omega) (by omega)
theorem few_eq {k : Nat} (hk : 50 ≤ k) (a0 : ByteArray) (l1 : List S59) (l2 : List S55) (l3 : List S33) : ∃ b, custodyref14_Few.f k a0 l1 l2 l3 = some b ∧ (b = true → l1.length ≤ 40 ∧ l2.length ≤ 100 ∧ l3.length ≤ 40) := by
  obtain ⟨k, rfl⟩ : ∃ m, k = m + 1 := ⟨k - 1, by omega⟩
  unfold custodyref14_Few.f
  by_cases h1 : (l1.length : Int) > 40
  · rw [if_pos h1, custodyref14_Few.j0, if_pos rfl]; exact ⟨_, rfl, fun z => by simp at z⟩
  · rw [if_neg h1]
    by_cases h2 : (l2.length : Int) > 100
    · rw [if_pos h2, custodyref14_Few.j0, if_pos rfl]; exact ⟨_, rfl, fun z => by simp at z⟩
    · rw [if_neg h2, custodyref14_Few.j0]
      by_cases h3 : (l3.length : Int) > 40
      · rw [decide_eq_true h3, if_pos rfl]; exact ⟨_, rfl, fun z => by simp at z⟩
      · rw [decide_eq_false h3, if_neg (by simp)]
        obtain ⟨b, hb⟩ := few_l0 a0 l1 l2 l3 (by omega) l1.length k 0 (by omega) (by omega) (by omega)
        exact ⟨b, hb, fun _ => by omega⟩

/-! ### Uses -/
theorem useRule_eq (t u : Int) (r : S55) (hu : Fits u) : useRule t u r =
    (let u1 := if r.f1 = t ∧ 1 ≤ r.f0 ∧ r.f0 ≤ 4 then bits .or .i64 u 128 else u
     let u2 := if r.f1 = t ∧ r.f0 = 5 then bits .or .i64 u1 256 else u1
     if r.f2 = t ∧ (r.f0 = 1 ∨ r.f0 = 3) then bits .or .i64 u2 512 else u2) := by
  obtain ⟨k, a, b⟩ := r
  have h0 := or_zero hu
  have h1 := or_zero (fits_bits .or u 128)
  have h2 := or_zero (fits_bits .or u 256)
  simp only [useRule, byRuleT, List.foldl, useStep]
  by_cases ha : a = t
  · by_cases hb : b = t
    · by_cases k1 : k = 1
      · subst k1; simp [ha, hb]
      · by_cases k2 : k = 2
        · subst k2; simp [ha, hb, h1]
        · by_cases k3 : k = 3
          · subst k3; simp [ha, hb]
          · by_cases k4 : k = 4
            · subst k4; simp [ha, hb, h1]
            · by_cases k5 : k = 5
              · subst k5; simp [ha, hb, h2]
              · simp [ha, hb, k1, k3, k5, Ne.symm k1, Ne.symm k2, Ne.symm k3, Ne.symm k4, Ne.symm k5]
                intro z1 z2; omega
    · by_cases k1 : k = 1
      · subst k1; simp [ha, hb]
      · by_cases k2 : k = 2
        · subst k2; simp [ha, hb]
        · by_cases k3 : k = 3
          · subst k3; simp [ha, hb]
          · by_cases k4 : k = 4
            · subst k4; simp [ha, hb]
            · by_cases k5 : k = 5
              · subst k5; simp [ha, hb]
              · simp [ha, hb, k5, Ne.symm k1, Ne.symm k2, Ne.symm k3, Ne.symm k4, Ne.symm k5]
                intro z1 z2; omega
  · by_cases hb : b = t
    · by_cases k1 : k = 1
      · subst k1; simp [ha, hb]
      · by_cases k2 : k = 2
        · subst k2; simp [ha, hb, h0]
        · by_cases k3 : k = 3
          · subst k3; simp [ha, hb]
          · by_cases k4 : k = 4
            · subst k4; simp [ha, hb, h0]
            · by_cases k5 : k = 5
              · subst k5; simp [ha, hb, h0]
              · simp [ha, hb, k1, k3, Ne.symm k1, Ne.symm k2, Ne.symm k3, Ne.symm k4, Ne.symm k5]
    · simp [ha, hb]

theorem j3_eq (k : Nat) (t u x6 : Int) (b : Bool) (a0 : ByteArray) (l1 : List S59) (l2 : List S55) (l3 : List S33) (p q r : Int) : custodyref14_Uses.j3 (k + 1) t u x6 b a0 l1 l2 l3 p q r =
    custodyref14_Uses.l0 k t (if r = t ∧ (p = 1 ∨ p = 3) then bits .or .i64 (if b = true then bits .or .i64 u 256 else u) 512 else (if b = true then bits .or .i64 u 256 else u)) (wrap64 (x6 + 1)) a0 l1 l2 l3 := by
  rw [custodyref14_Uses.j3]
  by_cases hb : b = true
  · rw [if_pos hb, if_pos hb]
    by_cases hr : r = t
    · rw [if_pos hr]
      by_cases h1 : p = 1
      · rw [if_pos h1, if_pos ⟨hr, .inl h1⟩]
      · rw [if_neg h1]
        by_cases h3 : p = 3
        · rw [if_pos h3, if_pos ⟨hr, .inr h3⟩]
        · rw [if_neg h3, if_neg (fun z => z.2.elim h1 h3)]
    · rw [if_neg hr, if_neg (fun z => hr z.1)]
  · rw [if_neg hb, if_neg hb]
    by_cases hr : r = t
    · rw [if_pos hr]
      by_cases h1 : p = 1
      · rw [if_pos h1, if_pos ⟨hr, .inl h1⟩]
      · rw [if_neg h1]
        by_cases h3 : p = 3
        · rw [if_pos h3, if_pos ⟨hr, .inr h3⟩]
        · rw [if_neg h3, if_neg (fun z => z.2.elim h1 h3)]
    · rw [if_neg hr, if_neg (fun z => hr z.1)]
theorem j2_eq (k : Nat) (t u x6 : Int) (a0 : ByteArray) (l1 : List S59) (l2 : List S55) (l3 : List S33) (p q r : Int) : custodyref14_Uses.j2 (k + 2) t u x6 a0 l1 l2 l3 p q r =
    custodyref14_Uses.l0 k t (if r = t ∧ (p = 1 ∨ p = 3) then bits .or .i64 (if q = t ∧ p = 5 then bits .or .i64 u 256 else u) 512 else (if q = t ∧ p = 5 then bits .or .i64 u 256 else u)) (wrap64 (x6 + 1)) a0 l1 l2 l3 := by
  rw [custodyref14_Uses.j2]
  by_cases hq : q = t
  · rw [if_pos hq, j3_eq]
    have : (if (p == 5) = true then bits .or .i64 u 256 else u) = if q = t ∧ p = 5 then bits .or .i64 u 256 else u := by
      by_cases h5 : p = 5
      · rw [if_pos (by simpa using h5), if_pos ⟨hq, h5⟩]
      · rw [if_neg (by simpa using h5), if_neg (fun z => h5 z.2)]
    rw [this]
  · rw [if_neg hq, j3_eq, if_neg (by simp : ¬ (false = true)), if_neg (fun z : q = t ∧ p = 5 => hq z.1)]
theorem j1_eq (k : Nat) (t u x6 : Int) (b : Bool) (a0 : ByteArray) (l1 : List S59) (l2 : List S55) (l3 : List S33) (p q r : Int) : custodyref14_Uses.j1 (k + 1) t u x6 b a0 l1 l2 l3 p q r =
    custodyref14_Uses.j2 k t (if b = true then bits .or .i64 u 128 else u) x6 a0 l1 l2 l3 p q r := by
  rw [custodyref14_Uses.j1]
  split <;> rfl
theorem uses_round (k : Nat) (t u : Int) (i : Nat) (a0 : ByteArray) (l1 : List S59) (l2 : List S55) (l3 : List S33) (hi : i < l2.length) (h100 : l2.length ≤ 1000) (hu : Fits u) :
    custodyref14_Uses.l0 (k + 4) t u (i : Int) a0 l1 l2 l3 = custodyref14_Uses.l0 k t (useRule t u (rd_T55 l2 (i : Int))) ((i + 1 : Nat) : Int) a0 l1 l2 l3 := by
  have e2 : wrap64 ((i : Int) + 1) = ((i + 1 : Nat) : Int) := by unfold wrap64; omega
  rw [useRule_eq t u _ hu, custodyref14_Uses.l0, if_pos (by omega), if_pos (by omega)]
  generalize rd_T55 l2 (i : Int) = r
  rw [j1_eq, j1_eq, j2_eq, j2_eq, e2]
  by_cases h1 : r.f1 = t
  · by_cases h2 : r.f0 ≥ 1
    · by_cases h4 : r.f0 ≤ 4
      · rw [if_pos h1, if_pos h2, if_pos (decide_eq_true h4), if_pos (⟨h1, h2, h4⟩ : r.f1 = t ∧ 1 ≤ r.f0 ∧ r.f0 ≤ 4)]
      · rw [if_pos h1, if_pos h2, if_neg (show ¬ (decide (r.f0 ≤ 4) = true) by simpa using h4), if_neg (fun z : r.f1 = t ∧ 1 ≤ r.f0 ∧ r.f0 ≤ 4 => h4 z.2.2)]
    · rw [if_pos h1, if_neg h2, if_neg (by simp : ¬ (false = true)), if_neg (fun z : r.f1 = t ∧ 1 ≤ r.f0 ∧ r.f0 ≤ 4 => h2 z.2.1)]
  · rw [if_neg h1, if_neg (by simp : ¬ (false = true)), if_neg (fun z : r.f1 = t ∧ 1 ≤ r.f0 ∧ r.f0 ≤ 4 => h1 z.1)]
theorem fits_ite {c : Prop} [Decidable c] {a b : Int} (ha : Fits a) (hb : Fits b) : Fits (if c then a else b) := by split <;> assumption
theorem fits_useRule (t u : Int) (r : S55) (hu : Fits u) : Fits (useRule t u r) := by
  rw [useRule_eq t u r hu]
  exact fits_ite (fits_bits _ _ _) (fits_ite (fits_bits _ _ _) (fits_ite (fits_bits _ _ _) hu))
theorem uses_l0 (t : Int) (a0 : ByteArray) (l1 : List S59) (l2 : List S55) (l3 : List S33) (h100 : l2.length ≤ 1000) : ∀ (d k i : Nat) (u : Int), l2.length - i = d → i ≤ l2.length → 4 * d < k → Fits u →
    custodyref14_Uses.l0 k t u (i : Int) a0 l1 l2 l3 = some ((l2.drop i).foldl (useRule t) u)
  | 0, k, i, u, hd, hi, hk, hu => by
    obtain ⟨k, rfl⟩ : ∃ m, k = m + 1 := ⟨k - 1, by omega⟩
    rw [custodyref14_Uses.l0, if_neg (by omega), List.drop_eq_nil_of_le (by omega)]
    rfl
  | d + 1, k, i, u, hd, hi, hk, hu => by
    obtain ⟨k, rfl⟩ : ∃ m, k = m + 4 := ⟨k - 4, by omega⟩
    have hlt : i < l2.length := by omega
    rw [uses_round k t u i a0 l1 l2 l3 hlt h100 hu, uses_l0 t a0 l1 l2 l3 h100 d k (i + 1) _ (by omega) (by omega) (by omega) (fits_useRule t u _ hu), List.drop_eq_getElem_cons hlt, List.foldl_cons]
    have : rd_T55 l2 (i : Int) = l2[i] := by
      unfold rd_T55
      rw [Int.toNat_natCast, List.getD_eq_getElem?_getD, List.getElem?_eq_getElem hlt]
      rfl
    rw [this]
theorem uses_eq {k : Nat} (a0 : ByteArray) (l1 : List S59) (l2 : List S55) (l3 : List S33) (t : Int) (h100 : l2.length ≤ 1000) (hk : 5000 ≤ k) : custodyref14_Uses.f k a0 l1 l2 l3 t = perm_Uses.f a0 l1 l2 l3 t := by
  unfold custodyref14_Uses.f perm_Uses.f custodyref14_is.f
  by_cases h0 : t ≥ 0
  · rw [if_pos h0, Option.bind_some]
    by_cases h1 : t < (l1.length : Int)
    · rw [if_pos (decide_eq_true h1), if_pos h0, if_pos h1, if_pos ⟨h0, h1⟩]
      exact uses_l0 t a0 l1 l2 l3 h100 l2.length k 0 _ (by omega) (by omega) (by omega) (fits_bits _ _ _)
    · rw [if_neg (by simpa using h1), if_neg (fun z => h1 z.2)]
  · rw [if_neg h0, Option.bind_some, if_neg (by simp), if_neg (fun z => h0 z.1)]

/-! ### Grant -/
end Go.Proofs.YthldfkjnjcagjaaDoor.P
