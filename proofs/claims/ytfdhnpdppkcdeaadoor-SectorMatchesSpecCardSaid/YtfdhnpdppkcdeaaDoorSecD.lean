/- Plain Lean about layer 24: the specification's Pack, Same and few. -/
import Derived.Test.YtfdhnpdppkcdeaaDoorSecC
namespace Go.Proofs.YtfdhnpdppkcdeaaDoor.P
open Go.RowKit Go.Proofs.YtfdhnpdppkcdeaaDoorW.PrintWords Go.Proofs.YtfdhnpdppkcdeaaDoorW.PrintMore Go.Proofs.YtfdhnpdppkcdeaaDoorW.PrintLast

set_option maxHeartbeats 2000000 in
theorem refpack_step (x0 : Int) (x1 : ByteArray) (h1 : 0 ≤ x0) (h2 : x0 ≤ 4611686018427387904) (hr : x1.size ≤ 8000) (k i : Nat) (hlt : i < cnt x1.size) (hk : 9 ≤ k) (out : List ByteArray) (ho : out.length = i) :
    custodyref24_Pack.l0 (k + 1) x0 x1 out (i : Int) = custodyref24_Pack.l0 k x0 x1 (out ++ [secOf x0 x1 i]) ((i + 1 : Nat) : Int) := by
  have hc := cnt_le hr
  have h44 := cnt_lt hlt
  have e1 : wrap64 (44 * (i : Int)) = ((i * 44 : Nat) : Int) := by unfold wrap64; omega
  have e2 : wrap64 ((i : Int) + 1) = ((i + 1 : Nat) : Int) := by unfold wrap64; omega
  have hrs : (restOf x1 i).size = x1.size - i * 44 := by unfold restOf; rw [ByteArray.size_extract]; omega
  have e3 : x1.extract (i * 44) x1.size = restOf x1 i := rfl
  have e4 : mn 44 ((restOf x1 i).size : Int) = ((min 44 (restOf x1 i).size : Nat) : Int) := by unfold mn; split <;> omega
  have e5 : (restOf x1 i).extract 0 (min 44 (restOf x1 i).size) = textOf x1 i := rfl
  have ht := textOf_size x1 i
  have e6 : wrap64 (44 - ((textOf x1 i).size : Int)) = ((44 - (textOf x1 i).size : Nat) : Int) := by unfold wrap64; omega
  have s64 := size_strOfNums _ (byte_le64 x0)
  have si := size_strOfNums _ (byte_le16 (i : Int))
  have sr := size_strOfNums _ (byte_le16 ((restOf x1 i).size : Int))
  have sz := size_strOfNums _ (byte_rep (44 - (textOf x1 i).size))
  rw [le64_length] at s64
  rw [le16_length] at si sr
  rw [List.length_replicate] at sz
  simp only [custodyref24_Pack.l0]
  rw [refcount_eq, count_eq _ hr]
  rw [Option.bind_some]
  rw [if_pos (by omega), e1, if_pos (by omega), if_pos (by omega), Int.toNat_natCast, e3, e4, if_pos (by omega), if_pos (by omega),
    refput64 (by omega) x0 h1 h2]
  rw [Option.bind_some]
  rw [refput16 (by omega) _ (by omega) (by omega)]
  rw [Option.bind_some]
  rw [if_pos (by omega), refput16 (by omega) _ (by omega) (by omega)]
  rw [Option.bind_some]
  rw [Int.toNat_natCast, e5, e6, if_pos (by rw [ByteArray.size_append]; omega), if_pos (by rw [ByteArray.size_append, ByteArray.size_append]; omega), if_pos (by omega), Int.toNat_natCast, if_pos (by omega), Option.bind_some,
    if_pos (by rw [ByteArray.size_append, ByteArray.size_append, ByteArray.size_append]; omega), Option.bind_some,
    if_pos (by rw [ByteArray.size_append, ByteArray.size_append, ByteArray.size_append, ByteArray.size_append]; omega),
    if_pos (by omega), e2]
  have hsec : strOfNums (le64 x0) ++ strOfNums (le16 (i : Int)) ++ strOfNums (le16 ((restOf x1 i).size : Int)) ++ textOf x1 i ++ strOfNums (List.replicate (44 - (textOf x1 i).size) 0) ++ strOfNums (le64 x0) = secOf x0 x1 i := by
    apply bytesOf_inj
    rw [bytesOf_secOf]
    simp only [bytesOf_append]
    rw [bytesOf_strOfNums (byte_le64 _), bytesOf_strOfNums (byte_le16 _), bytesOf_strOfNums (byte_le16 _), bytesOf_strOfNums (byte_rep _)]
    rfl
  rw [hsec]
theorem refpack_l0 (x0 : Int) (x1 : ByteArray) (h1 : 0 ≤ x0) (h2 : x0 ≤ 4611686018427387904) (hr : x1.size ≤ 8000) : ∀ (d k i : Nat), cnt x1.size - i = d → i ≤ cnt x1.size → d + 10 ≤ k →
    custodyref24_Pack.l0 k x0 x1 ((List.range i).map (secOf x0 x1)) (i : Int) = some ((List.range (cnt x1.size)).map (secOf x0 x1), 0)
  | 0, k, i, hd, hi, hk => by
    obtain ⟨k, rfl⟩ : ∃ m, k = m + 1 := ⟨k - 1, by omega⟩
    have : i = cnt x1.size := by omega
    rw [custodyref24_Pack.l0, refcount_eq, count_eq _ hr, Option.bind_some, if_neg (by omega), this]
  | d + 1, k, i, hd, hi, hk => by
    obtain ⟨k, rfl⟩ : ∃ m, k = m + 1 := ⟨k - 1, by omega⟩
    rw [refpack_step x0 x1 h1 h2 hr k i (by omega) (by omega) _ (by rw [List.length_map, List.length_range])]
    have := refpack_l0 x0 x1 h1 h2 hr d k (i + 1) (by omega) (by omega) (by omega)
    rw [List.range_succ, List.map_append] at this
    exact this
theorem refpack_eq {k : Nat} (x0 : Int) (x1 : ByteArray) (hk : 200 ≤ k) : custodyref24_Pack.f k x0 x1 = sector_Pack.f x0 x1 := by
  obtain ⟨k, rfl⟩ : ∃ m, k = m + 1 := ⟨k - 1, by omega⟩
  unfold custodyref24_Pack.f sector_Pack.f
  by_cases h1 : x0 < 1
  · rw [if_pos h1, if_pos h1, custodyref24_Pack.j0, if_pos rfl]
  · rw [if_neg h1, if_neg h1, custodyref24_Pack.j0]
    by_cases h2 : x0 > 4611686018427387904
    · rw [if_pos (decide_eq_true h2), if_pos h2]
    · rw [if_neg (by simpa using h2), if_neg h2]
      by_cases h3 : 8000 < x1.size
      · rw [if_pos (by omega), if_pos h3]
      · have hc := cnt_le (n := x1.size) (by omega)
        rw [if_neg (by omega), if_neg h3]
        exact refpack_l0 x0 x1 (by omega) (by omega) (by omega) (cnt x1.size) k 0 (by omega) (by omega) (by omega)

/-! ### Same, few -/
theorem same_l0 (a b : List ByteArray) (hl : a.length = b.length) (hb : a.length ≤ 140737488355328) : ∀ (d k i : Nat), a.length - i = d → i ≤ a.length → d < k →
    ∃ c, custodyref24_Same.l0 k a b (i : Int) = some c ∧ (c = true ↔ a.drop i = b.drop i)
  | 0, k, i, hd, hi, hk => by
    obtain ⟨k, rfl⟩ : ∃ m, k = m + 1 := ⟨k - 1, by omega⟩
    simp only [custodyref24_Same.l0]
    rw [if_neg (by omega)]
    exact ⟨_, rfl, by rw [List.drop_eq_nil_of_le (by omega), List.drop_eq_nil_of_le (by omega)]; simp⟩
  | d + 1, k, i, hd, hi, hk => by
    obtain ⟨k, rfl⟩ : ∃ m, k = m + 1 := ⟨k - 1, by omega⟩
    have e2 : wrap64 ((i : Int) + 1) = ((i + 1 : Nat) : Int) := by unfold wrap64; omega
    obtain ⟨c, hc, hcc⟩ := same_l0 a b hl hb d k (i + 1) (by omega) (by omega) (by omega)
    simp only [custodyref24_Same.l0]
    rw [if_pos (by omega), if_pos (by omega), if_pos (by omega), e2, hc]
    have r : ∀ l : List ByteArray, i < l.length → l.drop i = rdOf ByteArray.empty l (i : Int) :: l.drop (i + 1) := fun l h => by
      rw [List.drop_eq_getElem_cons h]
      congr 1
      unfold rdOf
      rw [Int.toNat_natCast, List.getD_eq_getElem?_getD, List.getElem?_eq_getElem h]
      rfl
    rw [r a (by omega), r b (by omega)]
    have hinj : ∀ x y : ByteArray, x.toList = y.toList ↔ x = y := fun x y => ⟨fun z => bytesOf_inj (by unfold bytesOf; rw [toList_eq, toList_eq] at z; rw [z]), fun z => by rw [z]⟩
    by_cases h : rdOf ByteArray.empty a (i : Int) = rdOf ByteArray.empty b (i : Int)
    · rw [if_pos ((hinj _ _).2 h)]
      exact ⟨c, rfl, by rw [hcc, h]; simp⟩
    · rw [if_neg (fun z => h ((hinj _ _).1 z))]
      exact ⟨false, rfl, by simp [h]⟩
theorem same_eq (a b : List ByteArray) {k : Nat} (hb : a.length ≤ 140737488355328) (hk : a.length < k) : ∃ c, custodyref24_Same.f k a b = some c ∧ (c = true ↔ a = b) := by
  unfold custodyref24_Same.f
  by_cases hl : a.length = b.length
  · rw [if_pos (by omega)]
    exact same_l0 a b hl hb a.length k 0 (by omega) (by omega) (by omega)
  · rw [if_neg (by omega)]
    exact ⟨false, rfl, by simp; intro h; exact hl (by rw [h])⟩
end Go.Proofs.YtfdhnpdppkcdeaaDoor.P
