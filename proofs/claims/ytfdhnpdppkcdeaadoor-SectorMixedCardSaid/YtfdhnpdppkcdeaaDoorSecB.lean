/- Plain Lean about layer 24: what the printed get, put, Count and Open come to, in the program and in the specification. -/
import Derived.Test.YtfdhnpdppkcdeaaDoorSecA
import Derived.Laws.BitsLemmas
import Derived.Test.YtfdhnpdppkcdeaaDoorHandPack
import Derived.Test.YtfdhnpdppkcdeaaDoorPx6
import Derived.Test.YtfdhnpdppkcdeaaDoorPx12
import Derived.Test.YtfdhnpdppkcdeaaDoorPx10
namespace Go.Proofs.YtfdhnpdppkcdeaaDoor.P
open Go.RowKit Go.Proofs.YtfdhnpdppkcdeaaDoorW.PrintWords Go.Proofs.YtfdhnpdppkcdeaaDoorW.PrintMore Go.Proofs.YtfdhnpdppkcdeaaDoorW.PrintLast

theorem leval_take_succ (s : ByteArray) (i : Nat) (h : i < s.size) : leval ((bytesOf s).take (i + 1)) = leval ((bytesOf s).take i) + 256 ^ i * bt s i := by
  rw [bytesOf_take_succ s i h, leval_append, List.length_take, bytesOf_length, Nat.min_eq_left (by omega)]
  simp [leval]
theorem pow256 (i : Nat) : (256 : Int) ^ i = 2 ^ (8 * i) := by
  rw [Int.pow_mul]; rfl
theorem or_join (x y : Int) (i : Nat) (hi : 8 * i ≤ 56) (h0 : 0 ≤ x) (h1 : x < 2 ^ (8 * i)) (h2 : 0 ≤ y) (h3 : y ≤ 255) :
    Go.bits .or .u64 x (shl .u64 (IntKind.u64.wrap y) ((8 * i : Nat) : Int)) = x + 2 ^ (8 * i) * y := by
  obtain ⟨a, rfl⟩ := Int.eq_ofNat_of_zero_le h0
  obtain ⟨b, rfl⟩ := Int.eq_ofNat_of_zero_le h2
  have hb : b ≤ 255 := by omega
  have ha : a < 2 ^ (8 * i) := by exact_mod_cast h1
  have hp : 2 ^ (8 * i) * 256 ≤ 2 ^ 64 := by
    have : (2 : Nat) ^ (8 * i + 8) ≤ 2 ^ 64 := Nat.pow_le_pow_right (by omega) (by omega)
    rwa [Nat.pow_add] at this
  have hc : 2 ^ (8 * i) * b < 2 ^ 64 := Nat.lt_of_lt_of_le (Nat.mul_lt_mul_of_pos_left (by omega) (Nat.two_pow_pos _)) hp
  have hs : shl .u64 (IntKind.u64.wrap (b : Int)) ((8 * i : Nat) : Int) = ((2 ^ (8 * i) * b : Nat) : Int) := by
    unfold shl
    rw [IntKind.wrap_u64, IntKind.wrap_u64, Int.toNat_natCast, show min (8 * i) (IntKind.bits .u64) = 8 * i from by simp only [IntKind.bits]; omega, show ((b : Int) % 18446744073709551616) = b from by omega, Int.mul_comm]
    have e : ((2 : Int) ^ (8 * i) * (b : Int)) = ((2 ^ (8 * i) * b : Nat) : Int) := by push_cast; rfl
    rw [e]
    obtain ⟨c, hc0⟩ : ∃ c : Nat, 2 ^ (8 * i) * b = c := ⟨_, rfl⟩
    rw [hc0] at hc ⊢
    omega
  have hw : ∀ n : Int, 0 ≤ n → n < 2 ^ 64 → IntKind.u64.wrap n = n := fun n h h' => by rw [IntKind.wrap_u64]; exact Int.emod_eq_of_lt h h'
  have ha64 : a < 2 ^ 64 := Nat.lt_of_lt_of_le ha (Nat.pow_le_pow_right (by omega) (by omega))
  rw [hs, (bits_nat .u64 64 (by decide) hw a _ ha64 hc).2, Nat.or_comm, ← Nat.two_pow_add_eq_or_of_lt ha b, Int.add_comm]
  push_cast
  rfl

theorem get_loop (s : ByteArray) (hs : s.size ≤ 8) : ∀ (d : Nat) (k i : Nat), s.size - i = d → i ≤ s.size → d < k →
    sector_get.l0 k s (leval ((bytesOf s).take i)) (s.size : Int) (i : Int) = some (leval (bytesOf s))
  | 0, k, i, hd, hi, hk => by
    obtain ⟨k, rfl⟩ : ∃ m, k = m + 1 := ⟨k - 1, by omega⟩
    simp only [sector_get.l0]
    rw [if_neg (by omega), List.take_of_length_le (by rw [bytesOf_length]; omega)]
  | d + 1, k, i, hd, hi, hk => by
    obtain ⟨k, rfl⟩ : ∃ m, k = m + 1 := ⟨k - 1, by omega⟩
    have hlt : i < s.size := by omega
    have e1 : wrap64 (8 * (i : Int)) = ((8 * i : Nat) : Int) := by unfold wrap64; omega
    have e2 : wrap64 ((i : Int) + 1) = ((i + 1 : Nat) : Int) := by unfold wrap64; omega
    have hb := bt_range s i
    have hl := leval_bd _ ((byte_bytesOf s).take i)
    rw [List.length_take, bytesOf_length, Nat.min_eq_left (by omega), pow256] at hl
    simp only [sector_get.l0]
    rw [if_pos (by omega), if_pos (by omega), if_pos (by omega), e1, if_pos (by omega), e2, or_join _ _ i (by omega) hl.1 hl.2 hb.1 hb.2, ← pow256, ← leval_take_succ s i hlt]
    exact get_loop s hs d k (i + 1) (by omega) (by omega) (by omega)
theorem get_eq {k : Nat} (s : ByteArray) (hs : s.size ≤ 8) (hk : 9 ≤ k) : sector_get.f k s = some (leval (bytesOf s)) := by
  unfold sector_get.f
  exact get_loop s hs s.size k 0 (by omega) (by omega) (by omega)

/-! ### the specification's get -/
/-! ### Open -/
def B (s : ByteArray) : List Int := bytesOf s
def numOf (s : ByteArray) : Int := leval ((bytesOf s).take 8)
def partOf (s : ByteArray) : Int := leval (((bytesOf s).take 10).drop 8)
def leftOf (s : ByteArray) : Int := leval (((bytesOf s).take 12).drop 10)
def shown (s : ByteArray) : Nat := min (leftOf s).toNat 44
/-- What a sector has to be. -/
def Good (s : ByteArray) : Prop :=
  (bytesOf s).take 8 = (bytesOf s).drop 56 ∧ 1 ≤ numOf s ∧ numOf s ≤ 4611686018427387904 ∧ partOf s * 44 + leftOf s ≤ 8000 ∧ ¬ (0 < partOf s ∧ leftOf s = 0) ∧ ∀ i : Nat, 12 + shown s ≤ i → i < 56 → bt s i = 0
open Classical in
noncomputable def openS (s : ByteArray) : Int × Int × Int × ByteArray × Int :=
  if s.size = 64 then (if Good s then (numOf s, partOf s, leftOf s, s.extract 12 (12 + shown s), 0) else (0, 0, 0, ⟨#[]⟩, 7)) else (0, 0, 0, ⟨#[]⟩, 1)
theorem partOf_bd (s : ByteArray) (h : s.size = 64) : 0 ≤ partOf s ∧ partOf s < 65536 := by
  have := leval_bd _ (((byte_bytesOf s).take 10).drop 8)
  rw [List.length_drop, List.length_take, bytesOf_length, h] at this
  exact this
theorem leftOf_bd (s : ByteArray) (h : s.size = 64) : 0 ≤ leftOf s ∧ leftOf s < 65536 := by
  have := leval_bd _ (((byte_bytesOf s).take 12).drop 10)
  rw [List.length_drop, List.length_take, bytesOf_length, h] at this
  exact this
theorem numOf_bd (s : ByteArray) (h : s.size = 64) : 0 ≤ numOf s ∧ numOf s < 18446744073709551616 := by
  have := leval_bd _ ((byte_bytesOf s).take 8)
  rw [List.length_take, bytesOf_length, h] at this
  exact this
theorem all_zero (t : ByteArray) : (∀ x ∈ t.data.toList, x = (0 : UInt8)) ↔ ∀ i : Nat, i < t.size → bt t i = 0 := by
  constructor
  · intro h i hi
    unfold bt
    rw [Int.toNat_natCast, dif_pos hi]
    have : t[i] = 0 := h _ (by rw [Array.mem_toList_iff]; exact Array.getElem_mem _)
    rw [this]; rfl
  · intro h x hx
    obtain ⟨i, hi, rfl⟩ := List.getElem_of_mem hx
    have hi' : i < t.size := by simpa using hi
    have := h i hi'
    unfold bt at this
    rw [Int.toNat_natCast, dif_pos hi'] at this
    have e : t[i].toNat = 0 := by omega
    have e2 : t[i] = 0 := UInt8.toNat_inj.1 (by simpa using e)
    exact e2
theorem dropWhile_nil (p : UInt8 → Bool) : ∀ l : List UInt8, l.dropWhile p = [] ↔ ∀ x ∈ l, p x = true
  | [] => by simp
  | a :: l => by
    rw [List.dropWhile_cons]
    split
    · rename_i h
      rw [dropWhile_nil p l]
      simp [h]
    · rename_i h
      simp [h]
theorem trim_nil (t : ByteArray) : (Lib.trimB t.data.toList 0 = []) ↔ ∀ i : Nat, i < t.size → bt t i = 0 := by
  rw [← all_zero]
  unfold Lib.trimB Lib.trimLeftB Lib.trimRightB
  rw [dropWhile_nil]
  constructor
  · intro h x hx
    have hr : x ∈ t.data.toList.reverse := List.mem_reverse.2 hx
    rw [← List.takeWhile_append_dropWhile (p := (· == (0 : UInt8))) (l := t.data.toList.reverse)] at hr
    rcases List.mem_append.1 hr with h1 | h1
    · have := List.all_takeWhile (p := (· == (0 : UInt8))) (l := t.data.toList.reverse)
      rw [List.all_eq_true] at this
      simpa using this x h1
    · simpa using h x (List.mem_reverse.2 h1)
  · intro h x hx
    have h1 : x ∈ t.data.toList.reverse := (List.dropWhile_sublist _).subset (List.mem_reverse.1 hx)
    simp [h x (List.mem_reverse.1 h1)]
theorem bt_extract (s : ByteArray) (a b i : Nat) (hb : b ≤ s.size) (hi : a + i < b) : bt (s.extract a b) i = bt s ((a + i : Nat) : Int) := by
  have h1 : i < (s.extract a b).size := by rw [ByteArray.size_extract]; omega
  have e1 := bytesOf_get (s.extract a b) i h1
  rw [bytesOf_extract, List.getElem?_drop, List.getElem?_take, if_pos hi] at e1
  have e2 := bytesOf_get s (a + i) (by omega)
  rw [e2] at e1
  exact (Option.some.inj e1).symm

theorem extract_eq_iff (s : ByteArray) : ((s.extract 0 8).toList = (s.extract 56 s.size).toList) ↔ (bytesOf s).take 8 = (bytesOf s).drop 56 := by
  rw [toList_eq, toList_eq]
  have e1 : bytesOf (s.extract 0 8) = (bytesOf s).take 8 := by rw [bytesOf_extract, List.drop_zero]
  have e2 : bytesOf (s.extract 56 s.size) = (bytesOf s).drop 56 := by rw [bytesOf_extract, List.take_of_length_le (by rw [bytesOf_length]; exact Nat.le_refl _)]
  rw [← e1, ← e2]
  constructor
  · intro h
    unfold bytesOf
    rw [h]
  · intro h
    rw [bytesOf_inj h]

theorem shown_le (s : ByteArray) : shown s ≤ 44 := by unfold shown; omega
theorem text_eq (s : ByteArray) : (s.extract 12 56).extract 0 (shown s) = s.extract 12 (12 + shown s) := by
  have := shown_le s
  apply bytesOf_inj
  rw [bytesOf_extract, bytesOf_extract, bytesOf_extract, List.drop_zero, List.take_drop]
  rw [List.take_take]
  congr 2
  omega
theorem zeros_iff (s : ByteArray) (h : s.size = 64) : (Lib.trimB ((s.extract 12 56).extract (shown s) (s.extract 12 56).size).data.toList 0 = []) ↔ (∀ i : Nat, 12 + shown s ≤ i → i < 56 → bt s i = 0) := by
  have hs44 := shown_le s
  have hts : (s.extract 12 56).size = 44 := by rw [ByteArray.size_extract]; omega
  have hs2 : ((s.extract 12 56).extract (shown s) 44).size = 44 - shown s := by rw [ByteArray.size_extract, hts]; omega
  rw [trim_nil, hts, hs2]
  constructor
  · intro hh i h1 h2
    have h3 := hh (i - 12 - shown s) (by omega)
    rw [bt_extract _ _ _ _ (by omega) (by omega), bt_extract _ _ _ _ (by omega) (by omega)] at h3
    have e : ((12 + (shown s + (i - 12 - shown s)) : Nat) : Int) = (i : Int) := by omega
    rw [e] at h3
    exact h3
  · intro hh i hi
    rw [bt_extract _ _ _ _ (by omega) (by omega), bt_extract _ _ _ _ (by omega) (by omega)]
    exact hh _ (by omega) (by omega)
open Classical in
theorem open_j0 (s : ByteArray) (h : s.size = 64) (k : Nat) (b : Bool) : sector_Open.j0 (k + 1) (numOf s) (s.extract 12 56) (shown s : Int) b 0 (partOf s) (leftOf s) (⟨#[]⟩ : ByteArray) =
    if b = true then some (0, 0, 0, (⟨#[]⟩ : ByteArray), 7) else if (∀ i : Nat, 12 + shown s ≤ i → i < 56 → bt s i = 0) then some (wrap64 (numOf s), partOf s, leftOf s, s.extract 12 (12 + shown s), 0) else some (0, 0, 0, (⟨#[]⟩ : ByteArray), 7) := by
  have hs44 := shown_le s
  have hts : (s.extract 12 56).size = 44 := by rw [ByteArray.size_extract]; omega
  simp only [sector_Open.j0]
  split
  · rfl
  · rw [if_pos (by omega), if_pos (by omega)]
    unfold strings_Trim.f strings_Clone.f
    rw [if_pos rfl, if_pos (by rw [ByteArray.size_extract]; omega), Int.toNat_natCast]
    simp only [Option.bind_some]
    have hz := zeros_iff s h
    rw [toList_eq]
    simp only
    by_cases hc : (∀ i : Nat, 12 + shown s ≤ i → i < 56 → bt s i = 0)
    · rw [if_pos (hz.2 hc), if_pos hc, if_pos (by rw [ByteArray.size_extract]; omega)]
      simp only [Option.bind_some]
      rw [text_eq s]
    · rw [if_neg (fun z => hc (hz.1 z)), if_neg hc]
open Classical in
theorem open_eq {k : Nat} (s : ByteArray) (hk : 10 ≤ k) : sector_Open.f k s = some (openS s) := by
  unfold sector_Open.f openS
  by_cases h : s.size = 64
  · have hp := partOf_bd s h
    have hl := leftOf_bd s h
    have hn := numOf_bd s h
    rw [if_pos (by omega), if_pos (by omega), if_pos (by omega), get_eq _ (by rw [ByteArray.size_extract]; omega) (by omega)]
    simp only [Option.bind_some]
    rw [if_pos (by omega), if_pos (by omega), if_pos (by omega), if_pos (by omega), get_eq _ (by rw [ByteArray.size_extract]; omega) (by omega)]
    simp only [Option.bind_some]
    rw [if_pos (by omega), if_pos (by omega), get_eq _ (by rw [ByteArray.size_extract]; omega) (by omega)]
    simp only [Option.bind_some]
    have e1 : leval (bytesOf (s.extract 0 8)) = numOf s := by rw [bytesOf_extract, List.drop_zero]; rfl
    have e2 : leval (bytesOf (s.extract 8 10)) = partOf s := by rw [bytesOf_extract]; rfl
    have e3 : leval (bytesOf (s.extract 10 12)) = leftOf s := by rw [bytesOf_extract]; rfl
    have w1 : wrap64 (partOf s) = partOf s := by unfold wrap64; omega
    have w2 : wrap64 (leftOf s) = leftOf s := by unfold wrap64; omega
    have w3 : wrap64 (partOf s * 44) = partOf s * 44 := by unfold wrap64; omega
    have w4 : wrap64 (partOf s * 44 + leftOf s) = partOf s * 44 + leftOf s := by unfold wrap64; omega
    rw [e1, e2, e3, w1, w2, w3, w4, if_pos h]
    obtain ⟨k, rfl⟩ : ∃ m, k = m + 1 := ⟨k - 1, by omega⟩
    have hsh : mn (leftOf s) 44 = (shown s : Int) := by
      unfold mn shown
      split <;> omega
    rw [hsh, open_j0 s h, open_j0 s h]
    have bad : ¬ Good s → some ((0 : Int), (0 : Int), (0 : Int), (⟨#[]⟩ : ByteArray), (7 : Int)) = some (if Good s then (numOf s, partOf s, leftOf s, s.extract 12 (12 + shown s), 0) else (0, 0, 0, ⟨#[]⟩, 7)) := fun z => by rw [if_neg z]
    have he := extract_eq_iff s
    by_cases c1 : (bytesOf s).take 8 = (bytesOf s).drop 56
    · rw [if_pos (he.2 c1)]
      by_cases c2 : numOf s < 1
      · rw [if_pos c2]; exact bad (fun z => by have := z.2.1; omega)
      · rw [if_neg c2]
        by_cases c3 : numOf s > 4611686018427387904
        · rw [if_pos c3]; exact bad (fun z => by have := z.2.2.1; omega)
        · rw [if_neg c3]
          by_cases c4 : partOf s * 44 + leftOf s > 8000
          · rw [if_pos c4]; exact bad (fun z => by have := z.2.2.2.1; omega)
          · rw [if_neg c4]
            have w5 : wrap64 (numOf s) = numOf s := by unfold wrap64; omega
            rw [w5]
            by_cases c5 : partOf s > 0
            · rw [if_pos c5]
              by_cases c6 : leftOf s = 0
              · rw [if_pos (by simpa using c6)]; exact bad (fun z => z.2.2.2.2.1 ⟨c5, c6⟩)
              · rw [if_neg (by simpa using c6)]
                by_cases c7 : (∀ i : Nat, 12 + shown s ≤ i → i < 56 → bt s i = 0)
                · rw [if_pos c7, if_pos ⟨c1, by omega, by omega, by omega, fun z => c6 z.2, c7⟩]
                · rw [if_neg c7]; exact bad (fun z => c7 z.2.2.2.2.2)
            · rw [if_neg c5, if_neg (by simp)]
              by_cases c7 : (∀ i : Nat, 12 + shown s ≤ i → i < 56 → bt s i = 0)
              · rw [if_pos c7, if_pos ⟨c1, by omega, by omega, by omega, fun z => c5 z.1, c7⟩]
              · rw [if_neg c7]; exact bad (fun z => c7 z.2.2.2.2.2)
    · rw [if_neg (fun z => c1 (he.1 z))]; exact bad (fun z => c1 z.1)
  · rw [if_neg (by omega), if_neg h]
end Go.Proofs.YtfdhnpdppkcdeaaDoor.P
