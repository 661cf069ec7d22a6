/- The sectors' plain laws (printed by cutsec.py out of XSecA, B, C, F). -/
import Derived.Laws.Bits64
import Derived.Test.YtcdgbdojopfkgaaDoorWMore
import Derived.Test.YtcdgbdojopfkgaaDoorWLast
import Derived.Laws.BitsLemmas
import Derived.Test.YtcdgbdojopfkgaaDoorHandPack
import Derived.Test.YtcdgbdojopfkgaaDoorPx5
import Derived.Test.YtcdgbdojopfkgaaDoorHandJoin
namespace Go.Proofs.YtcdgbdojopfkgaaDoor.P
open Go.RowKit Go.Proofs.YtcdgbdojopfkgaaDoorW.PrintWords Go.Proofs.YtcdgbdojopfkgaaDoorW.PrintMore Go.Proofs.YtcdgbdojopfkgaaDoorW.PrintLast
/-- The value of bytes, the least significant first. -/
def leval : List Int → Int
  | [] => 0
  | b :: bs => b + 256 * leval bs
def Byte (l : List Int) : Prop := ∀ b ∈ l, 0 ≤ b ∧ b ≤ 255
theorem Byte.take {l : List Int} (h : Byte l) (n : Nat) : Byte (l.take n) := fun b hb => h b (List.mem_of_mem_take hb)
theorem Byte.drop {l : List Int} (h : Byte l) (n : Nat) : Byte (l.drop n) := fun b hb => h b (List.mem_of_mem_drop hb)
theorem Byte.append {l m : List Int} (h : Byte l) (k : Byte m) : Byte (l ++ m) := fun b hb => (List.mem_append.1 hb).elim (h b) (k b)
theorem byte_bytesOf (s : ByteArray) : Byte (bytesOf s) := by
  intro b hb
  obtain ⟨x, _, rfl⟩ := List.mem_map.1 hb
  have := x.toNat_lt
  omega
theorem leval_bd : ∀ (l : List Int), Byte l → 0 ≤ leval l ∧ leval l < 256 ^ l.length
  | [], _ => by simp [leval]
  | b :: bs, h => by
    have h1 := h b (List.mem_cons_self)
    have h2 := leval_bd bs (fun x hx => h x (List.mem_cons_of_mem _ hx))
    simp only [leval, List.length_cons, Int.pow_succ]
    omega
theorem leval_append : ∀ (l m : List Int), leval (l ++ m) = leval l + 256 ^ l.length * leval m
  | [], m => by simp [leval]
  | b :: bs, m => by
    simp only [List.cons_append, leval, List.length_cons, leval_append bs m, Int.pow_succ, Int.mul_add]
    rw [Int.mul_comm (256 ^ bs.length) 256, Int.mul_assoc]
    omega
theorem bytesOf_get (s : ByteArray) (i : Nat) (h : i < s.size) : (bytesOf s)[i]? = some (bt s i) := by
  unfold bytesOf bt
  rw [Int.toNat_natCast, dif_pos h, List.getElem?_map, List.getElem?_eq_getElem (by simpa using h)]
  rfl
theorem bytesOf_take_succ (s : ByteArray) (i : Nat) (h : i < s.size) : (bytesOf s).take (i + 1) = (bytesOf s).take i ++ [bt s i] := by
  rw [List.take_add_one, bytesOf_get s i h]; rfl
theorem bytesOf_drop_cons (s : ByteArray) (i : Nat) (h : i < s.size) : (bytesOf s).drop i = bt s i :: (bytesOf s).drop (i + 1) := by
  have hl : i < (bytesOf s).length := by rw [bytesOf_length]; exact h
  rw [List.drop_eq_getElem_cons hl]
  congr 1
  have := bytesOf_get s i h
  rw [List.getElem?_eq_getElem hl] at this
  exact Option.some.inj this
theorem bytesOf_append (a b : ByteArray) : bytesOf (a ++ b) = bytesOf a ++ bytesOf b := by simp [bytesOf]
theorem bytesOf_extract (s : ByteArray) (a b : Nat) : bytesOf (s.extract a b) = ((bytesOf s).take b).drop a := by
  simp [bytesOf, ByteArray.data_extract, List.map_drop, List.map_take, List.drop_take]
theorem bytesOf_inj {a b : ByteArray} (h : bytesOf a = bytesOf b) : a = b := by
  have h2 : a.data.toList = b.data.toList := by
    exact (List.map_inj_right (fun x y e => UInt8.toNat_inj.1 (Int.ofNat_inj.1 e))).1 h
  have h3 : a.data = b.data := Array.toList_inj.1 h2
  cases a; cases b; simp_all
theorem bytesOf_strOfNums {l : List Int} (h : Byte l) : bytesOf (strOfNums l) = l := by
  unfold bytesOf
  rw [strOfNums_data, List.map_map]
  conv => rhs; rw [← List.map_id l]
  refine List.map_congr_left (fun x hx => ?_)
  have := h x hx
  simp only [Function.comp, id]
  rw [UInt8.toNat_ofNat']
  omega
theorem toList_eq (s : ByteArray) : s.toList = s.data.toList := ByteArray.toList_eq s
theorem leval_take_succ (s : ByteArray) (i : Nat) (h : i < s.size) : leval ((bytesOf s).take (i + 1)) = leval ((bytesOf s).take i) + 256 ^ i * bt s i := by
  rw [bytesOf_take_succ s i h, leval_append, List.length_take, bytesOf_length, Nat.min_eq_left (by omega)]
  simp [leval]
theorem pow256 (i : Nat) : (256 : Int) ^ i = 2 ^ (8 * i) := by
  rw [Int.pow_mul]; rfl
theorem or_join (x y : Int) (i : Nat) (hi : 8 * i ≤ 56) (h0 : 0 ≤ x) (h1 : x < 2 ^ (8 * i)) (h2 : 0 ≤ y) (h3 : y ≤ 255) :
    Go.bits .or .u64 x (shl .u64 (IntKind.u64.wrap y) ((8 * i : Nat) : Int)) = x + 2 ^ (8 * i) * y := by
  obtain ⟨a, rfl⟩ := Int.eq_ofNat_of_zero_le h0
  obtain ⟨b, rfl⟩ := Int.eq_ofNat_of_zero_le h2
  have hb : b ≤ 255 := by omega
  have ha : a < 2 ^ (8 * i) := by exact_mod_cast h1
  have hp : 2 ^ (8 * i) * 256 ≤ 2 ^ 64 := by
    have : (2 : Nat) ^ (8 * i + 8) ≤ 2 ^ 64 := Nat.pow_le_pow_right (by omega) (by omega)
    rwa [Nat.pow_add] at this
  have hc : 2 ^ (8 * i) * b < 2 ^ 64 := Nat.lt_of_lt_of_le (Nat.mul_lt_mul_of_pos_left (by omega) (Nat.two_pow_pos _)) hp
  have hs : shl .u64 (IntKind.u64.wrap (b : Int)) ((8 * i : Nat) : Int) = ((2 ^ (8 * i) * b : Nat) : Int) := by
    unfold shl
    rw [IntKind.wrap_u64, IntKind.wrap_u64, Int.toNat_natCast, show min (8 * i) (IntKind.bits .u64) = 8 * i from by simp only [IntKind.bits]; omega, show ((b : Int) % 18446744073709551616) = b from by omega, Int.mul_comm]
    have e : ((2 : Int) ^ (8 * i) * (b : Int)) = ((2 ^ (8 * i) * b : Nat) : Int) := by push_cast; rfl
    rw [e]
    obtain ⟨c, hc0⟩ : ∃ c : Nat, 2 ^ (8 * i) * b = c := ⟨_, rfl⟩
    rw [hc0] at hc ⊢
    omega
  have hw : ∀ n : Int, 0 ≤ n → n < 2 ^ 64 → IntKind.u64.wrap n = n := fun n h h' => by rw [IntKind.wrap_u64]; exact Int.emod_eq_of_lt h h'
  have ha64 : a < 2 ^ 64 := Nat.lt_of_lt_of_le ha (Nat.pow_le_pow_right (by omega) (by omega))
  rw [hs, (bits_nat .u64 64 (by decide) hw a _ ha64 hc).2, Nat.or_comm, ← Nat.two_pow_add_eq_or_of_lt ha b, Int.add_comm]
  push_cast
  rfl
theorem get_loop (s : ByteArray) (hs : s.size ≤ 8) : ∀ (d : Nat) (k i : Nat), s.size - i = d → i ≤ s.size → d < k →
    sector_get.l0 k s (leval ((bytesOf s).take i)) (s.size : Int) (i : Int) = some (leval (bytesOf s))
  | 0, k, i, hd, hi, hk => by
    obtain ⟨k, rfl⟩ : ∃ m, k = m + 1 := ⟨k - 1, by omega⟩
    simp only [sector_get.l0]
    rw [if_neg (by omega), List.take_of_length_le (by rw [bytesOf_length]; omega)]
  | d + 1, k, i, hd, hi, hk => by
    obtain ⟨k, rfl⟩ : ∃ m, k = m + 1 := ⟨k - 1, by omega⟩
    have hlt : i < s.size := by omega
    have e1 : wrap64 (8 * (i : Int)) = ((8 * i : Nat) : Int) := by unfold wrap64; omega
    have e2 : wrap64 ((i : Int) + 1) = ((i + 1 : Nat) : Int) := by unfold wrap64; omega
    have hb := bt_range s i
    have hl := leval_bd _ ((byte_bytesOf s).take i)
    rw [List.length_take, bytesOf_length, Nat.min_eq_left (by omega), pow256] at hl
    simp only [sector_get.l0]
    rw [if_pos (by omega), if_pos (by omega), if_pos (by omega), e1, if_pos (by omega), e2, or_join _ _ i (by omega) hl.1 hl.2 hb.1 hb.2, ← pow256, ← leval_take_succ s i hlt]
    exact get_loop s hs d k (i + 1) (by omega) (by omega) (by omega)
theorem get_eq {k : Nat} (s : ByteArray) (hs : s.size ≤ 8) (hk : 9 ≤ k) : sector_get.f k s = some (leval (bytesOf s)) := by
  unfold sector_get.f
  exact get_loop s hs s.size k 0 (by omega) (by omega) (by omega)
/-! ### the specification's get -/
theorem leval_drop_cons (s : ByteArray) (i : Nat) (h : i < s.size) : leval ((bytesOf s).drop i) = bt s i + 256 * leval ((bytesOf s).drop (i + 1)) := by
  rw [bytesOf_drop_cons s i h]; rfl
/-! ### Open -/
def B (s : ByteArray) : List Int := bytesOf s
def numOf (s : ByteArray) : Int := leval ((bytesOf s).take 8)
def partOf (s : ByteArray) : Int := leval (((bytesOf s).take 10).drop 8)
def leftOf (s : ByteArray) : Int := leval (((bytesOf s).take 12).drop 10)
def shown (s : ByteArray) : Nat := min (leftOf s).toNat 44
/-- What a sector has to be. -/
def Good (s : ByteArray) : Prop :=
  (bytesOf s).take 8 = (bytesOf s).drop 56 ∧ 1 ≤ numOf s ∧ numOf s ≤ 4611686018427387904 ∧ partOf s * 44 + leftOf s ≤ 8000 ∧ ¬ (0 < partOf s ∧ leftOf s = 0) ∧ ∀ i : Nat, 12 + shown s ≤ i → i < 56 → bt s i = 0
open Classical in
noncomputable def openS (s : ByteArray) : Int × Int × Int × ByteArray × Int :=
  if s.size = 64 then (if Good s then (numOf s, partOf s, leftOf s, s.extract 12 (12 + shown s), 0) else (0, 0, 0, ⟨#[]⟩, 7)) else (0, 0, 0, ⟨#[]⟩, 1)
theorem partOf_bd (s : ByteArray) (h : s.size = 64) : 0 ≤ partOf s ∧ partOf s < 65536 := by
  have := leval_bd _ (((byte_bytesOf s).take 10).drop 8)
  rw [List.length_drop, List.length_take, bytesOf_length, h] at this
  exact this
theorem leftOf_bd (s : ByteArray) (h : s.size = 64) : 0 ≤ leftOf s ∧ leftOf s < 65536 := by
  have := leval_bd _ (((byte_bytesOf s).take 12).drop 10)
  rw [List.length_drop, List.length_take, bytesOf_length, h] at this
  exact this
theorem numOf_bd (s : ByteArray) (h : s.size = 64) : 0 ≤ numOf s ∧ numOf s < 18446744073709551616 := by
  have := leval_bd _ ((byte_bytesOf s).take 8)
  rw [List.length_take, bytesOf_length, h] at this
  exact this
theorem all_zero (t : ByteArray) : (∀ x ∈ t.data.toList, x = (0 : UInt8)) ↔ ∀ i : Nat, i < t.size → bt t i = 0 := by
  constructor
  · intro h i hi
    unfold bt
    rw [Int.toNat_natCast, dif_pos hi]
    have : t[i] = 0 := h _ (by rw [Array.mem_toList_iff]; exact Array.getElem_mem _)
    rw [this]; rfl
  · intro h x hx
    obtain ⟨i, hi, rfl⟩ := List.getElem_of_mem hx
    have hi' : i < t.size := by simpa using hi
    have := h i hi'
    unfold bt at this
    rw [Int.toNat_natCast, dif_pos hi'] at this
    have e : t[i].toNat = 0 := by omega
    have e2 : t[i] = 0 := UInt8.toNat_inj.1 (by simpa using e)
    exact e2
theorem dropWhile_nil (p : UInt8 → Bool) : ∀ l : List UInt8, l.dropWhile p = [] ↔ ∀ x ∈ l, p x = true
  | [] => by simp
  | a :: l => by
    rw [List.dropWhile_cons]
    split
    · rename_i h
      rw [dropWhile_nil p l]
      simp [h]
    · rename_i h
      simp [h]
theorem trim_nil (t : ByteArray) : (Lib.trimB t.data.toList 0 = []) ↔ ∀ i : Nat, i < t.size → bt t i = 0 := by
  rw [← all_zero]
  unfold Lib.trimB Lib.trimLeftB Lib.trimRightB
  rw [dropWhile_nil]
  constructor
  · intro h x hx
    have hr : x ∈ t.data.toList.reverse := List.mem_reverse.2 hx
    rw [← List.takeWhile_append_dropWhile (p := (· == (0 : UInt8))) (l := t.data.toList.reverse)] at hr
    rcases List.mem_append.1 hr with h1 | h1
    · have := List.all_takeWhile (p := (· == (0 : UInt8))) (l := t.data.toList.reverse)
      rw [List.all_eq_true] at this
      simpa using this x h1
    · simpa using h x (List.mem_reverse.2 h1)
  · intro h x hx
    have h1 : x ∈ t.data.toList.reverse := (List.dropWhile_sublist _).subset (List.mem_reverse.1 hx)
    simp [h x (List.mem_reverse.1 h1)]
theorem bt_extract (s : ByteArray) (a b i : Nat) (hb : b ≤ s.size) (hi : a + i < b) : bt (s.extract a b) i = bt s ((a + i : Nat) : Int) := by
  have h1 : i < (s.extract a b).size := by rw [ByteArray.size_extract]; omega
  have e1 := bytesOf_get (s.extract a b) i h1
  rw [bytesOf_extract, List.getElem?_drop, List.getElem?_take, if_pos hi] at e1
  have e2 := bytesOf_get s (a + i) (by omega)
  rw [e2] at e1
  exact (Option.some.inj e1).symm
theorem extract_eq_iff (s : ByteArray) : ((s.extract 0 8).toList = (s.extract 56 s.size).toList) ↔ (bytesOf s).take 8 = (bytesOf s).drop 56 := by
  rw [toList_eq, toList_eq]
  have e1 : bytesOf (s.extract 0 8) = (bytesOf s).take 8 := by rw [bytesOf_extract, List.drop_zero]
  have e2 : bytesOf (s.extract 56 s.size) = (bytesOf s).drop 56 := by rw [bytesOf_extract, List.take_of_length_le (by rw [bytesOf_length]; exact Nat.le_refl _)]
  rw [← e1, ← e2]
  constructor
  · intro h
    unfold bytesOf
    rw [h]
  · intro h
    rw [bytesOf_inj h]
theorem shown_le (s : ByteArray) : shown s ≤ 44 := by unfold shown; omega
theorem text_eq (s : ByteArray) : (s.extract 12 56).extract 0 (shown s) = s.extract 12 (12 + shown s) := by
  have := shown_le s
  apply bytesOf_inj
  rw [bytesOf_extract, bytesOf_extract, bytesOf_extract, List.drop_zero, List.take_drop]
  rw [List.take_take]
  congr 2
  omega
theorem zeros_iff (s : ByteArray) (h : s.size = 64) : (Lib.trimB ((s.extract 12 56).extract (shown s) (s.extract 12 56).size).data.toList 0 = []) ↔ (∀ i : Nat, 12 + shown s ≤ i → i < 56 → bt s i = 0) := by
  have hs44 := shown_le s
  have hts : (s.extract 12 56).size = 44 := by rw [ByteArray.size_extract]; omega
  have hs2 : ((s.extract 12 56).extract (shown s) 44).size = 44 - shown s := by rw [ByteArray.size_extract, hts]; omega
  rw [trim_nil, hts, hs2]
  constructor
  · intro hh i h1 h2
    have h3 := hh (i - 12 - shown s) (by omega)
    rw [bt_extract _ _ _ _ (by omega) (by omega), bt_extract _ _ _ _ (by omega) (by omega)] at h3
    have e : ((12 + (shown s + (i - 12 - shown s)) : Nat) : Int) = (i : Int) := by omega
    rw [e] at h3
    exact h3
  · intro hh i hi
    rw [bt_extract _ _ _ _ (by omega) (by omega), bt_extract _ _ _ _ (by omega) (by omega)]
    exact hh _ (by omega) (by omega)
open Classical in
theorem open_j0 (s : ByteArray) (h : s.size = 64) (k : Nat) (b : Bool) : sector_Open.j0 (k + 1) (numOf s) (s.extract 12 56) (shown s : Int) b 0 (partOf s) (leftOf s) (⟨#[]⟩ : ByteArray) =
    if b = true then some (0, 0, 0, (⟨#[]⟩ : ByteArray), 7) else if (∀ i : Nat, 12 + shown s ≤ i → i < 56 → bt s i = 0) then some (wrap64 (numOf s), partOf s, leftOf s, s.extract 12 (12 + shown s), 0) else some (0, 0, 0, (⟨#[]⟩ : ByteArray), 7) := by
  have hs44 := shown_le s
  have hts : (s.extract 12 56).size = 44 := by rw [ByteArray.size_extract]; omega
  simp only [sector_Open.j0]
  split
  · rfl
  · rw [if_pos (by omega), if_pos (by omega)]
    unfold strings_Trim.f strings_Clone.f
    rw [if_pos rfl, if_pos (by rw [ByteArray.size_extract]; omega), Int.toNat_natCast]
    simp only [Option.bind_some]
    have hz := zeros_iff s h
    rw [toList_eq]
    simp only
    by_cases hc : (∀ i : Nat, 12 + shown s ≤ i → i < 56 → bt s i = 0)
    · rw [if_pos (hz.2 hc), if_pos hc, if_pos (by rw [ByteArray.size_extract]; omega)]
      simp only [Option.bind_some]
      rw [text_eq s]
    · rw [if_neg (fun z => hc (hz.1 z)), if_neg hc]
open Classical in
theorem open_eq {k : Nat} (s : ByteArray) (hk : 10 ≤ k) : sector_Open.f k s = some (openS s) := by
  unfold sector_Open.f openS
  by_cases h : s.size = 64
  · have hp := partOf_bd s h
    have hl := leftOf_bd s h
    have hn := numOf_bd s h
    rw [if_pos (by omega), if_pos (by omega), if_pos (by omega), get_eq _ (by rw [ByteArray.size_extract]; omega) (by omega)]
    simp only [Option.bind_some]
    rw [if_pos (by omega), if_pos (by omega), if_pos (by omega), if_pos (by omega), get_eq _ (by rw [ByteArray.size_extract]; omega) (by omega)]
    simp only [Option.bind_some]
    rw [if_pos (by omega), if_pos (by omega), get_eq _ (by rw [ByteArray.size_extract]; omega) (by omega)]
    simp only [Option.bind_some]
    have e1 : leval (bytesOf (s.extract 0 8)) = numOf s := by rw [bytesOf_extract, List.drop_zero]; rfl
    have e2 : leval (bytesOf (s.extract 8 10)) = partOf s := by rw [bytesOf_extract]; rfl
    have e3 : leval (bytesOf (s.extract 10 12)) = leftOf s := by rw [bytesOf_extract]; rfl
    have w1 : wrap64 (partOf s) = partOf s := by unfold wrap64; omega
    have w2 : wrap64 (leftOf s) = leftOf s := by unfold wrap64; omega
    have w3 : wrap64 (partOf s * 44) = partOf s * 44 := by unfold wrap64; omega
    have w4 : wrap64 (partOf s * 44 + leftOf s) = partOf s * 44 + leftOf s := by unfold wrap64; omega
    rw [e1, e2, e3, w1, w2, w3, w4, if_pos h]
    obtain ⟨k, rfl⟩ : ∃ m, k = m + 1 := ⟨k - 1, by omega⟩
    have hsh : mn (leftOf s) 44 = (shown s : Int) := by
      unfold mn shown
      split <;> omega
    rw [hsh, open_j0 s h, open_j0 s h]
    have bad : ¬ Good s → some ((0 : Int), (0 : Int), (0 : Int), (⟨#[]⟩ : ByteArray), (7 : Int)) = some (if Good s then (numOf s, partOf s, leftOf s, s.extract 12 (12 + shown s), 0) else (0, 0, 0, ⟨#[]⟩, 7)) := fun z => by rw [if_neg z]
    have he := extract_eq_iff s
    by_cases c1 : (bytesOf s).take 8 = (bytesOf s).drop 56
    · rw [if_pos (he.2 c1)]
      by_cases c2 : numOf s < 1
      · rw [if_pos c2]; exact bad (fun z => by have := z.2.1; omega)
      · rw [if_neg c2]
        by_cases c3 : numOf s > 4611686018427387904
        · rw [if_pos c3]; exact bad (fun z => by have := z.2.2.1; omega)
        · rw [if_neg c3]
          by_cases c4 : partOf s * 44 + leftOf s > 8000
          · rw [if_pos c4]; exact bad (fun z => by have := z.2.2.2.1; omega)
          · rw [if_neg c4]
            have w5 : wrap64 (numOf s) = numOf s := by unfold wrap64; omega
            rw [w5]
            by_cases c5 : partOf s > 0
            · rw [if_pos c5]
              by_cases c6 : leftOf s = 0
              · rw [if_pos (by simpa using c6)]; exact bad (fun z => z.2.2.2.2.1 ⟨c5, c6⟩)
              · rw [if_neg (by simpa using c6)]
                by_cases c7 : (∀ i : Nat, 12 + shown s ≤ i → i < 56 → bt s i = 0)
                · rw [if_pos c7, if_pos ⟨c1, by omega, by omega, by omega, fun z => c6 z.2, c7⟩]
                · rw [if_neg c7]; exact bad (fun z => c7 z.2.2.2.2.2)
            · rw [if_neg c5, if_neg (by simp)]
              by_cases c7 : (∀ i : Nat, 12 + shown s ≤ i → i < 56 → bt s i = 0)
              · rw [if_pos c7, if_pos ⟨c1, by omega, by omega, by omega, fun z => c5 z.1, c7⟩]
              · rw [if_neg c7]; exact bad (fun z => c7 z.2.2.2.2.2)
    · rw [if_neg (fun z => c1 (he.1 z))]; exact bad (fun z => c1 z.1)
  · rw [if_neg (by omega), if_neg h]
/-! ### the specification's put and Pack -/
theorem byte_le64 (n : Int) : Byte (le64 n) := by
  intro b hb
  simp only [le64, List.mem_cons, List.not_mem_nil, or_false] at hb
  omega
theorem byte_le16 (n : Int) : Byte (le16 n) := by
  intro b hb
  simp only [le16, List.mem_cons, List.not_mem_nil, or_false] at hb
  omega
theorem byte_rep (n : Nat) : Byte (List.replicate n 0) := by
  intro b hb
  have := (List.mem_replicate.1 hb).2
  omega
theorem byte_secNums (number : Int) (record : ByteArray) (i : Nat) : Byte (secNums number record i) :=
  (((((byte_le64 _).append (byte_le16 _)).append (byte_le16 _)).append (byte_bytesOf _)).append (byte_rep _)).append (byte_le64 _)
theorem bytesOf_secOf (number : Int) (record : ByteArray) (i : Nat) : bytesOf (secOf number record i) = secNums number record i := bytesOf_strOfNums (byte_secNums _ _ _)
theorem size_strOfNums (l : List Int) (h : Byte l) : (strOfNums l).size = l.length := by
  rw [← bytesOf_length, bytesOf_strOfNums h]
theorem textOf_size (record : ByteArray) (i : Nat) : (textOf record i).size ≤ 44 := by
  unfold textOf; rw [ByteArray.size_extract]; omega
abbrev Joined := Int × ByteArray × Int × Int
noncomputable def goS (num left n : Int) : List ByteArray → Nat → ByteArray → Joined
  | [], _, acc => (num, acc, n, 0)
  | s :: ss, i, acc =>
    if (openS s).2.2.2.2 = 0 ∧ (openS s).1 = num ∧ (openS s).2.1 = (i : Int) ∧ (openS s).2.2.1 = wrap64 (left - (i : Int) * 44) then goS num left n ss (i + 1) (acc ++ (openS s).2.2.2.1) else (0, ⟨#[]⟩, 0, 7)
noncomputable def joinS (l : List ByteArray) : Joined :=
  if l.length = 0 then (0, ⟨#[]⟩, 0, 11) else
    if (openS (rdOf ByteArray.empty l 0)).2.2.2.2 = 0 ∧ (openS (rdOf ByteArray.empty l 0)).2.1 = 0 then
      (if l.length < cnt (openS (rdOf ByteArray.empty l 0)).2.2.1.toNat then (0, ⟨#[]⟩, 0, 7)
       else goS (openS (rdOf ByteArray.empty l 0)).1 (openS (rdOf ByteArray.empty l 0)).2.2.1 (cnt (openS (rdOf ByteArray.empty l 0)).2.2.1.toNat : Nat) (l.take (cnt (openS (rdOf ByteArray.empty l 0)).2.2.1.toNat)) 0 ⟨#[]⟩)
    else (0, ⟨#[]⟩, 0, 11)
theorem openS_ok {s : ByteArray} (h : (openS s).2.2.2.2 = 0) : s.size = 64 ∧ Good s ∧ openS s = (numOf s, partOf s, leftOf s, s.extract 12 (12 + shown s), 0) := by
  unfold openS at h ⊢
  split at h
  · rename_i h1
    split at h
    · rename_i h2
      exact ⟨h1, h2, by rw [if_pos h1, if_pos h2]⟩
    · simp at h
  · simp at h
theorem openS_text (s : ByteArray) : (openS s).2.2.2.1.size ≤ 44 := by
  have := shown_le s
  unfold openS
  split
  · split
    · show (s.extract 12 (12 + shown s)).size ≤ 44
      rw [ByteArray.size_extract]; omega
    · exact Nat.zero_le _
  · exact Nat.zero_le _
theorem good_left {s : ByteArray} (h : (openS s).2.2.2.2 = 0) : 0 ≤ (openS s).2.2.1 ∧ (openS s).2.2.1 ≤ 8000 := by
  obtain ⟨h1, h2, h3⟩ := openS_ok h
  rw [h3]
  have := leftOf_bd s h1
  have := partOf_bd s h1
  have := h2.2.2.2.1
  show 0 ≤ leftOf s ∧ leftOf s ≤ 8000
  omega
theorem go_eq {k : Nat} (hk : 10 ≤ k) (num left n : Int) : ∀ (l : List ByteArray) (i : Nat) (acc : ByteArray), i + l.length ≤ 182 → acc.size ≤ 44 * i → sector_Join.go k num left n l i acc = some (goS num left n l i acc)
  | [], _, _, _, _ => rfl
  | s :: ss, i, acc, hi, ha => by
    have ht := openS_text s
    rw [List.length_cons] at hi
    have e : (acc ++ (openS s).2.2.2.1).size ≤ 44 * (i + 1) := by rw [ByteArray.size_append]; omega
    rw [sector_Join.go, goS, open_eq s hk, Option.bind_some]
    split
    · rw [if_pos (by omega), go_eq hk num left n ss (i + 1) _ (by omega) e]
    · rfl
theorem join_eq {k : Nat} (hk : 10 ≤ k) (l : List ByteArray) : sector_Join.f k l = some (joinS l) := by
  unfold sector_Join.f joinS
  by_cases h : l.length = 0
  · rw [if_pos h, if_pos h]
  · rw [if_neg h, if_neg h, open_eq _ hk, Option.bind_some]
    by_cases h2 : (openS (rdOf ByteArray.empty l 0)).2.2.2.2 = 0 ∧ (openS (rdOf ByteArray.empty l 0)).2.1 = 0
    · have hg := good_left h2.1
      generalize hq : openS (rdOf ByteArray.empty l 0) = q at h2 hg ⊢
      obtain ⟨a, ha⟩ := Int.eq_ofNat_of_zero_le hg.1
      have hc := cnt_le (n := a) (by omega)
      rw [if_pos h2, if_pos h2, ha, count_eq a (by omega), Option.bind_some, if_neg (by omega)]
      simp only [Int.toNat_natCast]
      by_cases h3 : l.length < cnt a
      · rw [if_pos (by omega), if_pos h3]
      · rw [if_neg (by omega), if_neg h3]
        exact go_eq hk _ _ _ _ 0 _ (by rw [List.length_take]; omega) (Nat.le_refl _)
    · rw [if_neg h2, if_neg h2]
/-! ### what a packed sector opens to -/
theorem leval_le64 (n : Int) (h1 : 0 ≤ n) (h2 : n < 18446744073709551616) : leval (le64 n) = n := by
  simp only [le64, leval]
  omega
theorem leval_le16 (n : Int) (h1 : 0 ≤ n) (h2 : n < 65536) : leval (le16 n) = n := by
  simp only [le16, leval]
  omega
theorem mid_of {A D E L : List Int} {a b : Nat} (h : L = A ++ (D ++ E)) (ha : A.length = a) (hb : a + D.length = b) : (L.take b).drop a = D := by
  subst h
  rw [List.drop_take, List.drop_left' ha, List.take_left' (by omega)]
theorem cnt_pos (n : Nat) : 1 ≤ cnt n := by unfold cnt; split <;> omega
theorem cnt_lt' {n k : Nat} (h : k < cnt n) (hk : 0 < k) : 44 * k < n := by unfold cnt at h; split at h <;> omega
theorem cnt_ge (n : Nat) : n ≤ 44 * cnt n := by unfold cnt; split <;> omega
theorem textOf_len (record : ByteArray) (i : Nat) : (textOf record i).size = min 44 (restOf record i).size := by
  unfold textOf; rw [ByteArray.size_extract]; omega
theorem secNums_length (number : Int) (record : ByteArray) (i : Nat) : (secNums number record i).length = 64 := by
  have := textOf_size record i
  unfold secNums
  simp only [List.length_append, le64_length, le16_length, List.length_replicate, bytesOf_length]
  omega
theorem secOf_size (number : Int) (record : ByteArray) (i : Nat) : (secOf number record i).size = 64 := by
  rw [← bytesOf_length, bytesOf_secOf, secNums_length]
theorem secOf_take8 (number : Int) (record : ByteArray) (i : Nat) : (bytesOf (secOf number record i)).take 8 = le64 number := by
  rw [bytesOf_secOf]
  have h := mid_of (A := []) (D := le64 number) (E := le16 i ++ (le16 (restOf record i).size ++ (bytesOf (textOf record i) ++ (List.replicate (44 - (textOf record i).size) 0 ++ le64 number)))) (L := secNums number record i) (a := 0) (b := 8) (by simp [secNums]) rfl rfl
  simpa using h
theorem secOf_drop56 (number : Int) (record : ByteArray) (i : Nat) : (bytesOf (secOf number record i)).drop 56 = le64 number := by
  rw [bytesOf_secOf]
  have := textOf_size record i
  unfold secNums
  refine List.drop_left' ?_
  simp only [List.length_append, le64_length, le16_length, List.length_replicate, bytesOf_length]
  omega
theorem secOf_opens (number : Int) (record : ByteArray) (i : Nat) (h1 : 1 ≤ number) (h2 : number ≤ 4611686018427387904) (hr : record.size ≤ 8000) (hi : i < cnt record.size) :
    openS (secOf number record i) = (number, (i : Int), ((record.size - i * 44 : Nat) : Int), textOf record i, 0) := by
  have hL := bytesOf_secOf number record i
  have hsz := secOf_size number record i
  have h44 := cnt_lt hi
  have hc := cnt_le hr
  have hrs : (restOf record i).size = record.size - i * 44 := by unfold restOf; rw [ByteArray.size_extract]; omega
  have htl := textOf_len record i
  have hts := textOf_size record i
  have hnum : numOf (secOf number record i) = number := by
    unfold numOf
    rw [secOf_take8, leval_le64 _ (by omega) (by omega)]
  have hpart : partOf (secOf number record i) = (i : Int) := by
    unfold partOf
    rw [hL, mid_of (L := secNums number record i) (a := 8) (b := 10) (A := le64 number) (D := le16 i) (E := le16 (restOf record i).size ++ (bytesOf (textOf record i) ++ (List.replicate (44 - (textOf record i).size) 0 ++ le64 number))) (by simp [secNums]) rfl rfl, leval_le16 _ (by omega) (by omega)]
  have hleft : leftOf (secOf number record i) = ((record.size - i * 44 : Nat) : Int) := by
    unfold leftOf
    rw [hL, mid_of (L := secNums number record i) (a := 10) (b := 12) (A := le64 number ++ le16 i) (D := le16 (restOf record i).size) (E := bytesOf (textOf record i) ++ (List.replicate (44 - (textOf record i).size) 0 ++ le64 number)) (by simp [secNums]) rfl rfl, leval_le16 _ (by omega) (by omega), hrs]
  have hshown : shown (secOf number record i) = (textOf record i).size := by
    unfold shown
    rw [hleft, htl, hrs]
    omega
  have htext : (secOf number record i).extract 12 (12 + (textOf record i).size) = textOf record i := by
    apply bytesOf_inj
    rw [bytesOf_extract, hL, mid_of (L := secNums number record i) (a := 12) (b := 12 + (textOf record i).size) (A := le64 number ++ le16 i ++ le16 (restOf record i).size) (D := bytesOf (textOf record i)) (E := List.replicate (44 - (textOf record i).size) 0 ++ le64 number) (by simp [secNums]) rfl (by rw [bytesOf_length])]
  have hgood : Good (secOf number record i) := by
    refine ⟨by rw [secOf_take8, secOf_drop56], by omega, by omega, by omega, ?_, ?_⟩
    · rintro ⟨z1, z2⟩
      have := cnt_lt' hi (by omega)
      omega
    · intro j hj1 hj2
      rw [hshown] at hj1
      have hg := bytesOf_get (secOf number record i) j (by omega)
      have hl : (le64 number ++ le16 i ++ le16 (restOf record i).size ++ bytesOf (textOf record i)).length = 12 + (textOf record i).size := by
        simp only [List.length_append, le64_length, le16_length, bytesOf_length]
      rw [hL, show secNums number record i = (le64 number ++ le16 i ++ le16 (restOf record i).size ++ bytesOf (textOf record i)) ++ (List.replicate (44 - (textOf record i).size) 0 ++ le64 number) from by simp [secNums], List.getElem?_append_right (by omega), hl, List.getElem?_append_left (by rw [List.length_replicate]; omega), List.getElem?_replicate, if_pos (by omega)] at hg
      exact (Option.some.inj hg).symm
  unfold openS
  rw [if_pos hsz, if_pos hgood, hnum, hpart, hleft, hshown, htext]
noncomputable def packed (number : Int) (record : ByteArray) : List ByteArray := (List.range (cnt record.size)).map (secOf number record)
theorem packed_length (number : Int) (record : ByteArray) : (packed number record).length = cnt record.size := by simp [packed]
theorem goS_step (number : Int) (record : ByteArray) (h1 : 1 ≤ number) (h2 : number ≤ 4611686018427387904) (hr : record.size ≤ 8000) (n : Int) (i : Nat) (acc : ByteArray) (l : List ByteArray) (hi : i < cnt record.size) :
    goS number (record.size : Int) n (secOf number record i :: l) i acc = goS number (record.size : Int) n l (i + 1) (acc ++ textOf record i) := by
  have h44 := cnt_lt hi
  have hc := cnt_le hr
  have ew : wrap64 ((record.size : Int) - (i : Int) * 44) = ((record.size - i * 44 : Nat) : Int) := by unfold wrap64; omega
  have ho := secOf_opens number record i h1 h2 hr hi
  rw [goS]
  have c1 : (openS (secOf number record i)).2.2.2.2 = 0 := by rw [ho]
  have c2 : (openS (secOf number record i)).1 = number := by rw [ho]
  have c3 : (openS (secOf number record i)).2.1 = (i : Int) := by rw [ho]
  have c4 : (openS (secOf number record i)).2.2.1 = wrap64 ((record.size : Int) - (i : Int) * 44) := by rw [ho, ew]
  have c5 : (openS (secOf number record i)).2.2.2.1 = textOf record i := by rw [ho]
  rw [if_pos ⟨c1, c2, c3, c4⟩, c5]
theorem text_step (record acc : ByteArray) (i : Nat) (ha : bytesOf acc = (bytesOf record).take (i * 44)) : bytesOf (acc ++ textOf record i) = (bytesOf record).take ((i + 1) * 44) := by
  have key : bytesOf (textOf record i) = ((bytesOf record).drop (i * 44)).take 44 := by
    unfold textOf restOf
    rw [bytesOf_extract, bytesOf_extract, List.drop_zero, List.take_of_length_le (l := bytesOf record) (by rw [bytesOf_length]; exact Nat.le_refl _)]
    have hl : ((bytesOf record).drop (i * 44)).length = record.size - i * 44 := by rw [List.length_drop, bytesOf_length]
    rw [ByteArray.size_extract]
    by_cases c : 44 ≤ record.size - i * 44
    · rw [show min 44 (min record.size record.size - i * 44) = 44 from by omega]
    · rw [List.take_of_length_le (by omega), List.take_of_length_le (by omega)]
  rw [bytesOf_append, ha, show (i + 1) * 44 = i * 44 + 44 from by omega, List.take_add, key]
theorem goS_packed (number : Int) (record : ByteArray) (h1 : 1 ≤ number) (h2 : number ≤ 4611686018427387904) (hr : record.size ≤ 8000) (n : Int) : ∀ (d i : Nat) (acc : ByteArray), i + d = cnt record.size → bytesOf acc = (bytesOf record).take (i * 44) →
    goS number (record.size : Int) n ((List.range' i d).map (secOf number record)) i acc = (number, record, n, 0)
  | 0, i, acc, hd, ha => by
    have hc := cnt_ge record.size
    have : acc = record := by
      apply bytesOf_inj
      rw [ha, List.take_of_length_le (by rw [bytesOf_length]; omega)]
    rw [this]
    rfl
  | d + 1, i, acc, hd, ha => by
    rw [List.range'_succ, List.map_cons, goS_step number record h1 h2 hr n i acc _ (by omega)]
    exact goS_packed number record h1 h2 hr n d (i + 1) _ (by omega) (text_step record acc i ha)
theorem rdOf_zero {a : ByteArray} {l : List ByteArray} : rdOf ByteArray.empty (a :: l) 0 = a := rfl
theorem joinS_packed (number : Int) (record : ByteArray) (h1 : 1 ≤ number) (h2 : number ≤ 4611686018427387904) (hr : record.size ≤ 8000) (more : List ByteArray) :
    joinS (packed number record ++ more) = (number, record, ((cnt record.size : Nat) : Int), 0) := by
  have hp := cnt_pos record.size
  have hl := packed_length number record
  have hf : rdOf ByteArray.empty (packed number record ++ more) 0 = secOf number record 0 := by
    unfold packed
    obtain ⟨d, hd⟩ : ∃ d, cnt record.size = d + 1 := ⟨cnt record.size - 1, by omega⟩
    rw [hd, List.range_succ_eq_map, List.map_cons, List.cons_append, rdOf_zero]
  have ho := secOf_opens number record 0 h1 h2 hr hp
  have c1 : (openS (secOf number record 0)).2.2.2.2 = 0 := by rw [ho]
  have c2 : (openS (secOf number record 0)).1 = number := by rw [ho]
  have c3 : (openS (secOf number record 0)).2.1 = 0 := by rw [ho]; rfl
  have c4 : (openS (secOf number record 0)).2.2.1 = (record.size : Int) := by rw [ho, Nat.zero_mul, Nat.sub_zero]
  unfold joinS
  rw [if_neg (by rw [List.length_append]; omega), hf, c1, c2, c3, c4, if_pos ⟨rfl, rfl⟩, Int.toNat_natCast, if_neg (by rw [List.length_append]; omega), List.take_left' hl]
  unfold packed
  rw [List.range_eq_range']
  exact goS_packed number record h1 h2 hr _ (cnt record.size) 0 _ (by omega) (by simp [bytesOf])
end Go.Proofs.YtcdgbdojopfkgaaDoor.P
