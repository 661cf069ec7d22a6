/- Plain Lean about layer 24: Join, in the program and in the specification; what it makes of a packed record. -/
import Derived.Test.YtfdhnpdppkcdeaaDoorSecE
import Derived.Test.YtfdhnpdppkcdeaaDoorHandJoin
import Derived.Test.YtfdhnpdppkcdeaaDoorPx16
namespace Go.Proofs.YtfdhnpdppkcdeaaDoor.P
open Go.RowKit Go.Proofs.YtfdhnpdppkcdeaaDoorW.PrintWords Go.Proofs.YtfdhnpdppkcdeaaDoorW.PrintMore Go.Proofs.YtfdhnpdppkcdeaaDoorW.PrintLast

abbrev Joined := Int × ByteArray × Int × Int
noncomputable def goS (num left n : Int) : List ByteArray → Nat → ByteArray → Joined
  | [], _, acc => (num, acc, n, 0)
  | s :: ss, i, acc =>
    if (openS s).2.2.2.2 = 0 ∧ (openS s).1 = num ∧ (openS s).2.1 = (i : Int) ∧ (openS s).2.2.1 = wrap64 (left - (i : Int) * 44) then goS num left n ss (i + 1) (acc ++ (openS s).2.2.2.1) else (0, ⟨#[]⟩, 0, 7)
noncomputable def joinS (l : List ByteArray) : Joined :=
  if l.length = 0 then (0, ⟨#[]⟩, 0, 11) else
    if (openS (rdOf ByteArray.empty l 0)).2.2.2.2 = 0 ∧ (openS (rdOf ByteArray.empty l 0)).2.1 = 0 then
      (if l.length < cnt (openS (rdOf ByteArray.empty l 0)).2.2.1.toNat then (0, ⟨#[]⟩, 0, 7)
       else goS (openS (rdOf ByteArray.empty l 0)).1 (openS (rdOf ByteArray.empty l 0)).2.2.1 (cnt (openS (rdOf ByteArray.empty l 0)).2.2.1.toNat : Nat) (l.take (cnt (openS (rdOf ByteArray.empty l 0)).2.2.1.toNat)) 0 ⟨#[]⟩)
    else (0, ⟨#[]⟩, 0, 11)

theorem openS_ok {s : ByteArray} (h : (openS s).2.2.2.2 = 0) : s.size = 64 ∧ Good s ∧ openS s = (numOf s, partOf s, leftOf s, s.extract 12 (12 + shown s), 0) := by
  unfold openS at h ⊢
  split at h
  · rename_i h1
    split at h
    · rename_i h2
      exact ⟨h1, h2, by rw [if_pos h1, if_pos h2]⟩
    · simp at h
  · simp at h
theorem openS_text (s : ByteArray) : (openS s).2.2.2.1.size ≤ 44 := by
  have := shown_le s
  unfold openS
  split
  · split
    · show (s.extract 12 (12 + shown s)).size ≤ 44
      rw [ByteArray.size_extract]; omega
    · exact Nat.zero_le _
  · exact Nat.zero_le _
theorem good_left {s : ByteArray} (h : (openS s).2.2.2.2 = 0) : 0 ≤ (openS s).2.2.1 ∧ (openS s).2.2.1 ≤ 8000 := by
  obtain ⟨h1, h2, h3⟩ := openS_ok h
  rw [h3]
  have := leftOf_bd s h1
  have := partOf_bd s h1
  have := h2.2.2.2.1
  show 0 ≤ leftOf s ∧ leftOf s ≤ 8000
  omega
theorem go_eq {k : Nat} (hk : 10 ≤ k) (num left n : Int) : ∀ (l : List ByteArray) (i : Nat) (acc : ByteArray), i + l.length ≤ 182 → acc.size ≤ 44 * i → sector_Join.go k num left n l i acc = some (goS num left n l i acc)
  | [], _, _, _, _ => rfl
  | s :: ss, i, acc, hi, ha => by
    have ht := openS_text s
    rw [List.length_cons] at hi
    have e : (acc ++ (openS s).2.2.2.1).size ≤ 44 * (i + 1) := by rw [ByteArray.size_append]; omega
    rw [sector_Join.go, goS, open_eq s hk, Option.bind_some]
    split
    · rw [if_pos (by omega), go_eq hk num left n ss (i + 1) _ (by omega) e]
    · rfl
theorem join_eq {k : Nat} (hk : 10 ≤ k) (l : List ByteArray) : sector_Join.f k l = some (joinS l) := by
  unfold sector_Join.f joinS
  by_cases h : l.length = 0
  · rw [if_pos h, if_pos h]
  · rw [if_neg h, if_neg h, open_eq _ hk, Option.bind_some]
    by_cases h2 : (openS (rdOf ByteArray.empty l 0)).2.2.2.2 = 0 ∧ (openS (rdOf ByteArray.empty l 0)).2.1 = 0
    · have hg := good_left h2.1
      generalize hq : openS (rdOf ByteArray.empty l 0) = q at h2 hg ⊢
      obtain ⟨a, ha⟩ := Int.eq_ofNat_of_zero_le hg.1
      have hc := cnt_le (n := a) (by omega)
      rw [if_pos h2, if_pos h2, ha, count_eq a (by omega), Option.bind_some, if_neg (by omega)]
      simp only [Int.toNat_natCast]
      by_cases h3 : l.length < cnt a
      · rw [if_pos (by omega), if_pos h3]
      · rw [if_neg (by omega), if_neg h3]
        exact go_eq hk _ _ _ _ 0 _ (by rw [List.length_take]; omega) (Nat.le_refl _)
    · rw [if_neg h2, if_neg h2]

/-! ### what a packed sector opens to -/
theorem leval_le64 (n : Int) (h1 : 0 ≤ n) (h2 : n < 18446744073709551616) : leval (le64 n) = n := by
  simp only [le64, leval]
  omega
theorem leval_le16 (n : Int) (h1 : 0 ≤ n) (h2 : n < 65536) : leval (le16 n) = n := by
  simp only [le16, leval]
  omega
theorem mid_of {A D E L : List Int} {a b : Nat} (h : L = A ++ (D ++ E)) (ha : A.length = a) (hb : a + D.length = b) : (L.take b).drop a = D := by
  subst h
  rw [List.drop_take, List.drop_left' ha, List.take_left' (by omega)]
theorem cnt_pos (n : Nat) : 1 ≤ cnt n := by unfold cnt; split <;> omega
theorem cnt_lt' {n k : Nat} (h : k < cnt n) (hk : 0 < k) : 44 * k < n := by unfold cnt at h; split at h <;> omega
theorem cnt_ge (n : Nat) : n ≤ 44 * cnt n := by unfold cnt; split <;> omega
theorem textOf_len (record : ByteArray) (i : Nat) : (textOf record i).size = min 44 (restOf record i).size := by
  unfold textOf; rw [ByteArray.size_extract]; omega
theorem secNums_length (number : Int) (record : ByteArray) (i : Nat) : (secNums number record i).length = 64 := by
  have := textOf_size record i
  unfold secNums
  simp only [List.length_append, le64_length, le16_length, List.length_replicate, bytesOf_length]
  omega
theorem secOf_size (number : Int) (record : ByteArray) (i : Nat) : (secOf number record i).size = 64 := by
  rw [← bytesOf_length, bytesOf_secOf, secNums_length]
theorem secOf_take8 (number : Int) (record : ByteArray) (i : Nat) : (bytesOf (secOf number record i)).take 8 = le64 number := by
  rw [bytesOf_secOf]
  have h := mid_of (A := []) (D := le64 number) (E := le16 i ++ (le16 (restOf record i).size ++ (bytesOf (textOf record i) ++ (List.replicate (44 - (textOf record i).size) 0 ++ le64 number)))) (L := secNums number record i) (a := 0) (b := 8) (by simp [secNums]) rfl rfl
  simpa using h
theorem secOf_drop56 (number : Int) (record : ByteArray) (i : Nat) : (bytesOf (secOf number record i)).drop 56 = le64 number := by
  rw [bytesOf_secOf]
  have := textOf_size record i
  unfold secNums
  refine List.drop_left' ?_
  simp only [List.length_append, le64_length, le16_length, List.length_replicate, bytesOf_length]
  omega
theorem secOf_opens (number : Int) (record : ByteArray) (i : Nat) (h1 : 1 ≤ number) (h2 : number ≤ 4611686018427387904) (hr : record.size ≤ 8000) (hi : i < cnt record.size) :
    openS (secOf number record i) = (number, (i : Int), ((record.size - i * 44 : Nat) : Int), textOf record i, 0) := by
  have hL := bytesOf_secOf number record i
  have hsz := secOf_size number record i
  have h44 := cnt_lt hi
  have hc := cnt_le hr
  have hrs : (restOf record i).size = record.size - i * 44 := by unfold restOf; rw [ByteArray.size_extract]; omega
  have htl := textOf_len record i
  have hts := textOf_size record i
  have hnum : numOf (secOf number record i) = number := by
    unfold numOf
    rw [secOf_take8, leval_le64 _ (by omega) (by omega)]
  have hpart : partOf (secOf number record i) = (i : Int) := by
    unfold partOf
    rw [hL, mid_of (L := secNums number record i) (a := 8) (b := 10) (A := le64 number) (D := le16 i) (E := le16 (restOf record i).size ++ (bytesOf (textOf record i) ++ (List.replicate (44 - (textOf record i).size) 0 ++ le64 number))) (by simp [secNums]) rfl rfl, leval_le16 _ (by omega) (by omega)]
  have hleft : leftOf (secOf number record i) = ((record.size - i * 44 : Nat) : Int) := by
    unfold leftOf
    rw [hL, mid_of (L := secNums number record i) (a := 10) (b := 12) (A := le64 number ++ le16 i) (D := le16 (restOf record i).size) (E := bytesOf (textOf record i) ++ (List.replicate (44 - (textOf record i).size) 0 ++ le64 number)) (by simp [secNums]) rfl rfl, leval_le16 _ (by omega) (by omega), hrs]
  have hshown : shown (secOf number record i) = (textOf record i).size := by
    unfold shown
    rw [hleft, htl, hrs]
    omega
  have htext : (secOf number record i).extract 12 (12 + (textOf record i).size) = textOf record i := by
    apply bytesOf_inj
    rw [bytesOf_extract, hL, mid_of (L := secNums number record i) (a := 12) (b := 12 + (textOf record i).size) (A := le64 number ++ le16 i ++ le16 (restOf record i).size) (D := bytesOf (textOf record i)) (E := List.replicate (44 - (textOf record i).size) 0 ++ le64 number) (by simp [secNums]) rfl (by rw [bytesOf_length])]
  have hgood : Good (secOf number record i) := by
    refine ⟨by rw [secOf_take8, secOf_drop56], by omega, by omega, by omega, ?_, ?_⟩
    · rintro ⟨z1, z2⟩
      have := cnt_lt' hi (by omega)
      omega
    · intro j hj1 hj2
      rw [hshown] at hj1
      have hg := bytesOf_get (secOf number record i) j (by omega)
      have hl : (le64 number ++ le16 i ++ le16 (restOf record i).size ++ bytesOf (textOf record i)).length = 12 + (textOf record i).size := by
        simp only [List.length_append, le64_length, le16_length, bytesOf_length]
      rw [hL, show secNums number record i = (le64 number ++ le16 i ++ le16 (restOf record i).size ++ bytesOf (textOf record i)) ++ (List.replicate (44 - (textOf record i).size) 0 ++ le64 number) from by simp [secNums], List.getElem?_append_right (by omega), hl, List.getElem?_append_left (by rw [List.length_replicate]; omega), List.getElem?_replicate, if_pos (by omega)] at hg
      exact (Option.some.inj hg).symm
  unfold openS
  rw [if_pos hsz, if_pos hgood, hnum, hpart, hleft, hshown, htext]
noncomputable def packed (number : Int) (record : ByteArray) : List ByteArray := (List.range (cnt record.size)).map (secOf number record)
theorem packed_length (number : Int) (record : ByteArray) : (packed number record).length = cnt record.size := by simp [packed]
theorem goS_step (number : Int) (record : ByteArray) (h1 : 1 ≤ number) (h2 : number ≤ 4611686018427387904) (hr : record.size ≤ 8000) (n : Int) (i : Nat) (acc : ByteArray) (l : List ByteArray) (hi : i < cnt record.size) :
    goS number (record.size : Int) n (secOf number record i :: l) i acc = goS number (record.size : Int) n l (i + 1) (acc ++ textOf record i) := by
  have h44 := cnt_lt hi
  have hc := cnt_le hr
  have ew : wrap64 ((record.size : Int) - (i : Int) * 44) = ((record.size - i * 44 : Nat) : Int) := by unfold wrap64; omega
  have ho := secOf_opens number record i h1 h2 hr hi
  rw [goS]
  have c1 : (openS (secOf number record i)).2.2.2.2 = 0 := by rw [ho]
  have c2 : (openS (secOf number record i)).1 = number := by rw [ho]
  have c3 : (openS (secOf number record i)).2.1 = (i : Int) := by rw [ho]
  have c4 : (openS (secOf number record i)).2.2.1 = wrap64 ((record.size : Int) - (i : Int) * 44) := by rw [ho, ew]
  have c5 : (openS (secOf number record i)).2.2.2.1 = textOf record i := by rw [ho]
  rw [if_pos ⟨c1, c2, c3, c4⟩, c5]
theorem text_step (record acc : ByteArray) (i : Nat) (ha : bytesOf acc = (bytesOf record).take (i * 44)) : bytesOf (acc ++ textOf record i) = (bytesOf record).take ((i + 1) * 44) := by
  have key : bytesOf (textOf record i) = ((bytesOf record).drop (i * 44)).take 44 := by
    unfold textOf restOf
    rw [bytesOf_extract, bytesOf_extract, List.drop_zero, List.take_of_length_le (l := bytesOf record) (by rw [bytesOf_length]; exact Nat.le_refl _)]
    have hl : ((bytesOf record).drop (i * 44)).length = record.size - i * 44 := by rw [List.length_drop, bytesOf_length]
    rw [ByteArray.size_extract]
    by_cases c : 44 ≤ record.size - i * 44
    · rw [show min 44 (min record.size record.size - i * 44) = 44 from by omega]
    · rw [List.take_of_length_le (by omega), List.take_of_length_le (by omega)]
  rw [bytesOf_append, ha, show (i + 1) * 44 = i * 44 + 44 from by omega, List.take_add, key]
theorem goS_packed (number : Int) (record : ByteArray) (h1 : 1 ≤ number) (h2 : number ≤ 4611686018427387904) (hr : record.size ≤ 8000) (n : Int) : ∀ (d i : Nat) (acc : ByteArray), i + d = cnt record.size → bytesOf acc = (bytesOf record).take (i * 44) →
    goS number (record.size : Int) n ((List.range' i d).map (secOf number record)) i acc = (number, record, n, 0)
  | 0, i, acc, hd, ha => by
    have hc := cnt_ge record.size
    have : acc = record := by
      apply bytesOf_inj
      rw [ha, List.take_of_length_le (by rw [bytesOf_length]; omega)]
    rw [this]
    rfl
  | d + 1, i, acc, hd, ha => by
    rw [List.range'_succ, List.map_cons, goS_step number record h1 h2 hr n i acc _ (by omega)]
    exact goS_packed number record h1 h2 hr n d (i + 1) _ (by omega) (text_step record acc i ha)
theorem packf_ok {number : Int} {record : ByteArray} (h1 : 1 ≤ number) (h2 : number ≤ 4611686018427387904) (hr : record.size ≤ 8000) : sector_Pack.f number record = some (packed number record, 0) := by
  unfold sector_Pack.f
  rw [if_neg (by omega), if_neg (by omega), if_neg (by omega)]
  rfl
end Go.Proofs.YtfdhnpdppkcdeaaDoor.P
