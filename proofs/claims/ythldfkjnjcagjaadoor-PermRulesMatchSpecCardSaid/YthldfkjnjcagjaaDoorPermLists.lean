/- Plain Lean about layer 14: Sources and Targets, in the program (sort, then compact) and in the specification (insert one by one). -/
import Derived.Test.YthldfkjnjcagjaaDoorPermPure
import Derived.Test.YthldfkjnjcagjaaDoorPx4
import Derived.Test.YthldfkjnjcagjaaDoorPx14
import Derived.Test.YthldfkjnjcagjaaDoorPx15
import Derived.Test.YthldfkjnjcagjaaDoorPx18
import Derived.Test.YthldfkjnjcagjaaDoorHandLists
import Derived.Test.YthldfkjnjcagjaaDoorPx21
import Derived.Test.YthldfkjnjcagjaaDoorPx22
import Derived.Test.YthldfkjnjcagjaaDoorPx5
import Derived.Test.YthldfkjnjcagjaaDoorPx28
import Derived.Test.YthldfkjnjcagjaaDoorPx23
import Derived.Test.YthldfkjnjcagjaaDoorPx8
namespace Go.Proofs.YthldfkjnjcagjaaDoor.P
open Go.RowKit Go.Lib Go.Proofs.YthldfkjnjcagjaaDoorW.PrintWords Go.Proofs.YthldfkjnjcagjaaDoorW.PrintMore Go.Proofs.YthldfkjnjcagjaaDoorW.PrintLast

theorem strict_ext : ∀ {l m : List Int}, l.Pairwise (· < ·) → m.Pairwise (· < ·) → (∀ x, x ∈ l ↔ x ∈ m) → l = m
  | [], [], _, _, _ => rfl
  | [], b :: m, _, _, h => by have := (h b).2 (by simp); simp at this
  | a :: l, [], _, _, h => by have := (h a).1 (by simp); simp at this
  | a :: l, b :: m, hl, hm, h => by
    rw [List.pairwise_cons] at hl hm
    have hab : a = b := by
      have h1 := (h a).1 (by simp)
      have h2 := (h b).2 (by simp)
      rw [List.mem_cons] at h1 h2
      rcases h1 with h1 | h1
      · exact h1
      · rcases h2 with h2 | h2
        · exact h2.symm
        · have := hl.1 b h2
          have := hm.1 a h1
          omega
    subst hab
    congr 1
    refine strict_ext hl.2 hm.2 (fun x => ?_)
    constructor
    · intro hx
      have h3 := (h x).1 (List.mem_cons_of_mem _ hx)
      rw [List.mem_cons] at h3
      rcases h3 with h3 | h3
      · have := hl.1 x hx; omega
      · exact h3
    · intro hx
      have h3 := (h x).2 (List.mem_cons_of_mem _ hx)
      rw [List.mem_cons] at h3
      rcases h3 with h3 | h3
      · have := hm.1 x hx; omega
      · exact h3
theorem compactUpTo_strict (d : Array Int) (hs : ∀ i j : Nat, i ≤ j → j < d.size → d[i]! ≤ d[j]!) : ∀ m : Nat, m ≤ d.size →
    (Lib.compactUpTo d m).Pairwise (· < ·) ∧ (∀ x ∈ Lib.compactUpTo d m, 0 < m ∧ x ≤ d[m - 1]!) ∧ ∀ x, x ∈ Lib.compactUpTo d m ↔ ∃ j, j < m ∧ d[j]! = x
  | 0, _ => by simp [Lib.compactUpTo]
  | m + 1, hm => by
    obtain ⟨h1, h2, h3⟩ := compactUpTo_strict d hs m (by omega)
    rw [Lib.compactUpTo_succ]
    by_cases hk : Lib.keeps d m = true
    · rw [if_pos hk]
      have hlt : ∀ x ∈ Lib.compactUpTo d m, x < d[m]! := by
        intro x hx
        obtain ⟨hm0, hx2⟩ := h2 x hx
        have hne : d[m]! ≠ d[m - 1]! := by
          unfold Lib.keeps at hk
          rcases of_decide_eq_true hk with h | h
          · omega
          · exact h
        have := hs (m - 1) m (by omega) (by omega)
        omega
      refine ⟨?_, ?_, ?_⟩
      · rw [List.pairwise_append]
        exact ⟨h1, by simp, fun x hx y hy => by rw [List.mem_singleton] at hy; subst hy; exact hlt x hx⟩
      · intro x hx
        rw [List.mem_append, List.mem_singleton] at hx
        refine ⟨by omega, ?_⟩
        rw [Nat.add_sub_cancel]
        rcases hx with hx | hx
        · have := hlt x hx; omega
        · omega
      · intro x
        rw [List.mem_append, List.mem_singleton, h3]
        constructor
        · rintro (⟨j, hj, e⟩ | e)
          · exact ⟨j, by omega, e⟩
          · exact ⟨m, by omega, e.symm⟩
        · rintro ⟨j, hj, e⟩
          by_cases h : j = m
          · subst h; exact .inr e.symm
          · exact .inl ⟨j, by omega, e⟩
    · rw [if_neg hk, List.append_nil]
      have hz : ¬ (m = 0 ∨ d[m]! ≠ d[m - 1]!) := by
        intro z
        exact hk (decide_eq_true z)
      have hm0 : m ≠ 0 := fun z => hz (.inl z)
      have he : d[m]! = d[m - 1]! := by
        by_cases h : d[m]! = d[m - 1]!
        · exact h
        · exact absurd (.inr h) hz
      refine ⟨h1, ?_, ?_⟩
      · intro x hx
        refine ⟨by omega, ?_⟩
        rw [Nat.add_sub_cancel, he]
        exact (h2 x hx).2
      · intro x
        rw [h3]
        constructor
        · rintro ⟨j, hj, e⟩
          exact ⟨j, by omega, e⟩
        · rintro ⟨j, hj, e⟩
          by_cases h : j = m
          · subst h; exact ⟨j - 1, by omega, by rw [← he]; exact e⟩
          · exact ⟨j, by omega, e⟩
theorem sorted_strict (zs : List Int) : (Lib.compact (sortedOf zs)).Pairwise (· < ·) ∧ ∀ x, x ∈ Lib.compact (sortedOf zs) ↔ x ∈ zs := by
  have hp : (sortedOf zs).Pairwise (fun x y => decide (x ≤ y) = true) := List.pairwise_mergeSort (fun a b c h1 h2 => by simp only [decide_eq_true_eq] at *; omega) (fun a b => by simp only [Bool.or_eq_true, decide_eq_true_eq]; omega) zs
  have hs : ∀ i j : Nat, i ≤ j → j < (sortedOf zs).toArray.size → (sortedOf zs).toArray[i]! ≤ (sortedOf zs).toArray[j]! := by
    intro i j hij hj
    have hj2 : j < (sortedOf zs).length := by simpa using hj
    have hi2 : i < (sortedOf zs).length := by omega
    rw [getElem!_pos (sortedOf zs).toArray i (by simpa using hi2), getElem!_pos (sortedOf zs).toArray j hj]
    by_cases h : i = j
    · subst h; exact Int.le_refl _
    · have := List.pairwise_iff_getElem.1 hp i j hi2 hj2 (by omega)
      simpa using this
  obtain ⟨h1, _, h3⟩ := compactUpTo_strict (sortedOf zs).toArray hs (sortedOf zs).length (by simp)
  refine ⟨h1, fun x => (h3 x).trans ?_⟩
  rw [← List.mem_mergeSort (le := fun x y => decide (x ≤ y)) (l := zs), List.mem_iff_getElem]
  constructor
  · rintro ⟨j, hj, e⟩
    exact ⟨j, hj, by rw [← e, getElem!_pos (sortedOf zs).toArray j (by simpa using hj)]; rfl⟩
  · rintro ⟨j, hj, e⟩
    exact ⟨j, hj, by rw [← e, getElem!_pos (sortedOf zs).toArray j (by simpa [sortedOf] using hj)]; rfl⟩
theorem distinctOf_strict (val : S55 → Int) (is : S55 → Bool) (l : List S55) : (distinctOf val is l).Pairwise (· < ·) ∧ ∀ x, x ∈ distinctOf val is l ↔ ∃ r ∈ l, is r = true ∧ val r = x := by
  obtain ⟨h1, h2⟩ := sorted_strict (selOf val is l)
  refine ⟨h1, fun x => (h2 x).trans ?_⟩
  unfold selOf
  rw [List.mem_map]
  constructor
  · rintro ⟨r, hr, e⟩
    rw [List.mem_filter] at hr
    exact ⟨r, hr.1, hr.2, e⟩
  · rintro ⟨r, h1, h2, e⟩
    exact ⟨r, List.mem_filter.2 ⟨h1, h2⟩, e⟩

theorem rd_at (l : List Int) {i : Nat} (h : i < l.length) : rd l (i : Int) = l[i] := by
  unfold rd
  rw [Int.toNat_natCast, List.getD_eq_getElem?_getD, List.getElem?_eq_getElem h]
  rfl
theorem rd55 (l : List S55) {i : Nat} (h : i < l.length) : rd_T55 l (i : Int) = l[i] := by
  unfold rd_T55
  rw [Int.toNat_natCast, List.getD_eq_getElem?_getD, List.getElem?_eq_getElem h]
  rfl
def ins (n : Int) : List Int → List Int
  | [] => [n]
  | a :: l => if a = n then a :: l else if a > n then n :: a :: l else a :: ins n l
theorem mem_ins (n x : Int) : ∀ l : List Int, x ∈ ins n l ↔ x = n ∨ x ∈ l
  | [] => by simp [ins]
  | a :: l => by
    unfold ins
    split
    · rename_i h; subst h; simp
    · split
      · simp
      · rw [List.mem_cons, mem_ins n x l, List.mem_cons]
        constructor
        · rintro (h | h | h)
          · exact .inr (.inl h)
          · exact .inl h
          · exact .inr (.inr h)
        · rintro (h | h | h)
          · exact .inr (.inl h)
          · exact .inl h
          · exact .inr (.inr h)
theorem ins_strict (n : Int) : ∀ l : List Int, l.Pairwise (· < ·) → (ins n l).Pairwise (· < ·)
  | [], _ => by simp [ins]
  | a :: l, h => by
    unfold ins
    split
    · exact h
    · split
      · rename_i h1 h2
        rw [List.pairwise_cons]
        refine ⟨fun x hx => ?_, h⟩
        rw [List.mem_cons] at hx
        rw [List.pairwise_cons] at h
        rcases hx with hx | hx
        · omega
        · have := h.1 x hx; omega
      · rename_i h1 h2
        rw [List.pairwise_cons] at h ⊢
        refine ⟨fun x hx => ?_, ins_strict n l h.2⟩
        rcases (mem_ins n x l).1 hx with hx | hx
        · omega
        · exact h.1 x hx
theorem ins_length (n : Int) : ∀ l : List Int, (ins n l).length ≤ l.length + 1
  | [] => by simp [ins]
  | a :: l => by
    unfold ins
    split
    · simp
    · split
      · simp
      · have := ins_length n l; simp only [List.length_cons]; omega
theorem insert_done (l : List Int) (n : Int) (hb : l.length ≤ 1000) : ∀ (d k i : Nat) (x5 : List Int), l.length - i = d → i ≤ l.length → d < k → x5.length ≤ 2000 + i → (∀ x ∈ l.drop i, n < x) →
    custodyref14_insert.l0 k l n x5 true (i : Int) = some (x5 ++ l.drop i)
  | 0, k, i, x5, hd, hi, hk, hx, hm => by
    obtain ⟨k, rfl⟩ : ∃ m, k = m + 1 := ⟨k - 1, by omega⟩
    rw [custodyref14_insert.l0, if_neg (by omega), if_pos rfl, List.drop_eq_nil_of_le (by omega), List.append_nil]
  | d + 1, k, i, x5, hd, hi, hk, hx, hm => by
    obtain ⟨k, rfl⟩ : ∃ m, k = m + 1 := ⟨k - 1, by omega⟩
    have hlt : i < l.length := by omega
    have e2 : wrap64 ((i : Int) + 1) = ((i + 1 : Nat) : Int) := by unfold wrap64; omega
    rw [List.drop_eq_getElem_cons hlt] at hm ⊢
    have hn := hm l[i] List.mem_cons_self
    rw [custodyref14_insert.l0, if_pos (by omega), if_pos (by omega), rd_at l hlt, if_neg (by omega), if_pos (by omega), if_pos rfl, if_pos (by omega), e2,
      insert_done l n hb d k (i + 1) (x5 ++ [l[i]]) (by omega) (by omega) (by omega) (by simp; omega) (fun x hx => hm x (List.mem_cons_of_mem _ hx)), List.append_assoc]
    rfl
theorem insert_open (l : List Int) (n : Int) (hb : l.length ≤ 1000) (hs : l.Pairwise (· < ·)) : ∀ (d k i : Nat), l.length - i = d → i ≤ l.length → d < k →
    custodyref14_insert.l0 k l n (l.take i) false (i : Int) = some (l.take i ++ ins n (l.drop i))
  | 0, k, i, hd, hi, hk => by
    obtain ⟨k, rfl⟩ : ∃ m, k = m + 1 := ⟨k - 1, by omega⟩
    rw [custodyref14_insert.l0, if_neg (by omega), if_neg (by simp), if_pos (by rw [List.length_take]; omega), List.drop_eq_nil_of_le (by omega)]
    rfl
  | d + 1, k, i, hd, hi, hk => by
    obtain ⟨k, rfl⟩ : ∃ m, k = m + 1 := ⟨k - 1, by omega⟩
    have hlt : i < l.length := by omega
    have e2 : wrap64 ((i : Int) + 1) = ((i + 1 : Nat) : Int) := by unfold wrap64; omega
    have hsd : (l.drop i).Pairwise (· < ·) := hs.drop
    rw [List.drop_eq_getElem_cons hlt] at hsd ⊢
    rw [List.pairwise_cons] at hsd
    rw [custodyref14_insert.l0, if_pos (by omega), if_pos (by omega), rd_at l hlt]
    unfold ins
    by_cases h1 : l[i] = n
    · rw [if_pos h1, if_pos h1, ← List.drop_eq_getElem_cons hlt, List.take_append_drop]
    · rw [if_neg h1, if_neg h1]
      have hlen : (l.take i).length ≤ 1000 := by rw [List.length_take]; omega
      by_cases h2 : l[i] > n
      · rw [if_pos h2, if_pos h2, if_neg (by simp), if_pos (by omega), Option.bind_some, if_pos (by simp only [List.length_append, List.length_cons, List.length_nil]; omega), e2,
          insert_done l n hb d k (i + 1) _ (by omega) (by omega) (by omega) (by simp only [List.length_append, List.length_cons, List.length_nil]; omega) (fun x hx => by have := hsd.1 x hx; omega)]
        simp
      · rw [if_neg h2, if_neg h2, if_pos (by omega), e2]
        have ht : l.take i ++ [l[i]] = l.take (i + 1) := (List.take_succ_eq_append_getElem hlt).symm
        rw [ht, insert_open l n hb hs d k (i + 1) (by omega) (by omega) (by omega), List.take_succ_eq_append_getElem hlt, List.append_assoc]
        rfl
theorem insert_eq {k : Nat} (l : List Int) (n : Int) (hb : l.length ≤ 1000) (hs : l.Pairwise (· < ·)) (hk : l.length < k) : custodyref14_insert.f k l n = some (ins n l) :=
  insert_open l n hb hs l.length k 0 (by omega) (by omega) (by omega)
def insAll (val : S55 → Int) (is : S55 → Bool) (out : List Int) (l : List S55) : List Int := l.foldl (fun o r => if is r then ins (val r) o else o) out
theorem insAll_strict (val : S55 → Int) (is : S55 → Bool) : ∀ (l : List S55) (out : List Int), out.Pairwise (· < ·) → (insAll val is out l).Pairwise (· < ·) ∧ ∀ x, x ∈ insAll val is out l ↔ x ∈ out ∨ ∃ r ∈ l, is r = true ∧ val r = x
  | [], out, h => ⟨h, fun x => by simp [insAll]⟩
  | r :: l, out, h => by
    have key : (if is r then ins (val r) out else out).Pairwise (· < ·) := by
      split
      · exact ins_strict _ _ h
      · exact h
    obtain ⟨h1, h2⟩ := insAll_strict val is l _ key
    refine ⟨h1, fun x => (h2 x).trans ?_⟩
    by_cases hr : is r = true
    · rw [if_pos hr, mem_ins]
      constructor
      · rintro ((e | e) | ⟨s, hs, e⟩)
        · exact .inr ⟨r, by simp, hr, e.symm⟩
        · exact .inl e
        · exact .inr ⟨s, List.mem_cons_of_mem _ hs, e⟩
      · rintro (e | ⟨s, hs, e1, e2⟩)
        · exact .inl (.inr e)
        · rw [List.mem_cons] at hs
          rcases hs with rfl | hs
          · exact .inl (.inl e2.symm)
          · exact .inr ⟨s, hs, e1, e2⟩
    · rw [if_neg hr]
      constructor
      · rintro (e | ⟨s, hs, e⟩)
        · exact .inl e
        · exact .inr ⟨s, List.mem_cons_of_mem _ hs, e⟩
      · rintro (e | ⟨s, hs, e1, e2⟩)
        · exact .inl e
        · rw [List.mem_cons] at hs
          rcases hs with rfl | hs
          · exact absurd e1 hr
          · exact .inr ⟨s, hs, e1, e2⟩
theorem insAll_eq (val : S55 → Int) (is : S55 → Bool) (l : List S55) : insAll val is [] l = distinctOf val is l := by
  obtain ⟨h1, h2⟩ := insAll_strict val is l [] (by simp)
  obtain ⟨h3, h4⟩ := distinctOf_strict val is l
  exact strict_ext h1 h3 (fun x => by rw [h2, h4]; simp)
theorem sources_l0 (kind b : Int) (a0 : ByteArray) (l1 : List S59) (l2 : List S55) (l3 : List S33) (h100 : l2.length ≤ 500) : ∀ (d k i : Nat) (out : List Int), l2.length - i = d → i ≤ l2.length → d + 600 < k → out.length ≤ i → out.Pairwise (· < ·) →
    custodyref14_Sources.l0 k kind b out (i : Int) a0 l1 l2 l3 = some (insAll (fun x => x.f1) (srcIs kind b) out (l2.drop i))
  | 0, k, i, out, hd, hi, hk, ho, hs => by
    obtain ⟨k, rfl⟩ : ∃ m, k = m + 1 := ⟨k - 1, by omega⟩
    rw [custodyref14_Sources.l0, if_neg (by omega), List.drop_eq_nil_of_le (by omega)]
    rfl
  | d + 1, k, i, out, hd, hi, hk, ho, hs => by
    obtain ⟨k, rfl⟩ : ∃ m, k = m + 1 := ⟨k - 1, by omega⟩
    have hlt : i < l2.length := by omega
    have e2 : wrap64 ((i : Int) + 1) = ((i + 1 : Nat) : Int) := by unfold wrap64; omega
    have IH := fun out' (h1 : out'.length ≤ i + 1) (h2 : out'.Pairwise (· < ·)) => sources_l0 kind b a0 l1 l2 l3 h100 d k (i + 1) out' (by omega) (by omega) (by omega) h1 h2
    rw [custodyref14_Sources.l0, if_pos (by omega), if_pos (by omega), rd55 l2 hlt, e2, List.drop_eq_getElem_cons hlt, insAll, List.foldl_cons]
    generalize l2[i] = r
    by_cases h1 : r.f0 = kind
    · by_cases h2 : r.f2 = b
      · have hr : srcIs kind b r = true := by unfold srcIs; simp [h1, h2]
        rw [if_pos h1, if_pos h2, if_pos hr, insert_eq out r.f1 (by omega) hs (by omega), Option.bind_some]
        exact IH _ (by have := ins_length r.f1 out; omega) (ins_strict _ _ hs)
      · have hr : ¬ srcIs kind b r = true := by unfold srcIs; simp [h2]
        rw [if_pos h1, if_neg h2, if_neg hr]
        exact IH _ (by omega) hs
    · have hr : ¬ srcIs kind b r = true := by unfold srcIs; simp [h1]
      rw [if_neg h1, if_neg hr]
      exact IH _ (by omega) hs
theorem targets_l0 (kind a : Int) (a0 : ByteArray) (l1 : List S59) (l2 : List S55) (l3 : List S33) (h100 : l2.length ≤ 500) : ∀ (d k i : Nat) (out : List Int), l2.length - i = d → i ≤ l2.length → d + 600 < k → out.length ≤ i → out.Pairwise (· < ·) →
    custodyref14_Targets.l0 k kind a out (i : Int) a0 l1 l2 l3 = some (insAll (fun x => x.f2) (tgtIs kind a) out (l2.drop i))
  | 0, k, i, out, hd, hi, hk, ho, hs => by
    obtain ⟨k, rfl⟩ : ∃ m, k = m + 1 := ⟨k - 1, by omega⟩
    rw [custodyref14_Targets.l0, if_neg (by omega), List.drop_eq_nil_of_le (by omega)]
    rfl
  | d + 1, k, i, out, hd, hi, hk, ho, hs => by
    obtain ⟨k, rfl⟩ : ∃ m, k = m + 1 := ⟨k - 1, by omega⟩
    have hlt : i < l2.length := by omega
    have e2 : wrap64 ((i : Int) + 1) = ((i + 1 : Nat) : Int) := by unfold wrap64; omega
    have IH := fun out' (h1 : out'.length ≤ i + 1) (h2 : out'.Pairwise (· < ·)) => targets_l0 kind a a0 l1 l2 l3 h100 d k (i + 1) out' (by omega) (by omega) (by omega) h1 h2
    rw [custodyref14_Targets.l0, if_pos (by omega), if_pos (by omega), rd55 l2 hlt, e2, List.drop_eq_getElem_cons hlt, insAll, List.foldl_cons]
    generalize l2[i] = r
    by_cases h1 : r.f0 = kind
    · by_cases h2 : r.f1 = a
      · have hr : tgtIs kind a r = true := by unfold tgtIs; simp [h1, h2]
        rw [if_pos h1, if_pos h2, if_pos hr, insert_eq out r.f2 (by omega) hs (by omega), Option.bind_some]
        exact IH _ (by have := ins_length r.f2 out; omega) (ins_strict _ _ hs)
      · have hr : ¬ tgtIs kind a r = true := by unfold tgtIs; simp [h2]
        rw [if_pos h1, if_neg h2, if_neg hr]
        exact IH _ (by omega) hs
    · have hr : ¬ tgtIs kind a r = true := by unfold tgtIs; simp [h1]
      rw [if_neg h1, if_neg hr]
      exact IH _ (by omega) hs
theorem refsources_eq {k : Nat} (kind b : Int) (a0 : ByteArray) (l1 : List S59) (l2 : List S55) (l3 : List S33) (h100 : l2.length ≤ 500) (hk : 2000 ≤ k) :
    custodyref14_Sources.f k a0 l1 l2 l3 kind b = some (distinctOf (fun x => x.f1) (srcIs kind b) l2) := by
  rw [← insAll_eq]
  exact sources_l0 kind b a0 l1 l2 l3 h100 l2.length k 0 [] (by omega) (by omega) (by omega) (by simp) (by simp)
theorem reftargets_eq {k : Nat} (kind a : Int) (a0 : ByteArray) (l1 : List S59) (l2 : List S55) (l3 : List S33) (h100 : l2.length ≤ 500) (hk : 2000 ≤ k) :
    custodyref14_Targets.f k a0 l1 l2 l3 kind a = some (distinctOf (fun x => x.f2) (tgtIs kind a) l2) := by
  rw [← insAll_eq]
  exact targets_l0 kind a a0 l1 l2 l3 h100 l2.length k 0 [] (by omega) (by omega) (by omega) (by simp) (by simp)
theorem distinct_length (val : S55 → Int) (is : S55 → Bool) (l : List S55) : (distinctOf val is l).length ≤ l.length := by
  unfold distinctOf
  exact Nat.le_trans (compact_le _) (by rw [sortedOf_length]; exact selOf_le _ _ _)
theorem same_l0 (l : List Int) (hb : l.length ≤ 1000) : ∀ (d k i : Nat), l.length - i = d → i ≤ l.length → d < k → custodyref14_Same.l0 k l l (i : Int) = some true
  | 0, k, i, hd, hi, hk => by
    obtain ⟨k, rfl⟩ : ∃ m, k = m + 1 := ⟨k - 1, by omega⟩
    rw [custodyref14_Same.l0, if_neg (by omega)]
  | d + 1, k, i, hd, hi, hk => by
    obtain ⟨k, rfl⟩ : ∃ m, k = m + 1 := ⟨k - 1, by omega⟩
    have e2 : wrap64 ((i : Int) + 1) = ((i + 1 : Nat) : Int) := by unfold wrap64; omega
    rw [custodyref14_Same.l0, if_pos (by omega), if_pos (by omega), if_pos (by omega), if_pos rfl, e2]
    exact same_l0 l hb d k (i + 1) (by omega) (by omega) (by omega)
theorem same_eq {k : Nat} (l : List Int) (hb : l.length ≤ 1000) (hk : 1001 ≤ k) : custodyref14_Same.f k l l = some true := by
  unfold custodyref14_Same.f
  rw [if_pos rfl]
  exact same_l0 l hb l.length k 0 (by omega) (by omega) (by omega)
def mayIs (kind a b : Int) (x : S55) : Bool := x.f0 == kind && (x.f1 == a && x.f2 == b)
theorem refmay_l0 (kind a b : Int) (a0 : ByteArray) (l1 : List S59) (l2 : List S55) (l3 : List S33) (hb : l2.length ≤ 1000) : ∀ (d k i : Nat), l2.length - i = d → i ≤ l2.length → d < k → custodyref14_May.l0 k kind a b (i : Int) a0 l1 l2 l3 = some ((l2.drop i).any (mayIs kind a b))
  | 0, k, i, hd, hi, hk => by
    obtain ⟨k, rfl⟩ : ∃ m, k = m + 1 := ⟨k - 1, by omega⟩
    rw [custodyref14_May.l0, if_neg (by omega), List.drop_eq_nil_of_le (by omega)]
    rfl
  | d + 1, k, i, hd, hi, hk => by
    obtain ⟨k, rfl⟩ : ∃ m, k = m + 1 := ⟨k - 1, by omega⟩
    have hlt : i < l2.length := by omega
    have e2 : wrap64 ((i : Int) + 1) = ((i + 1 : Nat) : Int) := by unfold wrap64; omega
    rw [custodyref14_May.l0, if_pos (by omega), if_pos (by omega), rd55 l2 hlt, e2, List.drop_eq_getElem_cons hlt, List.any_cons]
    have hc : (l2[i].f0 == kind && (l2[i].f1 == a && l2[i].f2 == b)) = mayIs kind a b l2[i] := rfl
    rw [hc]
    by_cases h : mayIs kind a b l2[i] = true
    · rw [if_pos h, h, Bool.true_or]
    · rw [if_neg h, refmay_l0 kind a b a0 l1 l2 l3 hb d k (i + 1) (by omega) (by omega) (by omega), (by simpa using h : mayIs kind a b l2[i] = false), Bool.false_or]
theorem refmay_eq {k : Nat} (kind a b : Int) (a0 : ByteArray) (l1 : List S59) (l2 : List S55) (l3 : List S33) (hb : l2.length ≤ 1000) (hk : 1001 ≤ k) : custodyref14_May.f k a0 l1 l2 l3 kind a b = some (l2.any (mayIs kind a b)) :=
  refmay_l0 kind a b a0 l1 l2 l3 hb l2.length k 0 (by omega) (by omega) (by omega)
theorem may_l0 (kind a b : Int) (l2 : List S55) (hb : l2.length ≤ 1000) : ∀ (d k i : Nat), l2.length - i = d → i ≤ l2.length → d < k → ∃ z, api_Rule_45.l0 k l2 (l2.length : Int) (i : Int) kind a b = some z ∧ decide (z ≥ 0) = (l2.drop i).any (mayIs kind a b)
  | 0, k, i, hd, hi, hk => by
    obtain ⟨k, rfl⟩ : ∃ m, k = m + 1 := ⟨k - 1, by omega⟩
    refine ⟨-1, by rw [api_Rule_45.l0, if_neg (by omega)], ?_⟩
    rw [List.drop_eq_nil_of_le (by omega)]
    rfl
  | d + 1, k, i, hd, hi, hk => by
    obtain ⟨k, rfl⟩ : ∃ m, k = m + 1 := ⟨k - 1, by omega⟩
    have hlt : i < l2.length := by omega
    have e2 : wrap64 ((i : Int) + 1) = ((i + 1 : Nat) : Int) := by unfold wrap64; omega
    rw [api_Rule_45.l0, if_pos (by omega), if_pos (by omega), if_pos (by omega), rd55 l2 hlt, e2, List.drop_eq_getElem_cons hlt, List.any_cons]
    have hc : (kind == l2[i].f0 && (a == l2[i].f1 && b == l2[i].f2)) = mayIs kind a b l2[i] := by
      unfold mayIs
      rw [Bool.beq_comm (a := kind), Bool.beq_comm (a := a), Bool.beq_comm (a := b)]
    rw [hc]
    by_cases h : mayIs kind a b l2[i] = true
    · rw [if_pos h]
      exact ⟨_, rfl, by rw [h, Bool.true_or]; exact decide_eq_true (by omega)⟩
    · rw [if_neg h, (by simpa using h : mayIs kind a b l2[i] = false), Bool.false_or]
      exact may_l0 kind a b l2 hb d k (i + 1) (by omega) (by omega) (by omega)
theorem may_eq {k : Nat} (kind a b : Int) (a0 : ByteArray) (l1 : List S59) (l2 : List S55) (l3 : List S33) (hb : l2.length ≤ 1000) (hk : 1001 ≤ k) : perm_May.f k a0 l1 l2 l3 kind a b = some (l2.any (mayIs kind a b)) := by
  obtain ⟨z, h1, h2⟩ := may_l0 kind a b l2 hb l2.length k 0 (by omega) (by omega) (by omega)
  unfold perm_May.f api_Rule_42.f api_Rule_45.f
  rw [show (0 : Int) = ((0 : Nat) : Int) from rfl, h1, Option.bind_some, Option.bind_some]
  exact congrArg some h2
end Go.Proofs.YthldfkjnjcagjaaDoor.P
