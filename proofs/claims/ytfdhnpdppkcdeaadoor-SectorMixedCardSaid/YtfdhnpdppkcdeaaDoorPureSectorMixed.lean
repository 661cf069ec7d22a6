import Derived.Test.YtfdhnpdppkcdeaaDoorPx21
import Derived.Test.YtfdhnpdppkcdeaaDoorSecG
namespace Go.Proofs.YtfdhnpdppkcdeaaDoor.Pure
open Go.RowKit Go.Proofs.YtfdhnpdppkcdeaaDoor.P Go.Proofs.YtfdhnpdppkcdeaaDoorW.PrintWords Go.Proofs.YtfdhnpdppkcdeaaDoorW.PrintLast Go.Proofs.YtfdhnpdppkcdeaaDoorW.PrintMore

def noSec : ByteArray := strOfNums (List.replicate 64 0)
def secAt (p : List ByteArray) (i : Nat) : ByteArray := if i < p.length then rdOf ByteArray.empty p (i : Int) else noSec
theorem noSec_bytes : bytesOf noSec = List.replicate 64 0 := bytesOf_strOfNums (byte_rep _)
theorem noSec_size : noSec.size = 64 := by unfold noSec; rw [size_strOfNums _ (byte_rep _)]; rfl
theorem secAt_packed {n : Int} {s : ByteArray} {i : Nat} (h : i < cnt s.size) : secAt (packed n s) i = secOf n s i := by
  unfold secAt packed
  rw [if_pos (by simpa using h)]
  unfold rdOf
  rw [Int.toNat_natCast, List.getD_eq_getElem?_getD, List.getElem?_map, List.getElem?_range h]
  rfl
theorem secAt_none {n : Int} {s : ByteArray} {i : Nat} (h : ¬ i < cnt s.size) : secAt (packed n s) i = noSec := by
  unfold secAt
  rw [packed_length, if_neg h]
theorem secAt_size (n : Int) (s : ByteArray) (i : Nat) : (secAt (packed n s) i).size = 64 := by
  by_cases h : i < cnt s.size
  · rw [secAt_packed h, secOf_size]
  · rw [secAt_none h, noSec_size]
theorem secAt_ends (n : Int) (s : ByteArray) (i : Nat) : EndsEq (bytesOf (secAt (packed n s) i)) := by
  by_cases h : i < cnt s.size
  · rw [secAt_packed h]; unfold EndsEq; rw [secOf_take8, secOf_drop56]
  · rw [secAt_none h, noSec_bytes]; rfl
/-- A sector of one of the two records. -/
def Either2 (n1 : Int) (r1 : ByteArray) (n2 : Int) (r2 : ByteArray) (i : Nat) (s : ByteArray) : Prop := (s = secOf n1 r1 i ∧ i < cnt r1.size) ∨ (s = secOf n2 r2 i ∧ i < cnt r2.size)
def AllM (n1 : Int) (r1 : ByteArray) (n2 : Int) (r2 : ByteArray) : List ByteArray → Nat → Prop
  | [], _ => True
  | s :: ss, i => ((openS s).2.2.2.2 = 0 → Either2 n1 r1 n2 r2 i s) ∧ AllM n1 r1 n2 r2 ss (i + 1)
theorem AllM.swap {n1 : Int} {r1 : ByteArray} {n2 : Int} {r2 : ByteArray} : ∀ {l : List ByteArray} {i : Nat}, AllM n1 r1 n2 r2 l i → AllM n2 r2 n1 r1 l i
  | [], _, _ => trivial
  | _ :: _, _, h => ⟨fun z => (h.1 z).symm, h.2.swap⟩
theorem AllM.append {n1 : Int} {r1 : ByteArray} {n2 : Int} {r2 : ByteArray} {s : ByteArray} : ∀ {l : List ByteArray} {i : Nat}, AllM n1 r1 n2 r2 l i → ((openS s).2.2.2.2 = 0 → Either2 n1 r1 n2 r2 (i + l.length) s) → AllM n1 r1 n2 r2 (l ++ [s]) i
  | [], _, _, k => ⟨k, trivial⟩
  | x :: l, i, h, k => ⟨h.1, h.2.append (by rw [List.length_cons] at k; rw [show i + 1 + l.length = i + (l.length + 1) from by omega]; exact k)⟩
theorem AllM.take {n1 : Int} {r1 : ByteArray} {n2 : Int} {r2 : ByteArray} : ∀ {l : List ByteArray} {i : Nat} (n : Nat), AllM n1 r1 n2 r2 l i → AllM n1 r1 n2 r2 (l.take n) i
  | [], _, _, _ => by rw [List.take_nil]; trivial
  | _ :: _, _, 0, _ => trivial
  | _ :: _, _, n + 1, h => ⟨h.1, h.2.take n⟩
theorem le64_ne {n m : Int} (h1 : 0 ≤ n) (h2 : n ≤ 4611686018427387904) (k1 : 0 ≤ m) (k2 : m ≤ 4611686018427387904) (h : n ≠ m) : le64 n ≠ le64 m := by
  intro e
  have := congrArg leval e
  rw [leval_le64 _ h1 (by omega), leval_le64 _ k1 (by omega)] at this
  exact h this
/-- What a sector out of two sectors is, if it opens. -/
theorem torn_opens {n1 : Int} {r1 : ByteArray} {n2 : Int} {r2 : ByteArray} (h1 : 1 ≤ n1) (h2 : n1 ≤ 4611686018427387904) (k1 : 1 ≤ n2) (k2 : n2 ≤ 4611686018427387904) (hne : n1 ≠ n2) (i c : Nat) (hc : c ≤ 64) (s : ByteArray)
    (hs : bytesOf s = (bytesOf (secAt (packed n1 r1) i)).take c ++ (bytesOf (secAt (packed n2 r2) i)).drop c) (ho : (openS s).2.2.2.2 = 0) : Either2 n1 r1 n2 r2 i s := by
  obtain ⟨z1, z2, z3⟩ := openS_ok ho
  have hz : le64 0 = List.replicate 8 0 := rfl
  have t8 : ∀ (n : Int) (r : ByteArray), (bytesOf (secAt (packed n r) i)).take 8 = if i < cnt r.size then le64 n else le64 0 := fun n r => by
    split
    · rename_i h; rw [secAt_packed h, secOf_take8]
    · rename_i h; rw [secAt_none h, noSec_bytes, List.take_replicate, hz]; rfl
  have zero : bytesOf s = bytesOf noSec → False := fun e => by
    have := z2.2.1
    unfold numOf at this
    rw [e, noSec_bytes] at this
    exact absurd this (by decide)
  by_cases c1 : i < cnt r1.size ∨ i < cnt r2.size
  · have hd : (bytesOf (secAt (packed n1 r1) i)).take 8 ≠ (bytesOf (secAt (packed n2 r2) i)).take 8 := by
      rw [t8, t8]
      split
      · split
        · exact le64_ne (by omega) h2 (by omega) k2 hne
        · exact le64_ne (by omega) h2 (by omega) (by omega) (by omega)
      · rename_i hh
        rw [if_pos (c1.resolve_left hh)]
        exact le64_ne (by omega) (by omega) (by omega) k2 (by omega)
    rcases mixed_ends (by rw [bytesOf_length, secAt_size]) (secAt_ends _ _ _) (secAt_ends _ _ _) hd hc (hs ▸ z2.1) with e | e
    · rw [← hs] at e
      by_cases a : i < cnt r1.size
      · exact .inl ⟨by rw [secAt_packed a] at e; exact bytesOf_inj e, a⟩
      · rw [secAt_none a] at e; exact (zero e).elim
    · rw [← hs] at e
      by_cases a : i < cnt r2.size
      · exact .inr ⟨by rw [secAt_packed a] at e; exact bytesOf_inj e, a⟩
      · rw [secAt_none a] at e; exact (zero e).elim
  · have a : ¬ i < cnt r1.size := fun z => c1 (.inl z)
    have b : ¬ i < cnt r2.size := fun z => c1 (.inr z)
    rw [secAt_none a, secAt_none b, List.take_append_drop] at hs
    exact (zero hs).elim
theorem goS_all {n1 : Int} {r1 : ByteArray} {n2 : Int} {r2 : ByteArray} (k1 : 1 ≤ n2) (k2 : n2 ≤ 4611686018427387904) (k3 : r2.size ≤ 8000) (hne : n1 ≠ n2) (left n : Int) : ∀ (l : List ByteArray) (i : Nat) (acc : ByteArray), AllM n1 r1 n2 r2 l i → (goS n1 left n l i acc).2.2.2 = 0 → l = (List.range' i l.length).map (secOf n1 r1)
  | [], _, _, _, _ => rfl
  | s :: ss, i, acc, hA, he => by
    rw [goS] at he
    by_cases c : (openS s).2.2.2.2 = 0 ∧ (openS s).1 = n1 ∧ (openS s).2.1 = (i : Int) ∧ (openS s).2.2.1 = wrap64 (left - (i : Int) * 44)
    · rw [if_pos c] at he
      have ih := goS_all k1 k2 k3 hne left n ss (i + 1) _ hA.2 he
      have hs : s = secOf n1 r1 i := by
        rcases hA.1 c.1 with h | h
        · exact h.1
        · have ho := secOf_opens n2 r2 i k1 k2 k3 h.2
          have hn := c.2.1
          rw [h.1, ho] at hn
          exact absurd hn.symm hne
      rw [List.length_cons, List.range'_succ, List.map_cons, ← ih, ← hs]
    · rw [if_neg c] at he
      exact absurd he (by decide)
theorem joinS_one {n1 : Int} {r1 : ByteArray} {n2 : Int} {r2 : ByteArray} (h1 : 1 ≤ n1) (h2 : n1 ≤ 4611686018427387904) (h3 : r1.size ≤ 8000) (k1 : 1 ≤ n2) (k2 : n2 ≤ 4611686018427387904) (k3 : r2.size ≤ 8000) (hne : n1 ≠ n2) (l : List ByteArray) (hA : AllM n1 r1 n2 r2 l 0) (hl : l.length ≠ 0)
    (hf : rdOf ByteArray.empty l 0 = secOf n1 r1 0) (he : (joinS l).2.2.2 = 0) : (joinS l).1 = n1 ∧ (joinS l).2.1 = r1 := by
  have ho := secOf_opens n1 r1 0 h1 h2 h3 (cnt_pos _)
  have c1 : (openS (secOf n1 r1 0)).2.2.2.2 = 0 := by rw [ho]
  have c2 : (openS (secOf n1 r1 0)).1 = n1 := by rw [ho]
  have c3 : (openS (secOf n1 r1 0)).2.1 = 0 := by rw [ho]; rfl
  have c4 : (openS (secOf n1 r1 0)).2.2.1 = (r1.size : Int) := by rw [ho, Nat.zero_mul, Nat.sub_zero]
  have hj : joinS l = if l.length < cnt r1.size then (0, ⟨#[]⟩, 0, 7) else goS n1 (r1.size : Int) ((cnt r1.size : Nat) : Int) (l.take (cnt r1.size)) 0 ⟨#[]⟩ := by
    unfold joinS
    rw [if_neg hl, hf, c1, c2, c3, c4, if_pos ⟨rfl, rfl⟩, Int.toNat_natCast]
  rw [hj] at he ⊢
  by_cases c : l.length < cnt r1.size
  · rw [if_pos c] at he; exact absurd he (by decide)
  · rw [if_neg c] at he ⊢
    have hp := goS_all k1 k2 k3 hne _ _ _ 0 _ (hA.take _) he
    rw [List.length_take, Nat.min_eq_left (by omega)] at hp
    rw [hp, goS_packed n1 r1 h1 h2 h3 _ (cnt r1.size) 0 _ (by omega) (by simp [bytesOf])]
    exact ⟨rfl, rfl⟩
theorem joinS_mixed {n1 : Int} {r1 : ByteArray} {n2 : Int} {r2 : ByteArray} (h1 : 1 ≤ n1) (h2 : n1 ≤ 4611686018427387904) (h3 : r1.size ≤ 8000) (k1 : 1 ≤ n2) (k2 : n2 ≤ 4611686018427387904) (k3 : r2.size ≤ 8000) (hne : n1 ≠ n2) (l : List ByteArray) (hA : AllM n1 r1 n2 r2 l 0)
    (he : (joinS l).2.2.2 = 0) : ((joinS l).1 = n1 ∧ (joinS l).2.1 = r1) ∨ ((joinS l).1 = n2 ∧ (joinS l).2.1 = r2) := by
  cases l with
  | nil => exact absurd he (by decide)
  | cons s ss =>
    have hf : rdOf ByteArray.empty (s :: ss) 0 = s := rfl
    have ho : (openS s).2.2.2.2 = 0 := by
      by_cases c : (openS s).2.2.2.2 = 0
      · exact c
      · have hj : joinS (s :: ss) = (0, ⟨#[]⟩, 0, 11) := by
          unfold joinS
          rw [if_neg (by simp), hf, if_neg (fun z => c z.1)]
        rw [hj] at he; exact absurd he (by decide)
    rcases hA.1 ho with h | h
    · exact .inl (joinS_one h1 h2 h3 k1 k2 k3 hne _ hA (by simp) (hf.trans h.1) he)
    · exact .inr (joinS_one k1 k2 k3 h1 h2 h3 hne.symm _ hA.swap (by simp) (hf.trans h.1) he)

theorem mixed_j3 (k : Nat) (n1 : Int) (r1 : ByteArray) (n2 : Int) (r2 : ByteArray) (cuts : List Int) (p q out : List ByteArray) (i c : Nat) (hi : i ≤ 1000) (hc : c ≤ 64) (ho : out.length ≤ 1000)
    (hp : (secAt p i).size = 64) (hq : (secAt q i).size = 64) :
    custodylaw24_SectorMixed.j3 (k + 1) n1 r1 n2 r2 cuts p q out (i : Int) (c : Int) = custodylaw24_SectorMixed.l0 k n1 r1 n2 r2 cuts p q (out ++ [(secAt p i).extract 0 c ++ (secAt q i).extract c (secAt q i).size]) ((i + 1 : Nat) : Int) := by
  have e : wrap64 ((i : Int) + 1) = ((i + 1 : Nat) : Int) := by unfold wrap64; omega
  have e0 : strOfNums (List.replicate 64 0) = noSec := rfl
  have hz := noSec_size
  rw [custodylaw24_SectorMixed.j3, if_pos (by omega), Option.bind_some, e, Int.toNat_natCast, e0]
  unfold secAt at hp hq ⊢
  by_cases c1 : i < p.length
  · rw [if_pos c1] at hp ⊢
    rw [if_pos (by omega), if_pos (by omega)]
    by_cases c2 : i < q.length
    · rw [if_pos c2] at hq ⊢
      rw [if_pos (by omega), if_pos (by omega), if_pos (by omega), if_pos (by omega), if_pos (by rw [ByteArray.size_extract, ByteArray.size_extract]; omega), if_pos (by omega)]
    · rw [if_neg c2] at hq ⊢
      rw [if_neg (by omega), if_pos (by omega), if_pos (by omega), if_pos (by omega), if_pos (by rw [ByteArray.size_extract, ByteArray.size_extract]; omega), if_pos (by omega)]
  · rw [if_neg c1] at hp ⊢
    rw [if_neg (by omega)]
    by_cases c2 : i < q.length
    · rw [if_pos c2] at hq ⊢
      rw [if_pos (by omega), if_pos (by omega), if_pos (by omega), if_pos (by omega), if_pos (by omega), if_pos (by rw [ByteArray.size_extract, ByteArray.size_extract]; omega), if_pos (by omega)]
    · rw [if_neg c2] at hq ⊢
      rw [if_neg (by omega), if_pos (by omega), if_pos (by omega), if_pos (by rw [ByteArray.size_extract, ByteArray.size_extract]; omega), if_pos (by omega)]
theorem mixed_l0 {n1 : Int} {r1 : ByteArray} {n2 : Int} {r2 : ByteArray} (h1 : 1 ≤ n1) (h2 : n1 ≤ 4611686018427387904) (h3 : r1.size ≤ 2000) (k1 : 1 ≤ n2) (k2 : n2 ≤ 4611686018427387904) (k3 : r2.size ≤ 2000) (hne : n1 ≠ n2) (cuts : List Int) :
    ∀ (d k i : Nat) (out : List ByteArray), max (cnt r1.size) (cnt r2.size) - i = d → i ≤ max (cnt r1.size) (cnt r2.size) → 2 * d + 100 ≤ k → out.length = i → AllM n1 r1 n2 r2 out 0 →
    custodylaw24_SectorMixed.l0 k n1 r1 n2 r2 cuts (packed n1 r1) (packed n2 r2) out (i : Int) = some true
  | 0, k, i, out, hd, hi, hk, hl, hA => by
    obtain ⟨k, rfl⟩ : ∃ m, k = m + 1 := ⟨k - 1, by omega⟩
    rw [custodylaw24_SectorMixed.l0, packed_length, packed_length, if_neg (by unfold mx; split <;> omega), join_eq (by omega), sanity_ok (by omega), Option.bind_some, Option.bind_some, if_pos rfl]
    by_cases he : (joinS out).2.2.2 = 0
    · rw [if_pos he]
      rcases joinS_mixed h1 h2 (by omega) k1 k2 (by omega) hne out hA he with ⟨e1, e2⟩ | ⟨e1, e2⟩
      · rw [if_pos e1, e2, if_pos rfl]
      · rw [if_neg (by rw [e1]; exact hne.symm), if_pos e1, e2]
        simp
    · rw [if_neg he]
  | d + 1, k, i, out, hd, hi, hk, hl, hA => by
    obtain ⟨k, rfl⟩ : ∃ m, k = m + 2 := ⟨k - 2, by omega⟩
    have hm1 := cnt_le (n := r1.size) (by omega)
    have hm2 := cnt_le (n := r2.size) (by omega)
    have step : ∀ c : Nat, c ≤ 64 → custodylaw24_SectorMixed.j3 (k + 1) n1 r1 n2 r2 cuts (packed n1 r1) (packed n2 r2) out (i : Int) (c : Int) = some true := fun c hc => by
      rw [mixed_j3 k n1 r1 n2 r2 cuts _ _ out i c (by omega) hc (by omega) (secAt_size _ _ _) (secAt_size _ _ _)]
      refine mixed_l0 h1 h2 h3 k1 k2 k3 hne cuts d k (i + 1) _ (by omega) (by omega) (by omega) (by rw [List.length_append, hl]; rfl) (hA.append (fun ho => ?_))
      rw [Nat.zero_add, hl]
      refine torn_opens h1 h2 k1 k2 hne i c hc _ ?_ ho
      rw [bytesOf_append, bytesOf_extract, bytesOf_extract, List.drop_zero, List.take_of_length_le (l := bytesOf (secAt (packed n2 r2) i)) (by rw [bytesOf_length]; exact Nat.le_refl _)]
    rw [custodylaw24_SectorMixed.l0, packed_length, packed_length, if_pos (by unfold mx; split <;> omega)]
    by_cases c : (i : Int) < (cuts.length : Int)
    · rw [if_pos c, if_pos (by omega)]
      obtain ⟨x, hx⟩ : ∃ x, rd cuts (i : Int) = x := ⟨_, rfl⟩
      have hb : mx 0 (mn 64 x) = ((mx 0 (mn 64 x)).toNat : Int) ∧ (mx 0 (mn 64 x)).toNat ≤ 64 := by
        unfold mx mn
        split <;> split <;> omega
      rw [hx, hb.1]
      exact step _ hb.2
    · rw [if_neg c]
      exact step 64 (Nat.le_refl _)
theorem packf_cases (n : Int) (s : ByteArray) : (∃ e, e ≠ 0 ∧ sector_Pack.f n s = some ([], e)) ∨ (1 ≤ n ∧ n ≤ 4611686018427387904 ∧ s.size ≤ 8000 ∧ sector_Pack.f n s = some (packed n s, 0)) := by
  by_cases h1 : n < 1
  · exact .inl ⟨1, by decide, by unfold sector_Pack.f; rw [if_pos h1]⟩
  · by_cases h2 : 4611686018427387904 < n
    · exact .inl ⟨1, by decide, by unfold sector_Pack.f; rw [if_neg h1, if_pos h2]⟩
    · by_cases h3 : 8000 < s.size
      · exact .inl ⟨2, by decide, by unfold sector_Pack.f; rw [if_neg h1, if_neg h2, if_pos h3]⟩
      · exact .inr ⟨by omega, by omega, by omega, packf_ok (by omega) (by omega) (by omega)⟩
theorem mixed_j0 (k : Nat) (hk : 1000 ≤ k) (a0 : Int) (a1 : ByteArray) (a2 : Int) (a3 : ByteArray) (l : List Int) (b : Bool) (h : b = true ∨ (a1.size ≤ 2000 ∧ a3.size ≤ 2000 ∧ a0 ≠ a2)) : custodylaw24_SectorMixed.j0 k a0 a1 a2 a3 l b = some true := by
  obtain ⟨k, rfl⟩ : ∃ m, k = m + 2 := ⟨k - 2, by omega⟩
  have sj : ∀ p q, custodylaw24_SectorMixed.j1 (k + 1) a0 a1 a2 a3 l p q true = some true := fun p q => by
    rw [custodylaw24_SectorMixed.j1, sanity_ok (by omega)]; rfl
  rw [custodylaw24_SectorMixed.j0, sanity_ok (by omega)]
  cases b with
  | true => rfl
  | false =>
    obtain ⟨m1, m2, m3⟩ := h.resolve_left (by simp)
    rw [if_neg (by simp)]
    rcases packf_cases a0 a1 with ⟨e, he, hp⟩ | ⟨h1, h2, h3, hp⟩
    · obtain ⟨⟨q1, q2⟩, hq⟩ : ∃ q, sector_Pack.f a2 a3 = some q := by
        rcases packf_cases a2 a3 with ⟨e, he, hp⟩ | ⟨h1, h2, h3, hp⟩
        · exact ⟨_, hp⟩
        · exact ⟨_, hp⟩
      rw [hp, hq, Option.bind_some, Option.bind_some, if_neg he, sj]
    · rcases packf_cases a2 a3 with ⟨e, he, hq⟩ | ⟨k1, k2, k3, hq⟩
      · rw [hp, hq, Option.bind_some, Option.bind_some, if_pos rfl]
        have : (e != 0) = true := by simpa using he
        rw [show ((([] : List ByteArray), e).2 != 0) = true from this, sj]
      · rw [hp, hq, Option.bind_some, Option.bind_some, if_pos rfl, custodylaw24_SectorMixed.j1, if_neg (by simp)]
        have c1 := cnt_le h3
        have c2 := cnt_le k3
        exact mixed_l0 h1 h2 m1 k1 k2 m2 m3 l _ _ 0 [] rfl (Nat.zero_le _) (by omega) rfl trivial
theorem SectorMixed (a0 : Int) (_w0 : (Lit.int .i64 a0).wf = true) (a1 : ByteArray) (_w1 : a1.size ≤ 140737488355328) (a2 : Int) (_w2 : (Lit.int .i64 a2).wf = true) (a3 : ByteArray) (_w3 : a3.size ≤ 140737488355328) (l4 : List Int) (_w4 : ∀ n ∈ l4, (Lit.int .i64 n).wf = true) : ∃ k, custodylaw24_SectorMixed.f k a0 a1 a2 a3 l4 = some true := by
  refine ⟨2000, ?_⟩
  unfold custodylaw24_SectorMixed.f
  split
  · exact mixed_j0 _ (by omega) _ _ _ _ _ _ (.inl rfl)
  · split
    · exact mixed_j0 _ (by omega) _ _ _ _ _ _ (.inl rfl)
    · split
      · exact mixed_j0 _ (by omega) _ _ _ _ _ _ (.inl rfl)
      · refine mixed_j0 _ (by omega) _ _ _ _ _ _ ?_
        by_cases h : a0 = a2
        · exact .inl (beq_iff_eq.2 h)
        · exact .inr ⟨by omega, by omega, h⟩
end Go.Proofs.YtfdhnpdppkcdeaaDoor.Pure
