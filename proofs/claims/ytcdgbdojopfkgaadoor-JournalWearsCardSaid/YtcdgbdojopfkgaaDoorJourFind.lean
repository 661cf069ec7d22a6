/- Plain Lean: what putDev does on a device between two calls. -/
import Derived.Test.YtcdgbdojopfkgaaDoorJourOpen
namespace Go.Proofs.YtcdgbdojopfkgaaDoor.P
open Go.RowKit Go.Proofs.YtcdgbdojopfkgaaDoorW.PrintWords Go.Proofs.YtcdgbdojopfkgaaDoorW.PrintMore

/-- A device between two calls: it is up, no failure is set, nothing is unsettled. -/
structure Clean (D : Dev) : Prop where
  up : D.down = false
  left : D.left = -1
  secs : ∀ (k : Nat) (x : Sec), D.secs[k]? = some x → x.dirty = false ∧ x.now.size = 64 ∧ x.before.size = 64 ∧ x.fresh.size ≤ 64
theorem Clean.ok {D : Dev} (h : Clean D) : SecsOk D.secs := fun k x hx => by
  obtain ⟨h1, h2, h3, h4⟩ := h.secs k x hx
  exact ⟨h2, h3, (fun z => by rw [h1] at z; cases z), h4⟩
theorem Clean.text {D : Dev} (h : Clean D) {k : Nat} {x : Sec} (hx : D.secs[k]? = some x) : (texts D)[k]? = some x.now := by
  unfold texts
  rw [List.getElem?_map, hx]
  show some (txtOf x) = _
  unfold txtOf
  rw [(h.secs k x hx).1]
  rfl
theorem texts_length (D : Dev) : (texts D).length = D.secs.length := by unfold texts; rw [List.length_map]
theorem Clean.at_ {D : Dev} (h : Clean D) {k : Nat} {t : ByteArray} (ht : (texts D)[k]? = some t) : ∃ x, D.secs[k]? = some x ∧ x.now = t := by
  have hk : k < D.secs.length := by rw [← texts_length]; exact (List.getElem?_eq_some_iff.1 ht).1
  refine ⟨D.secs[k], List.getElem?_eq_getElem hk, ?_⟩
  rw [h.text (List.getElem?_eq_getElem hk)] at ht
  exact Option.some.inj ht
def wrSec (i : Nat) (l : List ByteArray) (k : Nat) (x : Sec) : Sec := if i ≤ k ∧ k < i + l.length ∧ x.worn = false then { x with fresh := (l[k - i]?).getD ⟨#[]⟩, dirty := true } else x
def wAll : List Sec → Nat → List ByteArray → List Sec
  | secs, _, [] => secs
  | secs, i, s :: l => wAll (putSec secs i s) (i + 1) l
theorem putSec_get (secs : List Sec) (n : Nat) (t : ByteArray) (k : Nat) : (putSec secs n t)[k]? = (secs[k]?).map (fun x => if k = n ∧ x.worn = false then { x with fresh := t, dirty := true } else x) := by
  unfold putSec
  split
  · rename_i s hn
    have hlt : n < secs.length := (List.getElem?_eq_some_iff.1 hn).1
    split
    · rename_i hw
      cases hk : secs[k]? with
      | none => rfl
      | some x =>
        rw [Option.map_some, if_neg]
        rintro ⟨rfl, h2⟩
        rw [hn] at hk
        obtain rfl := Option.some.inj hk
        rw [hw] at h2
        cases h2
    · rename_i hw
      replace hw : s.worn = false := by simpa using hw
      rw [List.getElem?_set]
      by_cases hkn : n = k
      · subst hkn
        rw [if_pos rfl, if_pos hlt, hn, Option.map_some, if_pos ⟨rfl, hw⟩]
      · rw [if_neg hkn]
        cases hk : secs[k]? with
        | none => rfl
        | some x => rw [Option.map_some, if_neg (fun z => hkn z.1.symm)]
  · rename_i hn
    cases hk : secs[k]? with
    | none => rfl
    | some x =>
      rw [Option.map_some, if_neg]
      rintro ⟨rfl, _⟩
      rw [hk] at hn
      cases hn
theorem wAll_get : ∀ (l : List ByteArray) (secs : List Sec) (i k : Nat), (wAll secs i l)[k]? = (secs[k]?).map (wrSec i l k)
  | [], secs, i, k => by
    show secs[k]? = _
    cases secs[k]? with
    | none => rfl
    | some x =>
      show _ = some (wrSec i [] k x)
      unfold wrSec
      rw [if_neg (by rw [List.length_nil]; omega)]
  | s :: l, secs, i, k => by
    rw [wAll, wAll_get l, putSec_get]
    cases secs[k]? with
    | none => rfl
    | some x =>
      rw [Option.map_some, Option.map_some, Option.map_some]
      congr 1
      by_cases hw : x.worn = false
      · by_cases hk : k = i
        · subst hk
          rw [if_pos ⟨rfl, hw⟩]
          unfold wrSec
          rw [if_neg (fun z => by have := z.1; omega), if_pos ⟨Nat.le_refl _, by rw [List.length_cons]; omega, hw⟩, Nat.sub_self]
          rfl
        · rw [if_neg (fun z => hk z.1)]
          unfold wrSec
          by_cases hc : i + 1 ≤ k ∧ k < i + 1 + l.length
          · rw [if_pos ⟨hc.1, hc.2, hw⟩, if_pos ⟨by omega, by rw [List.length_cons]; omega, hw⟩, show k - i = k - (i + 1) + 1 by omega, List.getElem?_cons_succ]
          · rw [if_neg (fun z => hc ⟨z.1, z.2.1⟩), if_neg (fun z => by have := z.1; have := z.2.1; rw [List.length_cons] at this; omega)]
      · rw [if_neg (fun z => hw z.2)]
        unfold wrSec
        rw [if_neg (fun z => hw z.2.2), if_neg (fun z => hw z.2.2)]
theorem wAll_length : ∀ (l : List ByteArray) (secs : List Sec) (i : Nat), (wAll secs i l).length = secs.length
  | [], _, _ => rfl
  | s :: l, secs, i => by rw [wAll, wAll_length l, putSec_length]
theorem tick_up {D : Dev} (h : D.left = -1) : D.tick = D := by
  unfold Dev.tick
  rw [h, if_pos (by omega)]
  cases D
  cases h
  rfl
theorem writeAll_clean : ∀ (l : List ByteArray) (D : Dev) (i : Nat), D.down = false → D.left = -1 → (∀ s ∈ l, s.size = 64) → i + l.length ≤ D.secs.length → writeAll D i l = ({ D with secs := wAll D.secs i l }, 0)
  | [], D, i, _, _, _, _ => rfl
  | s :: l, D, i, hd, hl, hs, hi => by
    rw [List.length_cons] at hi
    have hw : devWrite D i s = ({ D with secs := putSec D.secs i s }, 0) := by
      unfold devWrite
      rw [if_neg (by rw [hd]; simp), if_pos ⟨by omega, hs s List.mem_cons_self⟩, if_neg (by rw [hl]; omega), tick_up hl, Int.toNat_natCast]
    rw [writeAll_cons, hw, if_pos rfl]
    exact writeAll_clean l { D with secs := putSec D.secs i s } (i + 1) hd hl (fun t ht => hs t (List.mem_cons_of_mem _ ht)) (by show _ ≤ (putSec D.secs i s).length; rw [putSec_length]; omega)
theorem toList_inj {a b : ByteArray} (h : a.toList = b.toList) : a = b := by
  rw [toList_eq, toList_eq] at h
  exact ByteArray.ext (Array.toList_inj.1 h)
theorem readAll_clean {D : Dev} (hd : D.down = false) : ∀ (l : List ByteArray) (i : Nat) (b : Bool), i + l.length ≤ D.secs.length → (readAll D i l b).1 = 0 ∧ ((readAll D i l b).2 = false ↔ b = false ∧ ∀ (j : Nat) (s : ByteArray), l[j]? = some s → (texts D)[i + j]? = some s)
  | [], i, b, _ => ⟨rfl, fun h => ⟨h, fun j s hs => by simp at hs⟩, fun h => h.1⟩
  | s :: l, i, b, hi => by
    rw [List.length_cons] at hi
    have hlt : i < D.secs.length := by omega
    obtain ⟨x, hx⟩ : ∃ x, D.secs[i]? = some x := ⟨D.secs[i], List.getElem?_eq_getElem hlt⟩
    have ht : (texts D)[i]? = some (txtOf x) := by unfold texts; rw [List.getElem?_map, hx]; rfl
    rw [readAll_cons, read_up hd hx, if_pos rfl]
    obtain ⟨h1, h2⟩ := readAll_clean hd l (i + 1) (b || ((0 : Int) == 0 && (txtOf x).toList != s.toList)) (by omega)
    refine ⟨h1, h2.trans ⟨?_, ?_⟩⟩
    · rintro ⟨hb, hr⟩
      have hb2 : b = false ∧ txtOf x = s := by
        cases b with
        | true => simp at hb
        | false =>
          refine ⟨rfl, toList_inj ?_⟩
          by_cases hc : (txtOf x).toList = s.toList
          · exact hc
          · exfalso
            have : ((txtOf x).toList != s.toList) = true := by simpa using hc
            rw [this] at hb
            exact absurd hb (by decide)
      obtain ⟨hb1, he⟩ := hb2
      refine ⟨hb1, fun j t hj => ?_⟩
      cases j with
      | zero =>
        obtain rfl : s = t := by simpa using hj
        rw [Nat.add_zero, ht, he]
      | succ j =>
        rw [show i + (j + 1) = i + 1 + j by omega]
        exact hr j t (by simpa using hj)
    · rintro ⟨hb, hr⟩
      have he : txtOf x = s := by
        have := hr 0 s rfl
        rw [Nat.add_zero, ht] at this
        exact Option.some.inj this
      refine ⟨by rw [hb, he]; simp, fun j t hj => ?_⟩
      have := hr (j + 1) t (by simpa using hj)
      rwa [show i + (j + 1) = i + 1 + j by omega] at this
theorem flush_text (s t : ByteArray) (h : s.size = 64) (ht : t.size = 64) : s.extract 0 64 ++ t.extract 64 t.size = s := by
  apply bytesOf_inj
  rw [bytesOf_append, bytesOf_extract, bytesOf_extract, List.drop_zero, ht, List.take_of_length_le (by rw [bytesOf_length]; omega), List.drop_eq_nil_of_le (by rw [List.length_take]; omega), List.append_nil]
/-- What put leaves of a clean device. -/
structure PutOut (D : Dev) (i : Nat) (l : List ByteArray) (D' : Dev) (r : Int) : Prop where
  clean : Clean D'
  len : D'.secs.length = D.secs.length
  sec : ∀ (k : Nat) (x : Sec), D.secs[k]? = some x → ∃ x', D'.secs[k]? = some x' ∧ x'.worn = x.worn ∧ x'.now = if i ≤ k ∧ k < i + l.length ∧ x.worn = false then (l[k - i]?).getD ⟨#[]⟩ else x.now
  res : r = 0 ∨ r = 23
  good : r = 0 ↔ ∀ (j : Nat) (s : ByteArray), l[j]? = some s → (texts D')[i + j]? = some s
theorem put_clean {D : Dev} (h : Clean D) (i : Nat) (l : List ByteArray) (hl : ∀ s ∈ l, s.size = 64) (hi : i + l.length ≤ D.secs.length) : ∃ D' r, putDev D i l = (D', r, false) ∧ PutOut D i l D' r := by
  have hw := writeAll_clean l D i h.up h.left hl hi
  obtain ⟨D', hD'⟩ : ∃ D', ({ D with secs := (wAll D.secs i l).map flush1 } : Dev) = D' := ⟨_, rfl⟩
  have hf : devFlush { D with secs := wAll D.secs i l } = (D', 0) := by
    unfold devFlush
    rw [if_neg (by show ¬ D.down = true; rw [h.up]; simp), if_neg (by show ¬ D.left = 0; rw [h.left]; omega), tick_up (D := { D with secs := wAll D.secs i l }) h.left, ← hD']
  have hup : D'.down = false := by rw [← hD']; exact h.up
  have hlen : D'.secs.length = D.secs.length := by rw [← hD']; show ((wAll D.secs i l).map flush1).length = _; rw [List.length_map, wAll_length]
  have hget : ∀ k, D'.secs[k]? = (D.secs[k]?).map (fun x => flush1 (wrSec i l k x)) := fun k => by
    rw [← hD']
    show ((wAll D.secs i l).map flush1)[k]? = _
    rw [List.getElem?_map, wAll_get, Option.map_map]
    rfl
  have hmem : ∀ k, i ≤ k → k < i + l.length → ((l[k - i]?).getD ⟨#[]⟩).size = 64 := fun k h1 h2 => by
    have hk : k - i < l.length := by omega
    rw [List.getElem?_eq_getElem hk]
    exact hl _ (List.getElem_mem hk)
  have hsec : ∀ (k : Nat) (x : Sec), D.secs[k]? = some x → ∃ x', D'.secs[k]? = some x' ∧ x'.worn = x.worn ∧ (x'.now = if i ≤ k ∧ k < i + l.length ∧ x.worn = false then (l[k - i]?).getD ⟨#[]⟩ else x.now) ∧ x'.dirty = false ∧ x'.before.size = 64 ∧ x'.fresh.size ≤ 64 := by
    intro k x hx
    obtain ⟨h1, h2, h3, h4⟩ := h.secs k x hx
    refine ⟨flush1 (wrSec i l k x), by rw [hget, hx]; rfl, ?_⟩
    unfold wrSec
    by_cases hc : i ≤ k ∧ k < i + l.length ∧ x.worn = false
    · rw [if_pos hc, if_pos hc]
      unfold flush1
      rw [if_pos (by rfl)]
      unfold Sec.settle
      rw [if_neg (by omega)]
      refine ⟨rfl, flush_text _ _ (hmem k hc.1 hc.2.1) h2, rfl, h2, Nat.zero_le _⟩
    · rw [if_neg hc, if_neg hc]
      unfold flush1
      rw [if_neg (by rw [h1]; simp)]
      exact ⟨rfl, rfl, h1, h3, h4⟩
  have hclean : Clean D' := by
    refine ⟨hup, by rw [← hD']; exact h.left, fun k x' hx' => ?_⟩
    have hk : k < D.secs.length := by rw [← hlen]; exact (List.getElem?_eq_some_iff.1 hx').1
    obtain ⟨y, hy, -, h2, h3, h4, h5⟩ := hsec k D.secs[k] (List.getElem?_eq_getElem hk)
    rw [hx'] at hy
    obtain rfl := Option.some.inj hy
    refine ⟨h3, ?_, h4, h5⟩
    rw [h2]
    split
    · rename_i hc
      exact hmem k hc.1 hc.2.1
    · exact (h.secs k _ (List.getElem?_eq_getElem hk)).2.1
  obtain ⟨hr1, hr2⟩ := readAll_clean hup l i false (by rw [hlen]; exact hi)
  have hput : putDev D i l = (D', if (readAll D' i l false).2 then 23 else 0, false) := by
    unfold putDev
    simp only [hw, hf]
    rw [if_neg (by simp), if_neg (by simp), if_neg (by simp [hr1])]
    split <;> rfl
  refine ⟨D', _, hput, hclean, hlen, fun k x hx => ?_, ?_, ?_⟩
  · obtain ⟨x', a, b, c, -⟩ := hsec k x hx
    exact ⟨x', a, b, c⟩
  · split
    · exact .inr rfl
    · exact .inl rfl
  · cases hb : (readAll D' i l false).2 with
    | true =>
      rw [if_pos rfl]
      refine ⟨fun z => by omega, fun z => ?_⟩
      have := hr2.2 ⟨rfl, z⟩
      rw [hb] at this
      cases this
    | false =>
      rw [if_neg (by simp)]
      exact ⟨fun _ => (hr2.1 hb).2, fun _ => rfl⟩
end Go.Proofs.YtcdgbdojopfkgaaDoor.P

/- Plain Lean: which records a journal's sectors hold, and that every call keeps it so. -/
namespace Go.Proofs.YtcdgbdojopfkgaaDoor.P
open Go.RowKit Go.Proofs.YtcdgbdojopfkgaaDoorW.PrintWords Go.Proofs.YtcdgbdojopfkgaaDoorW.PrintMore

def zero64 : ByteArray := same_ 0 64
structure SecFit (n : Int) (t : ByteArray) (i : Nat) : Prop where
  n1 : 1 ≤ n
  n2 : n ≤ 4611686018427387904
  size : t.size ≤ 8000
  i : i < cnt t.size
/-- A sector of record n: its part i, of m bytes in all. -/
def IsSec (s : ByteArray) (n : Int) (i m : Nat) : Prop := ∃ t : ByteArray, t.size = m ∧ SecFit n t i ∧ s = secOf n t i
theorem IsSec.opens {s : ByteArray} {n : Int} {i m : Nat} (h : IsSec s n i m) : (openS s).2.2.2.2 = 0 ∧ (openS s).1 = n ∧ (openS s).2.1 = (i : Int) ∧ (openS s).2.2.1 = ((m - i * 44 : Nat) : Int) := by
  obtain ⟨t, rfl, hf, rfl⟩ := h
  rw [secOf_opens n t i hf.n1 hf.n2 hf.size hf.i]
  exact ⟨rfl, rfl, rfl, rfl⟩
theorem IsSec.le {s : ByteArray} {n : Int} {i m : Nat} (h : IsSec s n i m) : i * 44 ≤ m ∧ i < cnt m ∧ m ≤ 8000 ∧ 1 ≤ n ∧ n ≤ 4611686018427387904 := by
  obtain ⟨t, rfl, hf, rfl⟩ := h
  have := cnt_lt hf.i
  exact ⟨by omega, hf.i, hf.size, hf.n1, hf.n2⟩
theorem IsSec.inj {s : ByteArray} {n n' : Int} {i i' m m' : Nat} (h : IsSec s n i m) (h' : IsSec s n' i' m') : n = n' ∧ i = i' ∧ m = m' := by
  obtain ⟨-, a1, a2, a3⟩ := h.opens
  obtain ⟨-, b1, b2, b3⟩ := h'.opens
  have c1 := h.le
  have c2 := h'.le
  rw [a1] at b1
  rw [a2] at b2
  rw [a3] at b3
  have hi : i = i' := by omega
  subst hi
  exact ⟨b1, rfl, by omega⟩
theorem zero_bad : (openS zero64).2.2.2.2 ≠ 0 := by
  intro h
  obtain ⟨-, h2, -⟩ := openS_ok h
  have h3 := h2.2.1
  have : numOf zero64 = 0 := by decide +kernel
  omega
theorem zero_not {n : Int} {i m : Nat} (h : IsSec zero64 n i m) : False := zero_bad h.opens.1
/-- Record n, of m bytes, lies whole at p. -/
def Whole (T : List ByteArray) (n : Int) (p m : Nat) : Prop := m ≤ 8000 ∧ ∀ j, j < cnt m → ∃ s, T[p + j]? = some s ∧ IsSec s n j m
def Full (T : List ByteArray) (n : Int) (p : Nat) (t : ByteArray) : Prop := 1 ≤ n ∧ n ≤ 4611686018427387904 ∧ t.size ≤ 8000 ∧ ∀ j, j < cnt t.size → T[p + j]? = some (secOf n t j)
theorem Full.frame {T T' : List ByteArray} {n : Int} {p : Nat} {t : ByteArray} (h : Full T n p t) (hT : ∀ k, p ≤ k → k < p + cnt t.size → T'[k]? = T[k]?) : Full T' n p t :=
  ⟨h.1, h.2.1, h.2.2.1, fun j hj => (hT (p + j) (by omega) (by omega)).trans (h.2.2.2 j hj)⟩
/-- The records l lie one behind the other from p to q, and their numbers increase. -/
def Laid (T : List ByteArray) : Nat → Nat → Int → List (Int × ByteArray) → Prop
  | p, q, _, [] => p = q
  | p, q, last, e :: l => last < e.1 ∧ Full T e.1 p e.2 ∧ Laid T (p + cnt e.2.size) q e.1 l
def lastOf (last : Int) : List (Int × ByteArray) → Int
  | [] => last
  | e :: l => lastOf e.1 l
theorem Laid.len {T : List ByteArray} : ∀ {l : List (Int × ByteArray)} {p q : Nat} {last : Int}, Laid T p q last l → p + l.length ≤ q
  | [], p, q, last, h => by
    replace h : p = q := h
    rw [List.length_nil]
    omega
  | e :: l, p, q, last, h => by
    have := Laid.len h.2.2
    have := cnt_pos e.2.size
    rw [List.length_cons]
    omega
theorem Laid.frame {T T' : List ByteArray} : ∀ {l : List (Int × ByteArray)} {p q : Nat} {last : Int}, Laid T p q last l → (∀ k, p ≤ k → k < q → T'[k]? = T[k]?) → Laid T' p q last l
  | [], p, q, last, h, _ => h
  | e :: l, p, q, last, h, hT => by
    have := Laid.len h.2.2
    exact ⟨h.1, h.2.1.frame (fun k h1 h2 => hT k h1 (by omega)), h.2.2.frame (fun k h1 h2 => hT k (by omega) h2)⟩
theorem Laid.snoc {T : List ByteArray} {n : Int} {t : ByteArray} : ∀ {l : List (Int × ByteArray)} {p q : Nat} {last : Int}, Laid T p q last l → lastOf last l < n → Full T n q t → Laid T p (q + cnt t.size) last (l ++ [(n, t)])
  | [], p, q, last, h, hn, hf => by
    replace h : p = q := h
    subst h
    exact ⟨hn, hf, rfl⟩
  | e :: l, p, q, last, h, hn, hf => ⟨h.1, h.2.1, h.2.2.snoc hn hf⟩
theorem lastOf_snoc (e : Int × ByteArray) : ∀ (l : List (Int × ByteArray)) (last : Int), lastOf last (l ++ [e]) = e.1
  | [], _ => rfl
  | x :: l, _ => lastOf_snoc e l x.1
theorem lastOf_lt {N : Int} : ∀ (l : List (Int × ByteArray)) (last : Int), last < N → (∀ e ∈ l, e.1 < N) → lastOf last l < N
  | [], _, h, _ => h
  | e :: l, _, _, h => lastOf_lt l e.1 (h e List.mem_cons_self) (fun x hx => h x (List.mem_cons_of_mem _ hx))
theorem banks {b half : Nat} (h : b ≤ 1) : (b * half = 0 ∧ (1 - b) * half = half ∧ b = 0) ∨ (b * half = half ∧ (1 - b) * half = 0 ∧ b = 1) := by
  have : b = 0 ∨ b = 1 := by omega
  rcases this with rfl | rfl
  · exact .inl ⟨Nat.zero_mul _, Nat.one_mul _, rfl⟩
  · exact .inr ⟨Nat.one_mul _, Nat.zero_mul _, rfl⟩
def FirstBefore (n : Int) : List (Int × ByteArray) → Prop
  | [] => False
  | e :: _ => n < e.1
def SecsSay (T : List ByteArray) (lim : Nat) (N : Int) : Prop := ∀ k s, k < lim → T[k]? = some s → s = zero64 ∨ ∃ n i m, IsSec s n i m ∧ n < N
/-- What holds of a journal and its device between two calls. -/
structure Inv (J : Jour) (D : Dev) : Prop where
  clean : Clean D
  half : J.half = D.secs.length / 2
  half1 : 1 ≤ J.half
  half2 : J.half ≤ 2048
  bank : J.bank ≤ 1
  used : J.used ≤ J.half
  next1 : 1 ≤ J.next
  closed : J.closed = false
  sec : SecsSay (texts D) (2 * J.half) J.next
  laid : Laid (texts D) (J.bank * J.half) (J.bank * J.half + J.used) 0 J.l
  nums : ∀ e ∈ J.l, e.1 < J.next
  stop : ∀ n m, Whole (texts D) n (J.bank * J.half + J.used) m → J.used + cnt m ≤ J.half → n ≤ lastOf 0 J.l
  other : ∀ n m, Whole (texts D) n ((1 - J.bank) * J.half) m → cnt m ≤ J.half → FirstBefore n J.l
  empty : J.l = [] → J.bank = 0
theorem Inv.fit {J : Jour} {D : Dev} (h : Inv J D) (hn : J.next ≤ 4611686018427387904) : JourFit J :=
  ⟨h.bank, h.half2, h.used, h.next1, hn, by have := h.laid.len; have := h.used; have := h.half2; omega⟩
theorem Inv.len {J : Jour} {D : Dev} (h : Inv J D) : J.l.length ≤ J.used := by have := h.laid.len; omega
def SameWorn (D D' : Dev) : Prop := ∀ (k : Nat) (x : Sec), D.secs[k]? = some x → ∃ x' : Sec, D'.secs[k]? = some x' ∧ x'.worn = x.worn
def Unworn (D : Dev) (p q : Nat) : Prop := ∀ (k : Nat) (x : Sec), p ≤ k → k < q → D.secs[k]? = some x → x.worn = false
/-- What a put does to the sectors. -/
structure PutStep (D : Dev) (N : Int) (half p : Nat) (text : ByteArray) (D' : Dev) (r : Int) : Prop where
  clean : Clean D'
  len : D'.secs.length = D.secs.length
  res : r = 0 ∨ r = 23
  sec : SecsSay (texts D') (2 * half) (N + 1)
  far : ∀ k, k < p ∨ p + cnt text.size ≤ k → (texts D')[k]? = (texts D)[k]?
  good : r = 0 → Full (texts D') N p text
  whole : ∀ n q m, q + cnt m ≤ 2 * half → Whole (texts D') n q m → (Whole (texts D) n q m ∧ n < N) ∨ (n = N ∧ q = p ∧ r = 0)
  worn : SameWorn D D'
  fine : Unworn D p (p + cnt text.size) → r = 0
theorem packOf_get (n : Int) (t : ByteArray) (j : Nat) : (packOf n t)[j]? = if j < cnt t.size then some (secOf n t j) else none := by
  unfold packOf
  rw [List.getElem?_map]
  split
  · rename_i h
    rw [List.getElem?_range h]
    rfl
  · rename_i h
    rw [List.getElem?_eq_none (by rw [List.length_range]; omega)]
    rfl
theorem packOf_length (n : Int) (t : ByteArray) : (packOf n t).length = cnt t.size := by unfold packOf; rw [List.length_map, List.length_range]
theorem put_step {D : Dev} {N : Int} {half p : Nat} {text : ByteArray} (hc : Clean D) (hs : SecsSay (texts D) (2 * half) N) (hN1 : 1 ≤ N) (hN : N ≤ 4611686018427387904) (ht : text.size ≤ 8000) (hp : p + cnt text.size ≤ 2 * half) (hd : 2 * half ≤ D.secs.length) :
    ∃ D' r, putDev D p (packOf N text) = (D', r, false) ∧ PutStep D N half p text D' r := by
  obtain ⟨D', r, hput, hO⟩ := put_clean hc p (packOf N text) (fun s hs => by
    unfold packOf at hs
    obtain ⟨j, -, rfl⟩ := List.mem_map.1 hs
    exact secOf_size _ _ _) (by rw [packOf_length]; omega)
  have hlen := packOf_length N text
  -- each sector of D': as before, or written
  have key : ∀ k, k < 2 * half → ∃ x, D.secs[k]? = some x ∧ (texts D)[k]? = some x.now ∧ ((¬ (p ≤ k ∧ k < p + cnt text.size ∧ x.worn = false) ∧ (texts D')[k]? = some x.now) ∨ ((p ≤ k ∧ k < p + cnt text.size ∧ x.worn = false) ∧ (texts D')[k]? = some (secOf N text (k - p)))) := by
    intro k hk
    have hx : D.secs[k]? = some D.secs[k] := List.getElem?_eq_getElem (by omega)
    obtain ⟨x', hx', -, hnow⟩ := hO.sec k _ hx
    refine ⟨_, hx, hc.text hx, ?_⟩
    rw [hlen] at hnow
    rw [hO.clean.text hx', hnow]
    by_cases hcc : p ≤ k ∧ k < p + cnt text.size ∧ D.secs[k].worn = false
    · rw [if_pos hcc, packOf_get, if_pos (by omega)]
      exact .inr ⟨hcc, rfl⟩
    · rw [if_neg hcc]
      exact .inl ⟨hcc, rfl⟩
  have hfit : ∀ j, j < cnt text.size → IsSec (secOf N text j) N j text.size := fun j hj => ⟨text, rfl, ⟨hN1, hN, ht, hj⟩, rfl⟩
  refine ⟨D', r, hput, hO.clean, hO.len, hO.res, ?_, ?_, ?_, ?_, ?_, ?_⟩
  · intro k s hk hks
    obtain ⟨x, hx, hT, ⟨-, hT'⟩ | ⟨hr, hT'⟩⟩ := key k hk
    · rw [hks] at hT'
      obtain rfl := Option.some.inj hT'
      rcases hs k _ hk hT with h | ⟨n, i, m, h1, h2⟩
      · exact .inl h
      · exact .inr ⟨n, i, m, h1, by omega⟩
    · rw [hks] at hT'
      obtain rfl := Option.some.inj hT'
      exact .inr ⟨N, k - p, text.size, hfit _ (by omega), by omega⟩
  · intro k hk
    by_cases hlt : k < D.secs.length
    · have hx : D.secs[k]? = some D.secs[k] := List.getElem?_eq_getElem hlt
      obtain ⟨x', hx', -, hnow⟩ := hO.sec k _ hx
      rw [hlen, if_neg (by omega)] at hnow
      rw [hO.clean.text hx', hnow, hc.text hx]
    · rw [List.getElem?_eq_none (by rw [texts_length, hO.len]; omega), List.getElem?_eq_none (by rw [texts_length]; omega)]
  · intro hr
    exact ⟨hN1, hN, ht, fun j hj => hO.good.1 hr j _ (by rw [packOf_get, if_pos hj])⟩
  · intro n q m hq hW
    by_cases hany : ∃ j, j < cnt m ∧ p ≤ q + j ∧ q + j < p + cnt text.size ∧ (texts D')[q + j]? = some (secOf N text (q + j - p))
    · obtain ⟨j, hj, h1, h2, h3⟩ := hany
      obtain ⟨s, hs1, hs2⟩ := hW.2 j hj
      rw [h3] at hs1
      obtain rfl := Option.some.inj hs1
      obtain ⟨e1, e2, e3⟩ := hs2.inj (hfit (q + j - p) (by omega))
      have hqp : q = p := by omega
      subst e1 hqp e3
      refine .inr ⟨rfl, rfl, hO.good.2 (fun j' s' hj' => ?_)⟩
      rw [packOf_get] at hj'
      split at hj'
      · rename_i hlt
        obtain rfl := Option.some.inj hj'
        obtain ⟨s2, hs3, hs4⟩ := hW.2 j' hlt
        obtain ⟨x, hx, hT, ⟨-, hT'⟩ | ⟨hr, hT'⟩⟩ := key (q + j') (by omega)
        · exfalso
          rw [hs3] at hT'
          obtain rfl := Option.some.inj hT'
          rcases hs (q + j') _ (by omega) hT with h | ⟨n2, i2, m2, h5, h6⟩
          · rw [h] at hs4
            exact zero_not hs4
          · have := (hs4.inj h5).1
            omega
        · rw [hT', show q + j' - q = j' by omega]
      · cases hj'
    · have hsame : ∀ j, j < cnt m → (texts D)[q + j]? = (texts D')[q + j]? := by
        intro j hj
        obtain ⟨x, hx, hT, ⟨-, hT'⟩ | ⟨hr, hT'⟩⟩ := key (q + j) (by omega)
        · rw [hT, hT']
        · exact absurd ⟨j, hj, hr.1, hr.2.1, hT'⟩ hany
      have hW2 : Whole (texts D) n q m := ⟨hW.1, fun j hj => by rw [hsame j hj]; exact hW.2 j hj⟩
      have hc0 := cnt_pos m
      obtain ⟨s, hs1, hs2⟩ := hW2.2 0 (by omega)
      refine .inl ⟨hW2, ?_⟩
      rcases hs (q + 0) s (by omega) hs1 with h | ⟨n2, i2, m2, h5, h6⟩
      · rw [h] at hs2
        exact (zero_not hs2).elim
      · rw [(hs2.inj h5).1]
        exact h6
  · intro k x hx
    obtain ⟨x', hx', hw, -⟩ := hO.sec k x hx
    exact ⟨x', hx', hw⟩
  · intro hu
    refine hO.good.2 (fun j s hj => ?_)
    rw [packOf_get] at hj
    split at hj
    · rename_i hlt
      obtain rfl := Option.some.inj hj
      obtain ⟨x, hx, hT, ⟨hr, hT'⟩ | ⟨hr, hT'⟩⟩ := key (p + j) (by omega)
      · exact absurd ⟨by omega, by omega, hu (p + j) x (by omega) (by omega) hx⟩ hr
      · rw [hT', show p + j - p = j by omega]
    · cases hj
theorem appOf_spoiled {J : Jour} {D : Dev} {rec : ByteArray} (h : J.spoiled = true) : appOf J D rec = (J, D, 0, 23) := by unfold appOf; rw [if_pos h]
theorem appOf_full {J : Jour} {D : Dev} {rec : ByteArray} (h : J.spoiled = false) (hf : J.half < J.used + cnt rec.size) : appOf J D rec = (J, D, 0, 15) := by unfold appOf; rw [if_neg (by rw [h]; simp), if_pos hf]
theorem Inv.lenD {J : Jour} {D : Dev} (h : Inv J D) : 2 * J.half ≤ D.secs.length := by have := h.half; omega
theorem FirstBefore.snoc {n : Int} {l : List (Int × ByteArray)} {e : Int × ByteArray} (h : FirstBefore n l) : FirstBefore n (l ++ [e]) := by
  cases l with
  | nil => exact h.elim
  | cons x l => exact h
/-- Append where there is room: the journal and the device that are left. -/
theorem app_inv {J : Jour} {D : Dev} (h : Inv J D) (hn : J.next ≤ 4611686018427387904) (rec : ByteArray) (ht : rec.size ≤ 8000) (hsp : J.spoiled = false) (hf : J.used + cnt rec.size ≤ J.half) :
    ∃ (J' : Jour) (D' : Dev) (r : Int), Inv J' D' ∧ SameWorn D D' ∧ J'.half = J.half ∧ J'.bank = J.bank ∧ J'.next = J.next + 1 ∧ (Unworn D (J.bank * J.half) (J.bank * J.half + J.half) → r = 0) ∧
      ((r = 0 ∧ appOf J D rec = (J', D', J.next, 0) ∧ J'.l = J.l ++ [(J.next, rec)] ∧ J'.used = J.used + cnt rec.size ∧ J'.spoiled = false) ∨
       (r = 23 ∧ appOf J D rec = (J', D', 0, 23) ∧ J'.l = J.l ∧ J'.used = J.used ∧ J'.spoiled = true)) := by
  obtain ⟨hb, hh1, hh2⟩ : J.bank ≤ 1 ∧ 1 ≤ J.half ∧ J.used ≤ J.half := ⟨h.bank, h.half1, h.used⟩
  have hbk := banks (half := J.half) hb
  obtain ⟨b0, hb0⟩ : ∃ b0, J.bank * J.half = b0 := ⟨_, rfl⟩
  obtain ⟨o0, ho0⟩ : ∃ o0, (1 - J.bank) * J.half = o0 := ⟨_, rfl⟩
  rw [hb0, ho0] at hbk
  have hcp := cnt_pos rec.size
  obtain ⟨D', r, hput, hP⟩ := put_step (p := b0 + J.used) h.clean h.sec h.next1 hn ht (by omega) h.lenD
  rw [← hb0] at hput
  have hA := appOf_eq hsp (by omega) hput
  have hlaid := h.laid
  have hother := h.other
  have hstop := h.stop
  rw [hb0] at hlaid hstop
  rw [ho0] at hother
  have hlaid2 : Laid (texts D') b0 (b0 + J.used) 0 J.l := hlaid.frame (fun k h1 h2 => hP.far k (.inl h2))
  have hlt : lastOf 0 J.l < J.next := lastOf_lt _ _ (by have := h.next1; omega) h.nums
  have hfine : Unworn D b0 (b0 + J.half) → r = 0 := fun hu => hP.fine (fun k x h1 h2 hx => hu k x (by omega) (by omega) hx)
  rw [hb0]
  rcases hP.res with hr | hr
  · rw [if_pos hr] at hA
    refine ⟨_, D', r, ?_, hP.worn, ?_, ?_, ?_, hfine, .inl ⟨hr, hA, rfl, rfl, hsp⟩⟩
    · refine ⟨hP.clean, by rw [hP.len]; exact h.half, hh1, h.half2, hb, hf, by show 1 ≤ J.next + 1; have := h.next1; omega, by show (J.closed || false) = false; rw [h.closed]; rfl, hP.sec, ?_, ?_, ?_, ?_, ?_⟩
      · show Laid (texts D') (J.bank * J.half) (J.bank * J.half + (J.used + cnt rec.size)) 0 (J.l ++ [(J.next, rec)])
        rw [hb0, ← Nat.add_assoc]
        exact hlaid2.snoc hlt (hP.good hr)
      · intro e he
        rcases List.mem_append.1 he with he | he
        · have := h.nums e he
          show e.1 < J.next + 1
          omega
        · obtain rfl := List.mem_singleton.1 he
          show J.next < J.next + 1
          omega
      · intro n m hW hm
        show n ≤ lastOf 0 (J.l ++ [(J.next, rec)])
        rw [lastOf_snoc]
        show n ≤ J.next
        rcases hP.whole n _ m (by show J.bank * J.half + (J.used + cnt rec.size) + cnt m ≤ _; replace hm : J.used + cnt rec.size + cnt m ≤ J.half := hm; omega) hW with ⟨_, h2⟩ | ⟨h2, _⟩ <;> omega
      · intro n m hW hm
        show FirstBefore n (J.l ++ [(J.next, rec)])
        replace hW : Whole (texts D') n ((1 - J.bank) * J.half) m := hW
        replace hm : cnt m ≤ J.half := hm
        rw [ho0] at hW
        rcases hP.whole n _ m (by omega) hW with ⟨h1, _⟩ | ⟨_, h3, _⟩
        · exact (hother n m h1 hm).snoc
        · exfalso
          omega
      · intro he
        simp at he
    · rfl
    · rfl
    · rfl
  · rw [if_neg (by omega), hr] at hA
    refine ⟨_, D', r, ?_, hP.worn, ?_, ?_, ?_, hfine, .inr ⟨hr, hA, rfl, rfl, rfl⟩⟩
    · refine ⟨hP.clean, by rw [hP.len]; exact h.half, hh1, h.half2, hb, hh2, by show 1 ≤ J.next + 1; have := h.next1; omega, by show (J.closed || false) = false; rw [h.closed]; rfl, hP.sec, ?_, ?_, ?_, ?_, h.empty⟩
      · show Laid (texts D') (J.bank * J.half) (J.bank * J.half + J.used) 0 J.l
        rw [hb0]
        exact hlaid2
      · intro e he
        have := h.nums e he
        show e.1 < J.next + 1
        omega
      · intro n m hW hm
        replace hW : Whole (texts D') n (J.bank * J.half + J.used) m := hW
        replace hm : J.used + cnt m ≤ J.half := hm
        rw [hb0] at hW
        rcases hP.whole n _ m (by omega) hW with ⟨h1, _⟩ | ⟨_, _, h3⟩
        · exact hstop n m h1 hm
        · omega
      · intro n m hW hm
        replace hW : Whole (texts D') n ((1 - J.bank) * J.half) m := hW
        replace hm : cnt m ≤ J.half := hm
        rw [ho0] at hW
        rcases hP.whole n _ m (by omega) hW with ⟨h1, _⟩ | ⟨_, _, h3⟩
        · exact hother n m h1 hm
        · omega
    · rfl
    · rfl
    · rfl
theorem compOf_full {J : Jour} {D : Dev} {img : ByteArray} (hf : J.half < cnt img.size) : compOf J D img = (J, D, 0, 15) := by unfold compOf; rw [if_pos hf]
/-- Compact where the image fits. -/
theorem comp_inv {J : Jour} {D : Dev} (h : Inv J D) (hn : J.next ≤ 4611686018427387904) (img : ByteArray) (ht : img.size ≤ 8000) (hf : cnt img.size ≤ J.half) :
    ∃ (J' : Jour) (D' : Dev) (r : Int), Inv J' D' ∧ SameWorn D D' ∧ J'.half = J.half ∧ J'.next = J.next + 1 ∧ (Unworn D ((1 - J.bank) * J.half) ((1 - J.bank) * J.half + J.half) → r = 0) ∧
      ((r = 0 ∧ compOf J D img = (J', D', J.next, 0) ∧ J'.l = [(J.next, img)] ∧ J'.used = cnt img.size ∧ J'.spoiled = false ∧ J'.bank = 1 - J.bank) ∨
       (r = 23 ∧ compOf J D img = (J', D', 0, 23) ∧ J'.l = J.l ∧ J'.used = J.used ∧ J'.spoiled = J.spoiled ∧ J'.bank = J.bank)) := by
  obtain ⟨hb, hh1, hh2⟩ : J.bank ≤ 1 ∧ 1 ≤ J.half ∧ J.used ≤ J.half := ⟨h.bank, h.half1, h.used⟩
  have hbk := banks (half := J.half) hb
  obtain ⟨b0, hb0⟩ : ∃ b0, J.bank * J.half = b0 := ⟨_, rfl⟩
  obtain ⟨o0, ho0⟩ : ∃ o0, (1 - J.bank) * J.half = o0 := ⟨_, rfl⟩
  rw [hb0, ho0] at hbk
  have hcp := cnt_pos img.size
  obtain ⟨D', r, hput, hP⟩ := put_step (p := o0) h.clean h.sec h.next1 hn ht (by omega) h.lenD
  rw [← ho0] at hput
  have hA := compOf_eq (by omega) hput
  have hlaid := h.laid
  have hother := h.other
  have hstop := h.stop
  rw [hb0] at hlaid hstop
  rw [ho0] at hother
  have hfine : Unworn D o0 (o0 + J.half) → r = 0 := fun hu => hP.fine (fun k x h1 h2 hx => hu k x (by omega) (by omega) hx)
  rw [ho0]
  rcases hP.res with hr | hr
  · rw [if_pos hr] at hA
    refine ⟨_, D', r, ?_, hP.worn, ?_, ?_, hfine, .inl ⟨hr, hA, rfl, rfl, rfl, rfl⟩⟩
    · refine ⟨hP.clean, by rw [hP.len]; exact h.half, hh1, h.half2, by show 1 - J.bank ≤ 1; omega, hf, by show 1 ≤ J.next + 1; have := h.next1; omega, by show (J.closed || false) = false; rw [h.closed]; rfl, hP.sec, ?_, ?_, ?_, ?_, ?_⟩
      · show Laid (texts D') ((1 - J.bank) * J.half) ((1 - J.bank) * J.half + cnt img.size) 0 [(J.next, img)]
        rw [ho0]
        exact ⟨by have := h.next1; show 0 < J.next; omega, hP.good hr, rfl⟩
      · intro e he
        obtain rfl := List.mem_singleton.1 he
        show J.next < J.next + 1
        omega
      · intro n m hW hm
        show n ≤ J.next
        rcases hP.whole n _ m (by show (1 - J.bank) * J.half + cnt img.size + cnt m ≤ _; replace hm : cnt img.size + cnt m ≤ J.half := hm; omega) hW with ⟨_, h2⟩ | ⟨h2, _⟩ <;> omega
      · intro n m hW hm
        show n < J.next
        replace hW : Whole (texts D') n ((1 - (1 - J.bank)) * J.half) m := hW
        replace hm : cnt m ≤ J.half := hm
        rw [show 1 - (1 - J.bank) = J.bank by omega, hb0] at hW
        rcases hP.whole n _ m (by omega) hW with ⟨_, h1⟩ | ⟨_, h3, _⟩
        · exact h1
        · exfalso
          omega
      · intro he
        simp at he
    · rfl
    · rfl
  · rw [if_neg (by omega), hr] at hA
    refine ⟨_, D', r, ?_, hP.worn, ?_, ?_, hfine, .inr ⟨hr, hA, rfl, rfl, rfl, rfl⟩⟩
    · refine ⟨hP.clean, by rw [hP.len]; exact h.half, hh1, h.half2, hb, hh2, by show 1 ≤ J.next + 1; have := h.next1; omega, by show (J.closed || false) = false; rw [h.closed]; rfl, hP.sec, ?_, ?_, ?_, ?_, h.empty⟩
      · show Laid (texts D') (J.bank * J.half) (J.bank * J.half + J.used) 0 J.l
        rw [hb0]
        exact hlaid.frame (fun k h1 h2 => hP.far k (by omega))
      · intro e he
        have := h.nums e he
        show e.1 < J.next + 1
        omega
      · intro n m hW hm
        replace hW : Whole (texts D') n (J.bank * J.half + J.used) m := hW
        replace hm : J.used + cnt m ≤ J.half := hm
        rw [hb0] at hW
        rcases hP.whole n _ m (by omega) hW with ⟨h1, _⟩ | ⟨_, _, h3⟩
        · exact hstop n m h1 hm
        · omega
      · intro n m hW hm
        replace hW : Whole (texts D') n ((1 - J.bank) * J.half) m := hW
        replace hm : cnt m ≤ J.half := hm
        rw [ho0] at hW
        rcases hP.whole n _ m (by omega) hW with ⟨h1, _⟩ | ⟨_, _, h3⟩
        · exact hother n m h1 hm
        · omega
    · rfl
    · rfl
end Go.Proofs.YtcdgbdojopfkgaaDoor.P

/- Plain Lean: Open finds what the sectors hold; a new device; a worn sector. -/
namespace Go.Proofs.YtcdgbdojopfkgaaDoor.P
open Go.RowKit Go.Proofs.YtcdgbdojopfkgaaDoorW.PrintWords Go.Proofs.YtcdgbdojopfkgaaDoorW.PrintMore

theorem goS_ok (num left n : Int) : ∀ (l : List ByteArray) (i : Nat) (acc : ByteArray), (goS num left n l i acc).2.2.2 = 0 → (goS num left n l i acc).1 = num ∧ ∀ (j : Nat) (s : ByteArray), l[j]? = some s → (openS s).2.2.2.2 = 0 ∧ (openS s).1 = num ∧ (openS s).2.1 = ((i + j : Nat) : Int) ∧ (openS s).2.2.1 = wrap64 (left - ((i + j : Nat) : Int) * 44)
  | [], i, acc, _ => ⟨rfl, fun j s hs => by simp at hs⟩
  | s :: ss, i, acc, h => by
    rw [goS] at h ⊢
    split at h
    · rename_i hc
      rw [if_pos hc]
      obtain ⟨h1, h2⟩ := goS_ok num left n ss (i + 1) _ h
      refine ⟨h1, fun j t hj => ?_⟩
      cases j with
      | zero =>
        obtain rfl : s = t := by simpa using hj
        exact hc
      | succ j =>
        rw [show i + (j + 1) = i + 1 + j by omega]
        exact h2 j t (by simpa using hj)
    · exact absurd h (by show ¬ (7 : Int) = 0; omega)
/-- Where Join finds a record, its sectors lie there. -/
theorem joinS_ok {l : List ByteArray} {N : Int} (hl : ∀ (k : Nat) (s : ByteArray), l[k]? = some s → s = zero64 ∨ ∃ n i m, IsSec s n i m ∧ n < N) (h : (joinS l).2.2.2 = 0) :
    ∃ m, m ≤ 8000 ∧ cnt m ≤ l.length ∧ ∀ j, j < cnt m → ∃ s, l[j]? = some s ∧ IsSec s (joinS l).1 j m := by
  unfold joinS at h ⊢
  split at h
  · exact absurd h (by show ¬ (11 : Int) = 0; omega)
  rename_i hne
  rw [if_neg hne]
  obtain ⟨s0, hs0⟩ : ∃ s0, l[0]? = some s0 := ⟨l[0], List.getElem?_eq_getElem (by omega)⟩
  have hrd : rdOf ByteArray.empty l 0 = s0 := by
    unfold rdOf
    rw [List.getD_eq_getElem?_getD]
    show (l[0]?).getD _ = _
    rw [hs0]
    rfl
  rw [hrd] at h ⊢
  split at h
  · rename_i h0
    rw [if_pos h0]
    split at h
    · exact absurd h (by show ¬ (7 : Int) = 0; omega)
    · rename_i hc
      rw [if_neg hc]
      obtain ⟨e1, e2⟩ := goS_ok _ _ _ _ _ _ h
      rw [e1]
      rcases hl 0 s0 hs0 with hz | ⟨n0, i0, m0, hS, -⟩
      · rw [hz] at h0
        exact (zero_bad h0.1).elim
      · obtain ⟨o1, o2, o3, o4⟩ := hS.opens
        have hle := hS.le
        have hi0 : i0 = 0 := by have := h0.2; omega
        subst hi0
        rw [Nat.zero_mul, Nat.sub_zero] at o4
        rw [o4, Int.toNat_natCast] at hc e2
        refine ⟨m0, hle.2.2.1, by omega, fun j hj => ?_⟩
        obtain ⟨s, hs⟩ : ∃ s, l[j]? = some s := ⟨l[j], List.getElem?_eq_getElem (by omega)⟩
        refine ⟨s, hs, ?_⟩
        obtain ⟨p1, p2, p3, p4⟩ := e2 j s (by rw [List.getElem?_take, if_pos hj]; exact hs)
        rw [Nat.zero_add] at p3 p4
        have hlj := cnt_lt hj
        rcases hl j s hs with hz | ⟨n1, i1, m1, hS1, -⟩
        · rw [hz] at p1
          exact (zero_bad p1).elim
        · obtain ⟨q1, q2, q3, q4⟩ := hS1.opens
          have hle1 := hS1.le
          have hij : i1 = j := by omega
          have hnn : n1 = (openS s0).1 := by rw [← p2, q2]
          have hmm : m1 = m0 := by
            have : wrap64 ((m0 : Int) - (j : Int) * 44) = (m0 : Int) - (j : Int) * 44 := by unfold wrap64; omega
            rw [this] at p4
            omega
          rw [← hnn, ← hij, ← hmm]
          exact hS1
  · exact absurd h (by show ¬ (11 : Int) = 0; omega)
/-- The sectors of a bank, out of the device's. -/
theorem bank_get {T : List ByteArray} {half b : Nat} (hb : b ≤ 1) (hT : 2 * half ≤ T.length) (k : Nat) (hk : k < half) : (bankOf (T.take (2 * half)) half b)[k]? = T[b * half + k]? := by
  have h1 : b * half ≤ 1 * half := Nat.mul_le_mul hb (Nat.le_refl _)
  have h2 : (b + 1) * half = b * half + half := by rw [Nat.add_mul, Nat.one_mul]
  unfold bankOf
  rw [List.getElem?_drop, List.getElem?_take, if_pos (by omega), List.getElem?_take, if_pos (by omega)]
theorem bank_len {T : List ByteArray} {half b : Nat} (hb : b ≤ 1) (hT : 2 * half ≤ T.length) : (bankOf (T.take (2 * half)) half b).length = half := by
  have h1 : b * half ≤ 1 * half := Nat.mul_le_mul hb (Nat.le_refl _)
  have h2 : (b + 1) * half = b * half + half := by rw [Nat.add_mul, Nat.one_mul]
  unfold bankOf
  rw [List.length_drop, List.length_take, List.length_take]
  omega
section
variable {T : List ByteArray} {half b : Nat} {N : Int}
theorem next_good (hb : b ≤ 1) (hT : 2 * half ≤ T.length) {u : Nat} {last n : Int} {t : ByteArray} (hf : Full T n (b * half + u) t) (hu : u + cnt t.size ≤ half) (hn : last < n) :
    recNext (bankOf (T.take (2 * half)) half b) (u, last) = some (u + cnt t.size, n, t) := by
  have hlen := bank_len (T := T) hb hT
  have hcp := cnt_pos t.size
  have hdrop : (bankOf (T.take (2 * half)) half b).drop u = packed n t ++ (bankOf (T.take (2 * half)) half b).drop (u + cnt t.size) := by
    apply List.ext_getElem?
    intro k
    rw [List.getElem?_drop]
    by_cases hk : k < cnt t.size
    · rw [List.getElem?_append_left (by rw [packed_length]; exact hk), bank_get hb hT _ (by omega), ← Nat.add_assoc, hf.2.2.2 k hk]
      unfold packed
      rw [List.getElem?_map, List.getElem?_range hk]
      rfl
    · rw [List.getElem?_append_right (by rw [packed_length]; omega), packed_length, List.getElem?_drop]
      congr 1
      omega
  have hj : joinC ((bankOf (T.take (2 * half)) half b).drop u) = (n, t, ((cnt t.size : Nat) : Int), 0) := by
    rw [joinC_eq, hdrop, joinS_packed n t hf.1 hf.2.1 hf.2.2.1]
  have := recNext_good (l := bankOf (T.take (2 * half)) half b) (k := u) (z := last) (by omega) hj rfl (by omega) (by omega)
  rw [Int.toNat_natCast] at this
  exact this
theorem next_none (hb : b ≤ 1) (hT : 2 * half ≤ T.length) (hs : SecsSay T (2 * half) N) {u : Nat} {last : Int} (hu : u ≤ half) (hst : ∀ n m, Whole T n (b * half + u) m → u + cnt m ≤ half → n ≤ last) :
    recNext (bankOf (T.take (2 * half)) half b) (u, last) = none := by
  have hlen := bank_len (T := T) hb hT
  have h1 : b * half ≤ 1 * half := Nat.mul_le_mul hb (Nat.le_refl _)
  have hget : ∀ k, u + k < half → ((bankOf (T.take (2 * half)) half b).drop u)[k]? = T[b * half + u + k]? := fun k hk => by
    rw [List.getElem?_drop, bank_get hb hT _ hk, ← Nat.add_assoc]
  have hq := joinC_eq ((bankOf (T.take (2 * half)) half b).drop u)
  by_cases he : (joinS ((bankOf (T.take (2 * half)) half b).drop u)).2.2.2 = 0
  · obtain ⟨m, hm1, hm2, hm3⟩ := joinS_ok (N := N) (fun k s hk => by
      have hlt := (List.getElem?_eq_some_iff.1 hk).1
      rw [List.length_drop, hlen] at hlt
      rw [hget k (by omega)] at hk
      exact hs _ s (by omega) hk) he
    rw [List.length_drop, hlen] at hm2
    have hcp := cnt_pos m
    have := hst _ m ⟨hm1, fun j hj => by
      obtain ⟨s, hs1, hs2⟩ := hm3 j hj
      rw [hget j (by omega)] at hs1
      exact ⟨s, hs1, hs2⟩⟩ (by omega)
    obtain ⟨q1, q2, q3, q4⟩ := joinC ((bankOf (T.take (2 * half)) half b).drop u)
    rw [← hq] at this
    exact recNext_bad (q1 := (joinS ((bankOf (T.take (2 * half)) half b).drop u)).1) (q2 := (joinS ((bankOf (T.take (2 * half)) half b).drop u)).2.1) (q3 := (joinS ((bankOf (T.take (2 * half)) half b).drop u)).2.2.1) (q4 := (joinS ((bankOf (T.take (2 * half)) half b).drop u)).2.2.2) (joinC_eq _) (.inr (.inl (by rw [← hq]; exact this)))
  · exact recNext_bad (q1 := (joinS ((bankOf (T.take (2 * half)) half b).drop u)).1) (q2 := (joinS ((bankOf (T.take (2 * half)) half b).drop u)).2.1) (q3 := (joinS ((bankOf (T.take (2 * half)) half b).drop u)).2.2.1) (q4 := (joinS ((bankOf (T.take (2 * half)) half b).drop u)).2.2.2) (joinC_eq _) (.inl he)
def ann : Nat → List (Int × ByteArray) → List Rec
  | _, [] => []
  | u, e :: l => (u + cnt e.2.size, e.1, e.2) :: ann (u + cnt e.2.size) l
theorem ann_ent : ∀ (l : List (Int × ByteArray)) (u : Nat), (ann u l).map recEnt = l
  | [], _ => rfl
  | e :: l, u => by
    show (e.1, e.2) :: (ann (u + cnt e.2.size) l).map recEnt = e :: l
    rw [ann_ent l]
theorem ann_ne {u : Nat} {e : Int × ByteArray} {l : List (Int × ByteArray)} : ann u (e :: l) ≠ [] := by
  intro h
  cases h
theorem ann_pos : ∀ (l : List (Int × ByteArray)) (p u q : Nat) (last : Int), Laid T (p + u) (p + q) last l → l ≠ [] → (posOf (ann u l)).1 = q
  | [], _, _, _, _, _, h => absurd rfl h
  | [e], p, u, q, last, h, _ => by
    have h3 : p + u + cnt e.2.size = p + q := h.2.2
    show u + cnt e.2.size = q
    omega
  | e :: e2 :: l, p, u, q, last, h, _ => by
    have := ann_pos (e2 :: l) p (u + cnt e.2.size) q e.1 (by rw [← Nat.add_assoc]; exact h.2.2) (by simp)
    unfold posOf at this ⊢
    rw [show ann u (e :: e2 :: l) = (u + cnt e.2.size, e.1, e.2) :: ann (u + cnt e.2.size) (e2 :: l) from rfl, List.getLast?_cons_of_ne_nil ann_ne]
    exact this
theorem recsC_laid (hb : b ≤ 1) (hT : 2 * half ≤ T.length) {U : Nat} (hU : U ≤ half) : ∀ (l : List (Int × ByteArray)) (u : Nat) (last : Int) (f : Nat), Laid T (b * half + u) (b * half + U) last l → l.length < f → recNext (bankOf (T.take (2 * half)) half b) (U, lastOf last l) = none →
    recsC (bankOf (T.take (2 * half)) half b) f (u, last) = ann u l
  | [], u, last, f, h, hf, hn => by
    obtain ⟨f, rfl⟩ : ∃ g, f = g + 1 := ⟨f - 1, by omega⟩
    have h3 : b * half + u = b * half + U := h
    obtain rfl : u = U := by omega
    replace hn : recNext (bankOf (T.take (2 * half)) half b) (u, last) = none := hn
    rw [recsC, hn]
    rfl
  | e :: l, u, last, f, h, hf, hn => by
    rw [List.length_cons] at hf
    obtain ⟨f, rfl⟩ : ∃ g, f = g + 1 := ⟨f - 1, by omega⟩
    have hle := h.2.2.len
    have hx := next_good hb hT h.2.1 (by omega) h.1
    rw [recsC, hx]
    show (u + cnt e.2.size, e.1, e.2) :: recsC _ f (u + cnt e.2.size, e.1) = _
    rw [recsC_laid hb hT hU l (u + cnt e.2.size) e.1 f (by rw [← Nat.add_assoc]; exact h.2.2) (by omega) hn]
    rfl
end
/-! ### the next number -/
theorem sec_nums {s : ByteArray} {n : Int} {i m : Nat} (h : IsSec s n i m) : numC (s.extract 0 8) = n ∧ numC (s.extract 56 64) = n := by
  obtain ⟨t, -, hf, rfl⟩ := h
  have hsz := secOf_size n t i
  have h1 := hf.n1
  have h2 := hf.n2
  constructor
  · rw [numC_eq _ (by rw [ByteArray.size_extract]; omega), bytesOf_extract, List.drop_zero, secOf_take8, leval_le64 _ (by omega) (by omega)]
  · rw [numC_eq _ (by rw [ByteArray.size_extract]; omega), bytesOf_extract, List.take_of_length_le (by rw [bytesOf_length]; omega), secOf_drop56, leval_le64 _ (by omega) (by omega)]
theorem zero_nums : numC (zero64.extract 0 8) = 0 ∧ numC (zero64.extract 56 64) = 0 := by decide +kernel
theorem bumps_zero (a : Int) (h : 1 ≤ a) : bumps a zero64 = a := by
  unfold bumps bump
  rw [zero_nums.1, zero_nums.2, if_pos (by omega), if_pos (by omega)]
  omega
theorem bumps_sec {s : ByteArray} {n : Int} {i m : Nat} (h : IsSec s n i m) (a : Int) : bumps a s = max a (n + 1) := by
  obtain ⟨h1, h2⟩ := sec_nums h
  have := h.le
  unfold bumps bump
  rw [h1, h2, if_pos (by omega), if_pos (by omega)]
  omega
theorem foldl_bumps {N : Int} : ∀ (l : List ByteArray) (a : Int), 1 ≤ a → a ≤ N → (∀ s ∈ l, s = zero64 ∨ ∃ n i m, IsSec s n i m ∧ n < N) → a ≤ l.foldl bumps a ∧ l.foldl bumps a ≤ N ∧ ∀ s ∈ l, ∀ n i m, IsSec s n i m → n < l.foldl bumps a
  | [], a, h1, h2, _ => ⟨Int.le_refl _, h2, fun s hs => by simp at hs⟩
  | s :: l, a, h1, h2, h => by
    have hl := fun t ht => h t (List.mem_cons_of_mem s ht)
    rw [List.foldl_cons]
    rcases h s List.mem_cons_self with rfl | ⟨n, i, m, hS, hn⟩
    · rw [bumps_zero a h1]
      obtain ⟨a1, a2, a3⟩ := foldl_bumps l a h1 h2 hl
      refine ⟨a1, a2, fun t ht => ?_⟩
      rcases List.mem_cons.1 ht with rfl | ht
      · exact fun n i m hz => (zero_not hz).elim
      · exact a3 t ht
    · rw [bumps_sec hS]
      obtain ⟨a1, a2, a3⟩ := foldl_bumps l (max a (n + 1)) (by omega) (by omega) hl
      refine ⟨by omega, a2, fun t ht => ?_⟩
      rcases List.mem_cons.1 ht with rfl | ht
      · intro n' i' m' hz
        rw [(hz.inj hS).1]
        omega
      · exact a3 t ht
/-- Open finds the journal that was left. -/
theorem open_inv {J : Jour} {D : Dev} (h : Inv J D) : Inv (openOf D) D ∧ (openOf D).half = J.half ∧ (openOf D).bank = J.bank ∧ (openOf D).used = J.used ∧ (openOf D).l = J.l ∧ (openOf D).next ≤ J.next ∧ (openOf D).spoiled = false := by
  obtain ⟨T, hT⟩ : ∃ T, texts D = T := ⟨_, rfl⟩
  obtain ⟨half, hhalf⟩ : ∃ half, J.half = half := ⟨_, rfl⟩
  have hlen : 2 * half ≤ T.length := by rw [← hT, texts_length, ← hhalf]; exact h.lenD
  obtain ⟨h1, h2, h3, h4, h5, h6, h7, h8, h9, h10, h11, h12, h13, h14⟩ := h
  rw [hhalf] at h2 h3 h4 h6 h9 h10 h12 h13
  rw [hT] at h9 h10 h12 h13
  have hbk := banks (half := half) h5
  -- the first numbers of the banks
  have hown : ∀ e l, J.l = e :: l → firstOf (bankOf (T.take (2 * half)) half J.bank) = e.1 := fun e l hl => by
    rw [hl] at h10
    have := h10.2.2.len
    unfold firstOf
    rw [next_good (u := 0) h5 hlen h10.2.1 (by omega) h10.1]
  have hown0 : J.l = [] → firstOf (bankOf (T.take (2 * half)) half J.bank) = 0 := fun hl => by
    rw [hl] at h10 h12
    have h10' : J.bank * half = J.bank * half + J.used := h10
    unfold firstOf
    rw [next_none (u := 0) (last := 0) h5 hlen h9 (by omega) (fun n m hW hm => h12 n m (by rw [show J.used = 0 by omega]; exact hW) (by omega))]
  have hoth : firstOf (bankOf (T.take (2 * half)) half (1 - J.bank)) = 0 ∨ ∃ n, firstOf (bankOf (T.take (2 * half)) half (1 - J.bank)) = n ∧ FirstBefore n J.l := by
    by_cases hz : ∃ n m, Whole T n ((1 - J.bank) * half) m ∧ cnt m ≤ half ∧ FirstBefore n J.l
    · unfold firstOf
      cases hr : recNext (bankOf (T.take (2 * half)) half (1 - J.bank)) (0, 0) with
      | none => exact .inl rfl
      | some x =>
        refine .inr ⟨x.2.1, rfl, ?_⟩
        unfold recNext at hr
        split at hr
        · split at hr
          · cases hr
          · rename_i hc
            cases hr
            simp only [not_or] at hc
            show FirstBefore (joinC ((bankOf (T.take (2 * half)) half (1 - J.bank)).drop 0)).1 J.l
            have he : (joinC ((bankOf (T.take (2 * half)) half (1 - J.bank)).drop 0)).2.2.2 = 0 := Decidable.byContradiction fun z => hc.1 z
            have hlb := bank_len (T := T) (half := half) (b := 1 - J.bank) (by omega) hlen
            rw [List.drop_zero, joinC_eq] at he ⊢
            obtain ⟨m, hm1, hm2, hm3⟩ := joinS_ok (N := J.next) (fun k s hk => by
              have hlt := (List.getElem?_eq_some_iff.1 hk).1
              rw [hlb] at hlt
              rw [bank_get (by omega) hlen _ hlt] at hk
              exact h9 _ s (by omega) hk) he
            have hcp := cnt_pos m
            rw [hlb] at hm2
            exact h13 _ m ⟨hm1, fun j hj => by
              obtain ⟨s, hs1, hs2⟩ := hm3 j hj
              rw [bank_get (by omega) hlen _ (by omega)] at hs1
              exact ⟨s, hs1, hs2⟩⟩ hm2
        · cases hr
    · refine .inl ?_
      unfold firstOf
      rw [next_none (u := 0) (last := 0) (N := J.next) (by omega) hlen h9 (by omega) (fun n m hW hm => (hz ⟨n, m, hW, by omega, h13 n m hW (by omega)⟩).elim)]
  have hfind : (if firstOf (bankOf (T.take (2 * half)) half 0) < firstOf (bankOf (T.take (2 * half)) half 1) then 1 else 0) = J.bank := by
    rcases hbk with ⟨-, -, hb⟩ | ⟨-, -, hb⟩
    · rw [hb] at hown hown0 hoth ⊢
      rw [if_neg]
      cases hl : J.l with
      | nil =>
        rw [hl] at hoth
        rcases hoth with hoth | ⟨n, _, hf⟩
        · rw [hown0 hl, hoth]; omega
        · exact hf.elim
      | cons e l =>
        rw [hown e l hl]
        rw [hl] at hoth h10
        have he : 0 < e.1 := h10.1
        rcases hoth with hoth | ⟨n, hn, hf⟩
        · rw [hoth]; omega
        · rw [hn]
          have : n < e.1 := hf
          omega
    · rw [hb] at hown hown0 hoth ⊢
      rw [if_pos]
      cases hl : J.l with
      | nil =>
        have := h14 hl
        omega
      | cons e l =>
        rw [hown e l hl]
        rw [hl] at hoth h10
        have he : 0 < e.1 := h10.1
        rcases hoth with hoth | ⟨n, hn, hf⟩
        · rw [hoth]; omega
        · rw [hn]
          exact hf
  have hO := openOf_eq (D := D) (half := half) (all := T.take (2 * half)) h2.symm (by rw [hT]) J.bank hfind
  have hstop : recNext (bankOf (T.take (2 * half)) half J.bank) (J.used, lastOf 0 J.l) = none := next_none h5 hlen h9 h6 h12
  have hlaidlen := h10.len
  have hrecs : bankRecs (bankOf (T.take (2 * half)) half J.bank) = ann 0 J.l := by
    unfold bankRecs
    rw [bank_len h5 hlen]
    exact recsC_laid h5 hlen h6 J.l 0 0 (half + 1) h10 (by omega) hstop
  rw [hrecs] at hO
  have hused : (posOf (ann 0 J.l)).1 = J.used := by
    cases hl : J.l with
    | nil =>
      rw [hl] at h10
      have h10' : J.bank * half = J.bank * half + J.used := h10
      show 0 = J.used
      omega
    | cons e l =>
      rw [hl] at h10
      exact ann_pos (e :: l) (J.bank * half) 0 J.used 0 h10 (by simp)
  have hent := ann_ent J.l 0
  obtain ⟨n1, n2, n3⟩ := foldl_bumps (N := J.next) (T.take (2 * half)) 1 (Int.le_refl _) h7 (fun s hs => by
    obtain ⟨k, hk⟩ := List.getElem?_of_mem hs
    have hlt := (List.getElem?_eq_some_iff.1 hk).1
    rw [List.length_take] at hlt
    rw [List.getElem?_take, if_pos (by omega)] at hk
    exact h9 k s (by omega) hk)
  replace n1 : 1 ≤ nextOf (T.take (2 * half)) := n1
  replace n2 : nextOf (T.take (2 * half)) ≤ J.next := n2
  replace n3 : ∀ s ∈ T.take (2 * half), ∀ n i m, IsSec s n i m → n < nextOf (T.take (2 * half)) := n3
  generalize nextOf (T.take (2 * half)) = nx at hO n1 n2 n3
  have hO2 : openOf D = { half := half, bank := J.bank, used := J.used, next := nx, l := J.l, spoiled := false, closed := false } := by
    rw [hO]
    unfold takeOf
    rw [hused, hent]
  have hsay : SecsSay T (2 * half) nx := fun k s hk hs => by
    rcases h9 k s hk hs with hz | ⟨n, i, m, hS, _⟩
    · exact .inl hz
    · exact .inr ⟨n, i, m, hS, n3 s (List.mem_of_getElem? (i := k) (by rw [List.getElem?_take, if_pos hk]; exact hs)) n i m hS⟩
  have hnums : ∀ (l : List (Int × ByteArray)) (p q : Nat) (last : Int), Laid T p q last l → q ≤ 2 * half → ∀ e ∈ l, e.1 < nx := by
    intro l
    induction l with
    | nil => intro p q last _ _ e he; simp at he
    | cons x l ih =>
      intro p q last hL hq e he
      have hle := hL.2.2.len
      have hcp := cnt_pos x.2.size
      rcases List.mem_cons.1 he with rfl | he
      · have hx := hL.2.1
        have h0 := hx.2.2.2 0 (by omega)
        have hS : IsSec (secOf e.1 e.2 0) e.1 0 e.2.size := ⟨e.2, rfl, ⟨hx.1, hx.2.1, hx.2.2.1, by omega⟩, rfl⟩
        rcases hsay (p + 0) _ (by omega) h0 with hz | ⟨n, i, m, hS2, hn⟩
        · rw [hz] at hS
          exact (zero_not hS).elim
        · rw [(hS.inj hS2).1]
          exact hn
      · exact ih _ _ _ hL.2.2 hq e he
  rw [hO2]
  refine ⟨⟨h1, h2, h3, h4, h5, h6, n1, rfl, by rw [hT]; exact hsay, by rw [hT]; exact h10, hnums J.l _ _ _ h10 (by omega), by rw [hT]; exact h12, by rw [hT]; exact h13, h14⟩, hhalf.symm ▸ rfl, rfl, rfl, rfl, n2, rfl⟩
/-! ### a new device; a worn sector -/
theorem new_clean (n bl bf : Nat) : Clean (newDev n 1 1 bl bf) := ⟨rfl, rfl, fun k x hx => by
  have hx2 : (List.replicate n sec0)[k]? = some x := hx
  rw [List.getElem?_replicate] at hx2
  split at hx2
  · obtain rfl := Option.some.inj hx2
    exact ⟨rfl, same_size 0 64, same_size 0 64, Nat.zero_le _⟩
  · cases hx2⟩
theorem new_texts {n bl bf k : Nat} {s : ByteArray} (h : (texts (newDev n 1 1 bl bf))[k]? = some s) : s = zero64 := by
  unfold texts newDev at h
  rw [List.getElem?_map, List.getElem?_replicate] at h
  split at h
  · exact (Option.some.inj h).symm
  · cases h
theorem new_inv (n bl bf : Nat) (h1 : 2 ≤ n) (h2 : n ≤ 4096) : Inv { half := n / 2, bank := 0, used := 0, next := 1, l := [], spoiled := false, closed := false } (newDev n 1 1 bl bf) := by
  have hl : (newDev n 1 1 bl bf).secs.length = n := by show (List.replicate n sec0).length = n; rw [List.length_replicate]
  have no : ∀ (z : Int) (q m : Nat), Whole (texts (newDev n 1 1 bl bf)) z q m → False := fun z q m hW => by
    have hcp := cnt_pos m
    obtain ⟨s, hs1, hs2⟩ := hW.2 0 (by omega)
    rw [new_texts hs1] at hs2
    exact zero_not hs2
  exact ⟨new_clean n bl bf, by rw [hl], by show 1 ≤ n / 2; omega, by show n / 2 ≤ 2048; omega, Nat.zero_le _, Nat.zero_le _, Int.le_refl _, rfl, fun k s _ hs => .inl (new_texts hs), rfl, fun e he => by simp at he, fun z m hW _ => (no _ _ _ hW).elim, fun z m hW _ => (no _ _ _ hW).elim, fun _ => rfl⟩
theorem start_inv (n bl bf : Nat) (h1 : 2 ≤ n) (h2 : n ≤ 4096) : Inv (openOf (newDev n 1 1 bl bf)) (newDev n 1 1 bl bf) ∧ (openOf (newDev n 1 1 bl bf)).half = n / 2 ∧ (openOf (newDev n 1 1 bl bf)).bank = 0 ∧ (openOf (newDev n 1 1 bl bf)).used = 0 ∧ (openOf (newDev n 1 1 bl bf)).l = [] ∧ (openOf (newDev n 1 1 bl bf)).next = 1 ∧ (openOf (newDev n 1 1 bl bf)).spoiled = false := by
  obtain ⟨a1, a2, a3, a4, a5, a6, a7⟩ := open_inv (new_inv n bl bf h1 h2)
  refine ⟨a1, a2, a3, a4, a5, ?_, a7⟩
  have := a1.next1
  replace a6 : (openOf (newDev n 1 1 bl bf)).next ≤ 1 := a6
  omega
theorem new_unworn (n bl bf p q : Nat) : Unworn (newDev n 1 1 bl bf) p q := fun k x _ _ hx => by
  have hx2 : (List.replicate n sec0)[k]? = some x := hx
  rw [List.getElem?_replicate] at hx2
  split at hx2
  · obtain rfl := Option.some.inj hx2
    rfl
  · cases hx2
theorem wear_get (l : List Sec) (i : Int) (k : Nat) : (wearSec l i)[k]? = (l[k]?).map (fun x => if i = (k : Int) then { x with worn := true } else x) := by
  unfold wearSec
  split
  · rename_i hi
    obtain ⟨n, rfl⟩ : ∃ n : Nat, i = n := ⟨i.toNat, by omega⟩
    rw [Int.toNat_natCast]
    have hn : n < l.length := by omega
    rw [List.getElem?_eq_getElem hn]
    show (l.set n _)[k]? = _
    rw [List.getElem?_set]
    by_cases hk : n = k
    · subst hk
      rw [if_pos rfl, if_pos hn, List.getElem?_eq_getElem hn, Option.map_some, if_pos rfl]
    · rw [if_neg hk]
      cases l[k]? with
      | none => rfl
      | some x => rw [Option.map_some, if_neg (by omega)]
  · rename_i hi
    cases hk : l[k]? with
    | none => rfl
    | some x =>
      have := (List.getElem?_eq_some_iff.1 hk).1
      rw [Option.map_some, if_neg (by omega)]
theorem wear_length (l : List Sec) (i : Int) : (wearSec l i).length = l.length := by
  unfold wearSec
  split
  · split <;> simp
  · rfl
theorem wear_texts (D : Dev) (i : Int) : texts { D with secs := wearSec D.secs i } = texts D := by
  apply List.ext_getElem?
  intro k
  unfold texts
  show ((wearSec D.secs i).map txtOf)[k]? = _
  rw [List.getElem?_map, List.getElem?_map, wear_get]
  cases D.secs[k]? with
  | none => rfl
  | some x =>
    rw [Option.map_some, Option.map_some, Option.map_some]
    split <;> rfl
theorem wear_inv {J : Jour} {D : Dev} (h : Inv J D) (i : Int) : Inv J { D with secs := wearSec D.secs i } := by
  have ht := wear_texts D i
  obtain ⟨h1, h2, h3, h4, h5, h6, h7, h8, h9, h10, h11, h12, h13, h14⟩ := h
  refine ⟨⟨h1.up, h1.left, fun k x hx => ?_⟩, ?_, h3, h4, h5, h6, h7, h8, by rw [ht]; exact h9, by rw [ht]; exact h10, h11, by rw [ht]; exact h12, by rw [ht]; exact h13, h14⟩
  · replace hx : (wearSec D.secs i)[k]? = some x := hx
    rw [wear_get] at hx
    cases hk : D.secs[k]? with
    | none => rw [hk] at hx; cases hx
    | some y =>
      rw [hk] at hx
      obtain rfl := Option.some.inj hx
      have := h1.secs k y hk
      split <;> exact this
  · show J.half = (wearSec D.secs i).length / 2
    rw [wear_length]
    exact h2
theorem SameWorn.unworn {D D' : Dev} {p q : Nat} (h : SameWorn D D') (hl : q ≤ D.secs.length) (hu : Unworn D p q) : Unworn D' p q := fun k x h1 h2 hx => by
  have hk : k < D.secs.length := by omega
  obtain ⟨x', hx', hw⟩ := h k _ (List.getElem?_eq_getElem hk)
  rw [hx] at hx'
  obtain rfl := Option.some.inj hx'
  rw [hw]
  exact hu k _ h1 h2 (List.getElem?_eq_getElem hk)
theorem Unworn.sub {D : Dev} {p q p' q' : Nat} (h : Unworn D p q) (h1 : p ≤ p') (h2 : q' ≤ q) : Unworn D p' q' := fun k x a b => h k x (by omega) (by omega)
/-- Append on a device without worn sectors, where there is room. -/
theorem app_fine {J : Jour} {D : Dev} (h : Inv J D) (hn : J.next ≤ 4611686018427387904) (rec : ByteArray) (ht : rec.size ≤ 8000) (hsp : J.spoiled = false) (hu : Unworn D (J.bank * J.half) (J.bank * J.half + J.half)) (hf : J.used + cnt rec.size ≤ J.half) :
    ∃ (J' : Jour) (D' : Dev), appOf J D rec = (J', D', J.next, 0) ∧ Inv J' D' ∧ SameWorn D D' ∧ J'.half = J.half ∧ J'.bank = J.bank ∧ J'.next = J.next + 1 ∧ J'.l = J.l ++ [(J.next, rec)] ∧ J'.used = J.used + cnt rec.size ∧ J'.spoiled = false := by
  obtain ⟨J', D', r, h1, h2, h3, h4, h5, h6, ⟨-, h7, h8, h9, h10⟩ | ⟨hr, -⟩⟩ := app_inv h hn rec ht hsp hf
  · exact ⟨J', D', h7, h1, h2, h3, h4, h5, h8, h9, h10⟩
  · have := h6 hu
    omega
theorem comp_fine {J : Jour} {D : Dev} (h : Inv J D) (hn : J.next ≤ 4611686018427387904) (img : ByteArray) (ht : img.size ≤ 8000) (hu : Unworn D ((1 - J.bank) * J.half) ((1 - J.bank) * J.half + J.half)) (hf : cnt img.size ≤ J.half) :
    ∃ (J' : Jour) (D' : Dev), compOf J D img = (J', D', J.next, 0) ∧ Inv J' D' ∧ SameWorn D D' ∧ J'.half = J.half ∧ J'.bank = 1 - J.bank ∧ J'.next = J.next + 1 ∧ J'.l = [(J.next, img)] ∧ J'.used = cnt img.size ∧ J'.spoiled = false := by
  obtain ⟨J', D', r, h1, h2, h3, h5, h6, ⟨-, h7, h8, h9, h10, h11⟩ | ⟨hr, -⟩⟩ := comp_inv h hn img ht hf
  · exact ⟨J', D', h7, h1, h2, h3, h11, h5, h8, h9, h10⟩
  · have := h6 hu
    omega
/-- A device without worn sectors. -/
def AllFine (J : Jour) (D : Dev) : Prop := Unworn D 0 (2 * J.half)
theorem AllFine.own {J : Jour} {D : Dev} (h : AllFine J D) (hb : J.bank ≤ 1) : Unworn D (J.bank * J.half) (J.bank * J.half + J.half) := Unworn.sub h (Nat.zero_le _) (by rcases banks (half := J.half) hb with ⟨a, -⟩ | ⟨a, -⟩ <;> omega)
theorem AllFine.other {J : Jour} {D : Dev} (h : AllFine J D) (hb : J.bank ≤ 1) : Unworn D ((1 - J.bank) * J.half) ((1 - J.bank) * J.half + J.half) := Unworn.sub h (Nat.zero_le _) (by rcases banks (half := J.half) hb with ⟨-, a, -⟩ | ⟨-, a, -⟩ <;> omega)
theorem AllFine.step {J J' : Jour} {D D' : Dev} (h : AllFine J D) (hi : Inv J D) (hw : SameWorn D D') (hh : J'.half = J.half) : AllFine J' D' := by unfold AllFine; rw [hh]; exact hw.unworn hi.lenD h
/-- The examples of the documentation. -/
theorem sanity_plain (bl bf : Nat) (a long img b : ByteArray) (ha : a.size = 1) (hl : long.size = 50) (hi : img.size = 5) (hb : b.size = 1) :
    ∃ (J1 J2 J3 J4 : Jour) (D1 D2 D3 D4 : Dev), appOf (openOf (newDev 8 1 1 bl bf)) (newDev 8 1 1 bl bf) a = (J1, D1, 1, 0) ∧ J1.next = 2 ∧ appOf J1 D1 long = (J2, D2, 2, 0) ∧ J2.half = 4 ∧ J2.used = 3 ∧ J2.next = 3 ∧ appOf J2 D2 (long.extract 0 45) = (J2, D2, 0, 15) ∧
      compOf J2 D2 img = (J3, D3, 3, 0) ∧ J3.half = 4 ∧ J3.used = 1 ∧ J3.bank = 1 ∧ J3.next = 4 ∧ appOf J3 D3 b = (J4, D4, 4, 0) ∧ (openOf D4).l = [(3, img), (4, b)] ∧ (openOf D4).next = 5 := by
  obtain ⟨i0, s1, s2, s3, s4, s5, s6⟩ := start_inv 8 bl bf (by omega) (by omega)
  have u0 : AllFine (openOf (newDev 8 1 1 bl bf)) (newDev 8 1 1 bl bf) := new_unworn 8 bl bf _ _
  generalize openOf (newDev 8 1 1 bl bf) = J0 at i0 s1 s2 s3 s4 s5 s6 u0 ⊢
  generalize newDev 8 1 1 bl bf = D0 at i0 u0 ⊢
  have c1 : cnt 1 = 1 := by decide
  have c2 : cnt 50 = 2 := by decide
  have c3 : cnt 5 = 1 := by decide
  have c4 : cnt 45 = 2 := by decide
  obtain ⟨J1, D1, a1, i1, w1, h1, b1, n1, l1, us1, sp1⟩ := app_fine i0 (by omega) a (by omega) s6 (u0.own i0.bank) (by rw [ha, c1]; omega)
  have u1 := u0.step i0 w1 h1
  obtain ⟨J2, D2, a2, i2, w2, h2, b2, n2, l2, us2, sp2⟩ := app_fine i1 (by omega) long (by omega) sp1 (u1.own i1.bank) (by rw [hl, c2]; rw [ha, c1] at us1; omega)
  have u2 := u1.step i1 w2 h2
  rw [ha, c1] at us1
  rw [hl, c2] at us2
  have a3 : appOf J2 D2 (long.extract 0 45) = (J2, D2, 0, 15) := appOf_full sp2 (by rw [ByteArray.size_extract, hl, show min 45 50 - 0 = 45 by decide, c4]; omega)
  obtain ⟨J3, D3, a4, i3, w3, h3, b3, n3, l3, us3, sp3⟩ := comp_fine i2 (by omega) img (by omega) (u2.other i2.bank) (by rw [hi, c3]; omega)
  have u3 := u2.step i2 w3 h3
  rw [hi, c3] at us3
  obtain ⟨J4, D4, a5, i4, w4, h4, b4, n4, l4, us4, sp4⟩ := app_fine i3 (by omega) b (by omega) sp3 (u3.own i3.bank) (by rw [hb, c1]; omega)
  obtain ⟨o1, -, -, -, o5, o6, -⟩ := open_inv i4
  have e2 : J2.next = 3 := by omega
  have e3 : J3.next = 4 := by omega
  have hl4 : J4.l = [(3, img), (4, b)] := by rw [l4, l3, e2, e3]; rfl
  refine ⟨J1, J2, J3, J4, D1, D2, D3, D4, by rw [a1, s5], by omega, by rw [a2, n1, s5]; rfl, by omega, by omega, e2, a3, by rw [a4, e2], by omega, by omega, by rw [b3]; omega, e3, by rw [a5, e3], by rw [o5, hl4], ?_⟩
  have := o1.nums (4, b) (by rw [o5, hl4]; simp)
  replace this : (4 : Int) < (openOf D4).next := this
  omega
end Go.Proofs.YtcdgbdojopfkgaaDoor.P
