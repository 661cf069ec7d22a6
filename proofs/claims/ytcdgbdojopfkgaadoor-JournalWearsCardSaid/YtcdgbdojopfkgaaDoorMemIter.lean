/- memory.such at isDirty: its iterator, and Flush and Cut over it. -/
import Derived.WalkKit
import Derived.OwnWalkIn
import Derived.TacticsInMore
import Derived.LoopNIn
import Derived.LoopIn
import Derived.Shelf.Abstract
import Derived.Shelf.RegionOpen
import Derived.RangeFuncBound
import Derived.Test.YtcdgbdojopfkgaaDoorRangeLay
import Derived.Test.YtcdgbdojopfkgaaDoorMem
namespace Go.Proofs.YtcdgbdojopfkgaaDoor.P
open Go.RowKit Go.Proofs.YtcdgbdojopfkgaaDoorW.PrintWords Go.Proofs.YtcdgbdojopfkgaaDoorW.PrintMore
attribute [local go_sem] Oper.semAt_some max2_int min2_int max_two min_two

set_option maxRecDepth 100000 in
theorem such_calls (bm : Nat) (w : World) :
    Calls Tryd.prog 49 #[.pointer (some ⟨bm, 0, none⟩), .func (.func 50) #[] #[]] w fun e w' => e = .returned (.func (.func 69) #[] #[.pointer (some ⟨w.heap.size, 0, none⟩), .pointer (some ⟨w.heap.size + 1, 0, none⟩)]) ∧
      w' = (w.alloc (.cells #[.pointer (some ⟨bm, 0, none⟩)] 66)).alloc (.cells #[.func (.func 50) #[] #[]] 105) := by
  go_enter Tryd.func49, Tryd.ntmps49
  go_wp2
  go_ret
  exact ⟨rfl, rfl⟩

/-- What an iterator over the dirty sectors reads: the memory, and its two boxes. -/
structure SuchRep (W : World) (b1 b2 bm bs c : Nat) (l : List Sec) : Prop where
  mem : MemRep W bm bs c l
  one : Blk W b1 [.pointer (some ⟨bm, 0, none⟩)]
  two : Blk W b2 [.func (.func 50) #[] #[]]
theorem SuchRep.mod {S : Nat → Prop} {W W' : World} {b1 b2 bm bs c : Nat} {l l' : List Sec} (h : SuchRep W b1 b2 bm bs c l) (hm : Mod S W W') (hr : MemRep W' bm bs c l') (h1 : ¬ S b1) (h2 : ¬ S b2) : SuchRep W' b1 b2 bm bs c l' := ⟨hr, h.one.mod hm h1, h.two.mod hm h2⟩
def NoneDirty (l : List Sec) (i k : Nat) : Prop := ∀ (j : Nat) (x : Sec), i ≤ j → j < k → l[j]? = some x → x.dirty = false
def MayCome (l : List Sec) (p i : Nat) : Prop := p ≤ i ∧ (∃ x, l[i]? = some x ∧ x.dirty = true) ∧ NoneDirty l p i

set_option maxRecDepth 100000 in
set_option maxHeartbeats 4000000 in
theorem such1_iter {σ : Type} (n : Nat) (hn : 1 ≤ n) (lk : σ → List Sec) (pos : σ → Nat) (next : σ → Nat → σ) (b1 b2 bm bs c N : Nat) (I : σ → World → Prop) (s0 : σ) (w : World)
    (hI : ∀ s W, I s W → SuchRep W b1 b2 bm bs c (lk s)) (hN : ∀ s, (lk s).length = N) (hnext : ∀ s i, pos (next s i) = i + 1) (h0 : pos s0 = 0) (hN4 : N ≤ 4096) :
    IterGives Fence.wide n Tryd.prog 69 #[.pointer (some ⟨b1, 0, none⟩), .pointer (some ⟨b2, 0, none⟩)] (fun i : Nat => #[.int .i64 i, .pointer (some ⟨bs, i * 5, none⟩)])
      (fun s i => MayCome (lk s) (pos s) i) next (fun s => NoneDirty (lk s) (pos s) N) I s0 w := by
  intro l J Jx W _ hJI _ hY hJ0
  refine callsIn_wide.2 ?_
  have hi0 := hI _ _ (hJI _ _ hJ0)
  have c1 := hi0.one.cell 0 rfl
  have cm := hi0.mem.hm.cell 0 rfl
  rw [hN] at cm
  clear hi0
  show Calls Tryd.prog _ #[.func (.yield l) #[] #[], .pointer (some ⟨b1, 0, none⟩), .pointer (some ⟨b2, 0, none⟩)] W _
  have HJ0 := Aside0.mk hJ0
  clear hJ0
  go_enter Tryd.func69, Tryd.ntmps69
  go_wp2
  clear c1 cm
  go_loopw [11] (fun i wr => ∃ (k : Nat) (s : σ), i = .int .i64 k ∧ k ≤ N ∧ Aside0 (pos s ≤ k) ∧ Aside0 (NoneDirty (lk s) (pos s) k) ∧ Aside0 (J s wr)) (fun i _ => N - (intOf i).toNat)
  case atStart => exact ⟨0, s0, rfl, Nat.zero_le _, ⟨by omega⟩, ⟨fun j x h1 h2 => by omega⟩, HJ0⟩
  case round =>
    obtain ⟨k, s, rfl, hk, HP, HND, HJ⟩ := hrel
    clear HJ0
    by_cases hlt : k < N
    · have hi1 := hI _ _ (hJI _ _ HJ.out)
      have c1 := hi1.one.cell 0 rfl
      have c2 := hi1.two.cell 0 rfl
      have cm := hi1.mem.hm.cell 0 rfl
      rw [hN] at cm
      have hkl : k < (lk s).length := by rw [hN]; exact hlt
      obtain ⟨x, hx⟩ : ∃ x, (lk s)[k]? = some x := ⟨(lk s)[k], List.getElem?_eq_getElem hkl⟩
      have hd := mem_isDirty hi1.mem k x hx
      have HX := Aside0.mk hx
      have hlt2 : (k : Int) < (N : Int) := by omega
      clear hi1 hx hkl
      cases hdx : x.dirty with
      | false =>
        rw [hdx] at hd
        go_wp2_with ((with_reducible refine hd.mono ?_); rintro e w' ⟨rfl, rfl⟩)
        go_roundw
        case rel =>
          refine ⟨k + 1, s, by go_num, by omega, ⟨by have := HP.out; omega⟩, ⟨fun j y h1 h2 h3 => ?_⟩, HJ⟩
          by_cases e : j = k
          · subst e
            rw [HX.out] at h3
            cases h3
            exact hdx
          · exact HND.out j y h1 (by omega) h3
        case measure => simp [intOf]; omega
      | true =>
        rw [hdx] at hd
        have hmay : MayCome (lk s) (pos s) k := ⟨HP.out, ⟨x, HX.out, hdx⟩, HND.out⟩
        obtain ⟨fn, tmps, assign, body, hy, hRd⟩ := hY s k _ HJ.out hmay
        clear hmay
        go_upto_region 4 with (fail)
        refine (wpIn_wide (n := n)).1 ?_
        gi_wp2_with fail
        refine ⟨trivial, (callsIn_wide.2 hd).mono ?_⟩
        rintro e w' ⟨rfl, rfl⟩
        gi_wp2
        refine hRd.mono ?_
        rintro e w8 (⟨rfl, hJ8⟩ | ⟨rfl, hJx8⟩)
        · have HJ8 := Aside0.mk hJ8
          clear hJ8 hd hy hRd c1 c2 cm
          gi_wp2
          go_wp2
          go_roundw
          case rel => exact ⟨k + 1, next s k, by go_num, by omega, ⟨by rw [hnext]; omega⟩, ⟨fun j y h1 h2 => by rw [hnext] at h1; omega⟩, HJ8⟩
          case measure => simp [intOf]; omega
        · have HJ8 := Aside0.mk hJx8
          clear hJx8 hd hy hRd c1 c2 cm
          gi_wp2
          go_wp2
          refine bodyPost_ret (results_none rfl _ _ _) rfl ?_
          exact ⟨⟨_, rfl⟩, .inr ⟨_, HJ8.out⟩⟩
    · have hge : ¬ (k : Int) < (N : Int) := by omega
      go_wp2
      go_end0
      obtain rfl : k = N := by omega
      exact ⟨⟨_, rfl⟩, .inl ⟨s, HND.out, HJ.out⟩⟩

/-! ### Flush -/
def flush1 (s : Sec) : Sec := if s.dirty then s.settle 64 else s
def flushTo (l : List Sec) (k : Nat) : List Sec := (l.take k).map flush1 ++ l.drop k
theorem flushTo_length (l : List Sec) (k : Nat) : (flushTo l k).length = l.length := by
  unfold flushTo
  rw [List.length_append, List.length_map, List.length_take, List.length_drop]
  omega
theorem flushTo_get (l : List Sec) (k j : Nat) (hk : k ≤ l.length) : (flushTo l k)[j]? = if j < k then (l[j]?).map flush1 else l[j]? := by
  unfold flushTo
  by_cases h : j < k
  · rw [if_pos h, List.getElem?_append_left (by rw [List.length_map, List.length_take]; omega), List.getElem?_map, List.getElem?_take, if_pos h]
  · rw [if_neg h, List.getElem?_append_right (by rw [List.length_map, List.length_take]; omega), List.length_map, List.length_take, List.getElem?_drop]
    congr 1
    omega
theorem flushTo_step (l : List Sec) (k i : Nat) (x : Sec) (hk : k ≤ i) (hx : l[i]? = some x) (hd : x.dirty = true) (hn : NoneDirty (flushTo l k) k i) : (flushTo l k).set i (x.settle 64) = flushTo l (i + 1) := by
  have hi : i < l.length := (List.getElem?_eq_some_iff.1 hx).1
  apply List.ext_getElem?
  intro j
  rw [List.getElem?_set, flushTo_length, flushTo_get l k j (by omega), flushTo_get l (i + 1) j (by omega)]
  by_cases e : i = j
  · subst e
    rw [if_pos rfl, if_pos hi, if_pos (by omega), hx]
    simp [flush1, hd]
  · rw [if_neg e]
    by_cases h1 : j < k
    · rw [if_pos h1, if_pos (by omega)]
    · rw [if_neg h1]
      by_cases h2 : j < i + 1
      · rw [if_pos h2]
        cases hy : l[j]? with
        | none => rfl
        | some y =>
          have := hn j y (by omega) (by omega) (by rw [flushTo_get l k j (by omega), if_neg h1, hy])
          simp [flush1, this]
      · rw [if_neg h2]
theorem flushTo_all (l : List Sec) (k : Nat) (hk : k ≤ l.length) (hn : NoneDirty (flushTo l k) k l.length) : flushTo l k = l.map flush1 := by
  apply List.ext_getElem?
  intro j
  rw [flushTo_get l k j hk, List.getElem?_map]
  by_cases h1 : j < k
  · rw [if_pos h1]
  · rw [if_neg h1]
    cases hy : l[j]? with
    | none => rfl
    | some y =>
      have hj : j < l.length := (List.getElem?_eq_some_iff.1 hy).1
      have := hn j y (by omega) hj (by rw [flushTo_get l k j hk, if_neg h1, hy])
      simp [flush1, this]
/-- Strings of a memory have 64 bytes. -/
def SecOk (s : Sec) : Prop := s.now.size = 64 ∧ s.before.size = 64 ∧ (s.dirty = true → s.fresh.size = 64) ∧ s.fresh.size ≤ 64
def SecsOk (l : List Sec) : Prop := ∀ (i : Nat) (s : Sec), l[i]? = some s → SecOk s
theorem SuchRep.turn {B : Nat} {W W' : World} {b1 b2 bm bs c : Nat} {l : List Sec} (h : SuchRep W b1 b2 bm bs c l) (ht : Turn B W W') : SuchRep W' b1 b2 bm bs c l :=
  ⟨⟨h.mem.hm.turn ht, h.mem.hs.turn ht, h.mem.ne, h.mem.le, h.mem.small⟩, h.one.turn ht, h.two.turn ht⟩

set_option maxRecDepth 100000 in
set_option maxHeartbeats 4000000 in
theorem mem_flush {bm bs c : Nat} {l : List Sec} {w : World} (h : MemRep w bm bs c l) (hok : SecsOk l) :
    Calls Tryd.prog 68 #[.pointer (some ⟨bm, 0, none⟩)] w fun e w' => e = .returned (.tuple #[]) ∧ MemRep w' bm bs c (l.map flush1) ∧ Mod (fun k => k = bs) w w' := by
  have hro : Fence.wide.round = none := rfl
  have hm := h.hm.lt
  have hs := h.hs.lt
  have H := Aside0.mk h
  clear h
  refine (callsIn_wide (n := 5)).1 ?_
  refine callsIn_of_wp_marks Tryd.func68 rfl trivial ?_ hro
  simp only [Tryd.ntmps68, List.size_toArray, List.length_cons, List.length_nil, Nat.reduceAdd, Nat.reduceSub, Array.replicate_succ, Array.replicate_zero, List.push_toArray, List.append_toArray, List.nil_append, List.cons_append]
  gi_wp2_with (refine ⟨trivial, ?_⟩; gi_at_call 49; refine (callsIn_wide.2 (such_calls _ _)).mono ?_; rintro e w' ⟨rfl, rfl⟩)
  obtain ⟨w2, hw2⟩ : ∃ w2, (w.alloc (.cells #[.pointer (some ⟨bm, 0, none⟩)] 66)).alloc (.cells #[.func (.func 50) #[] #[]] 105) = w2 := ⟨_, rfl⟩
  have hm2 : Mod (fun k => k = bs) w w2 := by rw [← hw2]; exact ((Mod.refl _ _).alloc _).alloc _
  have hr2 : SuchRep w2 w.heap.size (w.heap.size + 1) bm bs c l := by
    have b1 := (Blk.new w #[.pointer (some ⟨bm, 0, none⟩)] 66).alloc (.cells #[.func (.func 50) #[] #[]] 105)
    have b2 := Blk.new (w.alloc (.cells #[.pointer (some ⟨bm, 0, none⟩)] 66)) #[.func (.func 50) #[] #[]] 105
    rw [World.size_alloc] at b2
    rw [← hw2]
    exact ⟨H.out.below (below_alloc (below_alloc (Below.refl _ _) _) _), b1, b2⟩
  have hsz : w2.heap.size = w.heap.size + 2 := by rw [← hw2]; simp
  rw [hw2]
  clear hw2
  refine wpIn_range_state hro (by omega) (gf := 69) (lb := #[.pointer (some ⟨w.heap.size, 0, none⟩), .pointer (some ⟨w.heap.size + 1, 0, none⟩)]) rfl trivial (enters_of Tryd.func69 (by kernel_rfl) rfl) (fun _ => rfl)
    (fun (k : Nat) W => SuchRep W w.heap.size (w.heap.size + 1) bm bs c (flushTo l k) ∧ Mod (fun k => k = bs) w W)
    (fun _ _ _ => False)
    (fun _ _ _ hi ht => ⟨hi.1.turn ht, hi.2.turn ⟨ht.os, ht.tape, ht.output, ht.size, fun j hj hj2 => ht.old j (by omega) hj2, ht.cells⟩⟩) (fun _ _ _ _ hi _ => hi)
    0 ⟨by simpa [flushTo] using hr2, hm2⟩
    (such1_iter (5 - 1) (by omega) (flushTo l) id (fun _ i => i + 1) _ _ bm bs c l.length _ 0 w2 (fun _ _ hi => hi.1) (flushTo_length l) (fun _ _ => rfl) rfl H.out.small)
    (fun i => { tmps := #[.pointer (some ⟨bm, 0, none⟩), undef, undef, .pointer (some ⟨bs, i * 5, none⟩), .pointer (some ⟨bm, 0, none⟩), .func (.func 69) #[] #[.pointer (some ⟨w.heap.size, 0, none⟩), .pointer (some ⟨w.heap.size + 1, 0, none⟩)], .int .i64 i, .pointer (some ⟨bs, i * 5, none⟩), undef, undef], defers := [] }) ?assign ?body ?done ?stop
  case assign =>
    intro l2 x W K hK
    gi_wp2
    exact hK
  case body =>
    rintro l2 k i W ⟨hr, hm⟩ ⟨h1, ⟨x, hx, hd⟩, hn⟩
    replace h1 : k ≤ i := h1
    have hi : i < l.length := by rw [← flushTo_length l k]; exact (List.getElem?_eq_some_iff.1 hx).1
    have hx2 : l[i]? = some x := by rw [flushTo_get l k i (by omega), if_neg (by exact Nat.not_lt.2 h1)] at hx; exact hx
    obtain ⟨o1, o2, o3, o4⟩ := hok i x hx2
    have hcon := sec_settle hr.mem i x hx 64 (by rw [o3 hd]; exact Nat.le_refl _) (by omega) (by omega) (by omega)
    rw [flushTo_step l k i x h1 hx2 hd hn] at hcon
    have HR := Aside0.mk hr
    have HM := Aside0.mk hm
    have HC := Aside0.mk hcon
    clear hr hm hcon hx hx2 hd hn o1 o2 o3 o4 h1
    gi_wp2_with fail
    refine ⟨trivial, (callsIn_wide.2 HC.out).mono ?_⟩
    rintro e w' ⟨rfl, hrep, hmod⟩
    gi_wp2
    exact ⟨hmod.others (fun k hk => by subst hk; exact ⟨_, HR.out.mem.hs⟩), HR.out.mod hmod hrep (by omega) (by omega), HM.out.trans hmod⟩
  case done =>
    rintro D k W hD hf ⟨hr, hm⟩ hK
    gi_wp2
    have hd : Blk W bs (secCells (flushTo l k)) := hr.mem.hs
    have e1 : flushTo l k = l.map flush1 := by
      by_cases hk : k ≤ l.length
      · exact flushTo_all l k hk hf
      · unfold flushTo
        rw [List.take_of_length_le (by omega), List.drop_eq_nil_of_le (by omega), List.append_nil]
    rw [e1] at hr
    have ht : Turn w2.heap.size W (W.putObj D (.deferred none)) := Turn.putObj _ hD hK rfl
    refine ⟨by simp, .inl ⟨_, _, rfl, run_takeDeferred hK, ?_⟩⟩
    refine ⟨.tuple #[], ?_, rfl, (hr.turn ht).mem, ?_⟩
    · simp [results, Tryd.f68, go_sem]
    · exact hm.turn ⟨ht.os, ht.tape, ht.output, ht.size, fun j hj hj2 => ht.old j (by omega) hj2, ht.cells⟩
  case stop =>
    rintro D c k W _ h _
    exact h.elim

theorem Turn.mono {B B' : Nat} {W W' : World} (h : Turn B W W') (hb : B' ≤ B) : Turn B' W W' := ⟨h.os, h.tape, h.output, h.size, fun k hk hk2 => h.old k (Nat.lt_of_lt_of_le hk hb) hk2, h.cells⟩
set_option maxRecDepth 100000 in
set_option maxHeartbeats 4000000 in
/-- Cut where nothing is dirty. -/
theorem mem_cut_clean {bm bs c : Nat} {l : List Sec} {w : World} (h : MemRep w bm bs c l) (hok : ∀ (i : Nat) (x : Sec), l[i]? = some x → x.dirty = false) (A : Option Addr) (pn pc : Nat) :
    Calls Tryd.prog 28 #[.pointer (some ⟨bm, 0, none⟩), .slice A pn pc] w fun e w' => e = .returned (.tuple #[]) ∧ MemRep w' bm bs c l ∧ Mod (fun _ => False) w w' := by
  have hro : Fence.wide.round = none := rfl
  have hm := h.hm.lt
  have hs := h.hs.lt
  have H := Aside0.mk h
  clear h
  refine (callsIn_wide (n := 5)).1 ?_
  refine callsIn_of_wp_marks Tryd.func28 rfl trivial ?_ hro
  simp only [Tryd.ntmps28, List.size_toArray, List.length_cons, List.length_nil, Nat.reduceAdd, Nat.reduceSub, Array.replicate_succ, Array.replicate_zero, List.push_toArray, List.append_toArray, List.nil_append, List.cons_append]
  gi_wp2_with (refine ⟨trivial, ?_⟩; gi_at_call 49; refine (callsIn_wide.2 (such_calls _ _)).mono ?_; rintro e w' ⟨rfl, rfl⟩)
  have hsz1 : (w.alloc (.cells #[.slice A pn pc] 28)).heap.size = w.heap.size + 1 := by simp
  obtain ⟨w1, hw1⟩ : ∃ w1, w.alloc (.cells #[.slice A pn pc] 28) = w1 := ⟨_, rfl⟩
  rw [hw1] at hsz1
  have hm1 : Mod (fun _ => False) w w1 := by rw [← hw1]; exact (Mod.refl _ _).alloc _
  have hr1 : MemRep w1 bm bs c l := by rw [← hw1]; exact H.out.below (below_alloc (Below.refl _ _) _)
  obtain ⟨w2, hw2⟩ : ∃ w2, (w1.alloc (.cells #[.pointer (some ⟨bm, 0, none⟩)] 66)).alloc (.cells #[.func (.func 50) #[] #[]] 105) = w2 := ⟨_, rfl⟩
  have hm2 : Mod (fun _ => False) w w2 := by rw [← hw2]; exact (hm1.alloc _).alloc _
  have hr2 : SuchRep w2 (w.heap.size + 1) (w.heap.size + 1 + 1) bm bs c l := by
    have b1 := (Blk.new w1 #[.pointer (some ⟨bm, 0, none⟩)] 66).alloc (.cells #[.func (.func 50) #[] #[]] 105)
    have b2 := Blk.new (w1.alloc (.cells #[.pointer (some ⟨bm, 0, none⟩)] 66)) #[.func (.func 50) #[] #[]] 105
    rw [World.size_alloc] at b2
    rw [hsz1] at b1 b2
    rw [← hw2]
    exact ⟨hr1.below (below_alloc (below_alloc (Below.refl _ _) _) _), b1, b2⟩
  have hsz : w2.heap.size = w.heap.size + 3 := by rw [← hw2]; simp [hsz1]
  rw [hw1, hw2]
  clear hw1 hw2
  refine wpIn_range_state hro (by omega) (gf := 69) (lb := #[.pointer (some ⟨w.heap.size + 1, 0, none⟩), .pointer (some ⟨w.heap.size + 1 + 1, 0, none⟩)]) rfl trivial (enters_of Tryd.func69 (by kernel_rfl) rfl) (fun _ => rfl)
    (fun (_ : Nat) W => SuchRep W (w.heap.size + 1) (w.heap.size + 1 + 1) bm bs c l ∧ Mod (fun _ => False) w W)
    (fun _ _ _ => False)
    (fun _ _ _ hi ht => ⟨hi.1.turn ht, hi.2.turn (ht.mono (by omega))⟩) (fun _ _ _ _ hi _ => hi)
    0 ⟨hr2, hm2⟩
    (such1_iter (5 - 1) (by omega) (fun _ => l) id (fun _ i => i + 1) _ _ bm bs c l.length _ 0 w2 (fun _ _ hi => hi.1) (fun _ => rfl) (fun _ _ => rfl) rfl H.out.small)
    (fun i => { tmps := #[.pointer (some ⟨bm, 0, none⟩), .slice A pn pc, undef, .pointer (some ⟨w.heap.size, 0, none⟩), undef, .pointer (some ⟨bs, i * 5, none⟩), undef, .pointer (some ⟨bm, 0, none⟩), .func (.func 69) #[] #[.pointer (some ⟨w.heap.size + 1, 0, none⟩), .pointer (some ⟨w.heap.size + 1 + 1, 0, none⟩)], .int .i64 i, .pointer (some ⟨bs, i * 5, none⟩), undef, undef, undef, undef, undef, undef, undef, undef, undef, undef, undef, undef, undef], defers := [] }) ?assign ?body ?done ?stop
  case assign =>
    intro l2 x W K hK
    gi_wp2
    exact hK
  case body =>
    rintro l2 k i W _ ⟨_, ⟨x, hx, hd⟩, _⟩
    rw [hok i x hx] at hd
    cases hd
  case done =>
    rintro D k W hD _ ⟨hr, hm⟩ hK
    gi_wp2
    have ht : Turn w2.heap.size W (W.putObj D (.deferred none)) := Turn.putObj _ hD hK rfl
    refine ⟨by simp, .inl ⟨_, _, rfl, run_takeDeferred hK, ?_⟩⟩
    refine ⟨.tuple #[], ?_, rfl, (hr.turn ht).mem, hm.turn (ht.mono (by omega))⟩
    simp [results, Tryd.f28, go_sem]
  case stop =>
    rintro D c k W _ h _
    exact h.elim
end Go.Proofs.YtcdgbdojopfkgaaDoor.P
