/- journal.records: the iterator over a bank. -/
import Derived.WalkKit
import Derived.OwnWalkIn
import Derived.TacticsInMore
import Derived.LoopNIn
import Derived.LoopIn
import Derived.Shelf.Abstract
import Derived.Shelf.RegionOpen
import Derived.RangeFuncBound
import Derived.Test.YtcdgbdojopfkgaaDoorRangeLay
import Derived.Test.YtcdgbdojopfkgaaDoorSecJ
import Derived.Test.YtcdgbdojopfkgaaDoorJourComp
namespace Go.Proofs.YtcdgbdojopfkgaaDoor.P
open Go.RowKit Go.Proofs.YtcdgbdojopfkgaaDoorW.PrintWords Go.Proofs.YtcdgbdojopfkgaaDoorW.PrintMore
attribute [local go_sem] Oper.semAt_some max2_int min2_int max_two min_two

/-- Join, to be reckoned. -/
def joinC (l : List ByteArray) : Joined := (sector_Join.f 70 l).getD (0, ⟨#[]⟩, 0, 7)
theorem joinC_eq (l : List ByteArray) : joinC l = joinS l := by unfold joinC; rw [join_eq (by omega)]; rfl
theorem joinC_some (l : List ByteArray) : sector_Join.f 70 l = some (joinC l) := by rw [joinC_eq, join_eq (by omega)]
theorem goS_kinds (num left n : Int) : ∀ (l : List ByteArray) (i : Nat) (acc : ByteArray), goS num left n l i acc = (0, ⟨#[]⟩, 0, 7) ∨ ∃ a : ByteArray, a.size ≤ acc.size + 44 * l.length ∧ goS num left n l i acc = (num, a, n, 0)
  | [], _, acc => .inr ⟨acc, by simp, rfl⟩
  | s :: ss, i, acc => by
    rw [goS]
    split
    · rcases goS_kinds num left n ss (i + 1) (acc ++ (openS s).2.2.2.1) with h | ⟨a, h1, h2⟩
      · exact .inl h
      · refine .inr ⟨a, ?_, h2⟩
        have := openS_text s
        rw [ByteArray.size_append] at h1
        rw [List.length_cons]
        omega
    · exact .inl rfl
/-- What Join may answer. -/
structure JoinFit (l : List ByteArray) (q : Joined) : Prop where
  num0 : 0 ≤ q.1
  num1 : q.1 ≤ 4611686018427387904
  text : q.2.1.size ≤ 8008
  n0 : 0 ≤ q.2.2.1
  n1 : q.2.2.1 ≤ l.length
theorem joinC_fit (l : List ByteArray) : JoinFit l (joinC l) := by
  have none_ (e : Int) : JoinFit l (0, ⟨#[]⟩, 0, e) := ⟨Int.le_refl _, by show (0 : Int) ≤ _; omega, Nat.zero_le _, Int.le_refl _, Int.natCast_nonneg _⟩
  rw [joinC_eq]
  unfold joinS
  split
  · exact none_ _
  split
  · rename_i h
    obtain ⟨h1, h2, h3⟩ := openS_ok h.1
    have hg := good_left h.1
    have hn : 1 ≤ (openS (rdOf ByteArray.empty l 0)).1 ∧ (openS (rdOf ByteArray.empty l 0)).1 ≤ 4611686018427387904 := by rw [h3]; exact ⟨h2.2.1, h2.2.2.1⟩
    have hc := cnt_le (n := (openS (rdOf ByteArray.empty l 0)).2.2.1.toNat) (by omega)
    split
    · exact none_ _
    · rename_i h4
      generalize cnt (openS (rdOf ByteArray.empty l 0)).2.2.1.toNat = c at hc h4 ⊢
      rcases goS_kinds (openS (rdOf ByteArray.empty l 0)).1 (openS (rdOf ByteArray.empty l 0)).2.2.1 (c : Nat) (l.take c) 0 ⟨#[]⟩ with h | ⟨a, ha, h⟩
      · rw [h]; exact none_ _
      · rw [h]
        have : (l.take c).length ≤ c := by rw [List.length_take]; omega
        have e0 : (⟨#[]⟩ : ByteArray).size = 0 := rfl
        exact ⟨by omega, hn.2, by show a.size ≤ _; omega, Int.natCast_nonneg _, by show (c : Int) ≤ _; omega⟩
  · exact none_ _

/-- The next record of a bank behind 'used' sectors and number 'last'. -/
def recNext (l : List ByteArray) (p : Nat × Int) : Option (Nat × Int × ByteArray) :=
  if p.1 < l.length then
    (if (joinC (l.drop p.1)).2.2.2 ≠ 0 ∨ (joinC (l.drop p.1)).1 ≤ p.2 ∨ (joinC (l.drop p.1)).2.2.1 < 1 then none
     else some (p.1 + (joinC (l.drop p.1)).2.2.1.toNat, (joinC (l.drop p.1)).1, (joinC (l.drop p.1)).2.1))
  else none
/-- The records from there on. -/
def recsC (l : List ByteArray) : Nat → Nat × Int → List (Nat × Int × ByteArray)
  | 0, _ => []
  | f + 1, p => match recNext l p with
    | none => []
    | some x => x :: recsC l f (x.1, x.2.1)
theorem recNext_lt {l : List ByteArray} {p : Nat × Int} {x : Nat × Int × ByteArray} (h : recNext l p = some x) : p.1 < x.1 ∧ x.1 ≤ l.length ∧ p.2 < x.2.1 ∧ x.2.1 ≤ 4611686018427387904 ∧ x.2.2.size ≤ 8008 ∧ 0 ≤ x.2.1 := by
  unfold recNext at h
  split at h
  · rename_i h1
    have hf := joinC_fit (l.drop p.1)
    obtain ⟨f1, f2, f3, f4, f5⟩ := hf
    rw [List.length_drop] at f5
    generalize joinC (l.drop p.1) = q at h f1 f2 f3 f4 f5
    split at h
    · cases h
    · rename_i h2
      cases h
      simp only [not_or] at h2
      have h3 := h2.2.1
      have h4 := h2.2.2
      refine ⟨?_, ?_, ?_, f2, f3, f1⟩
      · show p.1 < p.1 + q.2.2.1.toNat
        omega
      · show p.1 + q.2.2.1.toNat ≤ l.length
        omega
      · show p.2 < q.1
        omega
  · cases h
theorem recNext_bad {l : List ByteArray} {k : Nat} {z q1 q3 q4 : Int} {q2 : ByteArray} (hq : joinC (l.drop k) = (q1, q2, q3, q4)) (h : q4 ≠ 0 ∨ q1 ≤ z ∨ q3 < 1) : recNext l (k, z) = none := by
  unfold recNext
  split
  · show (if (joinC (l.drop k)).2.2.2 ≠ 0 ∨ (joinC (l.drop k)).1 ≤ z ∨ (joinC (l.drop k)).2.2.1 < 1 then _ else _) = none
    rw [hq, if_pos h]
  · rfl
theorem recNext_good {l : List ByteArray} {k : Nat} {z q1 q3 q4 : Int} {q2 : ByteArray} (hk : k < l.length) (hq : joinC (l.drop k) = (q1, q2, q3, q4)) (h4 : q4 = 0) (h1 : ¬ q1 ≤ z) (h3 : ¬ q3 < 1) : recNext l (k, z) = some (k + q3.toNat, q1, q2) := by
  unfold recNext
  rw [if_pos hk]
  show (if (joinC (l.drop k)).2.2.2 ≠ 0 ∨ (joinC (l.drop k)).1 ≤ z ∨ (joinC (l.drop k)).2.2.1 < 1 then none else some (k + (joinC (l.drop k)).2.2.1.toNat, (joinC (l.drop k)).1, (joinC (l.drop k)).2.1)) = _
  rw [hq, if_neg (by simp only [not_or]; exact ⟨fun h => h h4, h1, h3⟩)]

/-- What an iterator over a bank reads. -/
structure RecRep (W : World) (b : Nat) (A : Option Addr) (c : Nat) (l : List ByteArray) : Prop where
  box : Blk W b [.slice A l.length c]
  row : Kd.C Kd.string W A l.length l
  cap : l.length ≤ c

set_option maxRecDepth 100000 in
theorem records_calls (A : Option Addr) (n c : Nat) (w : World) :
    Calls Tryd.prog 33 #[.slice A n c] w fun e w' => e = .returned (.func (.func 54) #[] #[.pointer (some ⟨w.heap.size, 0, none⟩)]) ∧ w' = w.alloc (.cells #[.slice A n c] 38 (0, 0)) := by
  go_enter Tryd.func33, Tryd.ntmps33
  go_wp2
  go_ret
  exact ⟨rfl, rfl⟩

set_option maxRecDepth 100000 in
set_option maxHeartbeats 4000000 in
theorem records1_iter {σ : Type} (n : Nat) (hn : 1 ≤ n) (pos : σ → Nat × Int) (next : σ → Nat × Int × ByteArray → σ) (b : Nat) (A : Option Addr) (c : Nat) (l : List ByteArray) (I : σ → World → Prop) (s0 : σ) (w : World)
    (hI : ∀ s W, I s W → RecRep W b A c l) (hnext : ∀ s x, pos (next s x) = (x.1, x.2.1)) (h0 : pos s0 = (0, 0)) (hN4 : l.length ≤ 4096) :
    IterGives Fence.wide n Tryd.prog 54 #[.pointer (some ⟨b, 0, none⟩)] (fun x : Nat × Int × ByteArray => #[.int .i64 x.1, .agg #[.int .i64 x.2.1, .string x.2.2]])
      (fun s x => recNext l (pos s) = some x) next (fun s => recNext l (pos s) = none) I s0 w := by
  intro lp J Jx W _ hJI hJb hY hJ0
  refine callsIn_wide.2 ?_
  have hi0 := hI _ _ (hJI _ _ hJ0)
  show Calls Tryd.prog _ #[.func (.yield lp) #[] #[], .pointer (some ⟨b, 0, none⟩)] W _
  have HJ0 := Aside0.mk hJ0
  clear hJ0 hi0
  go_enter Tryd.func54, Tryd.ntmps54
  go_wp2
  go_loopw [3, 4] (fun u la wr => ∃ (k : Nat) (z : Int) (s : σ), u = .int .i64 k ∧ la = .int .i64 z ∧ k ≤ l.length ∧ Aside0 (pos s = (k, z)) ∧ Aside0 (J s wr)) (fun u _ _ => l.length - (intOf u).toNat)
  case atStart => exact ⟨0, 0, s0, rfl, rfl, Nat.zero_le _, ⟨h0⟩, HJ0⟩
  case round =>
    obtain ⟨k, z, s, rfl, rfl, hk, HP, HJ⟩ := hrel
    clear HJ0
    have hi1 := hI _ _ (hJI _ _ HJ.out)
    have c1 := hi1.box.cell 0 rfl
    have HI := Aside0.mk hi1
    clear hi1
    by_cases hlt : k < l.length
    · have hlt2 : (k : Int) < (l.length : Int) := by omega
      have hkc : (k : Int) ≤ (c : Int) := by have := HI.out.cap; omega
      have hkn : (k : Int) ≤ (l.length : Int) := by omega
      have hk0 : (0 : Int) ≤ (k : Int) := by omega
      have hcl := HI.out.cap
      have hrow : Kd.C Kd.string wr (A.map (fun x => x.add k)) (l.drop k).length (l.drop k) := by
        have := Kd.C_drop (c := c) HI.out.row hk hcl
        rw [if_neg (by omega)] at this
        simpa [Kd.string, Kd.scalar] using this
      obtain ⟨⟨q1, q2, q3, q4⟩, hq⟩ : ∃ q, joinC (l.drop k) = q := ⟨_, rfl⟩
      have hfit := joinC_fit (l.drop k)
      rw [hq] at hfit
      obtain ⟨f1, f2, f3, f4, f5⟩ := hfit
      have hjoin := sector_Join.calls 70 (A.map (fun x => x.add k)) (c - k) (l.drop k) q1 q2 q3 q4 wr hrow (by rw [List.length_drop]; omega) (by rw [joinC_some, hq])
      rw [List.length_drop] at hjoin f5
      have hck : k < c := by omega
      have hck2 : ¬ c = k := by omega
      have hck3 : ¬ c - k = 0 := by omega
      have hck4 : ¬ c ≤ k := by omega
      have HQ := Aside0.mk hq
      clear hq hrow
      dsimp only at f1 f2 f3 f4 f5
      go_wp2_with fail
      refine hjoin.mono ?_
      rintro e w2 ⟨rfl, hb⟩
      have HJ2 := Aside0.mk (hJb s _ _ HJ.out hb)
      clear hjoin hb c1 HI HJ
      by_cases hbad : q4 ≠ 0 ∨ q1 ≤ z ∨ q3 < 1
      · have hnone : recNext l (k, z) = none := recNext_bad HQ.out hbad
        have HNO := Aside0.mk hnone
        have HB := Aside0.mk hbad
        clear hnone hbad
        by_cases h4 : q4 = 0
        · have t4 : (q4 != 0) = false := by rw [h4]; rfl
          by_cases h1 : q1 ≤ z
          · have t1 : decide (q1 ≤ z) = true := decide_eq_true h1
            go_wp2
            refine bodyPost_ret (results_none rfl _ _ _) rfl ?_
            exact ⟨⟨_, rfl⟩, .inl ⟨s, by rw [HP.out]; exact HNO.out, HJ2.out⟩⟩
          · have t1 : decide (q1 ≤ z) = false := decide_eq_false h1
            have h3 : q3 < 1 := by have := HB.out; omega
            have t3 : decide (q3 < 1) = true := decide_eq_true h3
            go_wp2
            refine bodyPost_ret (results_none rfl _ _ _) rfl ?_
            exact ⟨⟨_, rfl⟩, .inl ⟨s, by rw [HP.out]; exact HNO.out, HJ2.out⟩⟩
        · have t4 : (q4 != 0) = true := bne_iff_ne.mpr h4
          go_wp2
          refine bodyPost_ret (results_none rfl _ _ _) rfl ?_
          exact ⟨⟨_, rfl⟩, .inl ⟨s, by rw [HP.out]; exact HNO.out, HJ2.out⟩⟩
      · simp only [not_or, Decidable.not_not] at hbad
        obtain ⟨h4, h1, h3⟩ := hbad
        have hgood := recNext_good hlt HQ.out h4 h1 h3
        obtain ⟨m, hm⟩ : ∃ m : Nat, q3 = (m : Int) := ⟨q3.toNat, by omega⟩
        rw [show k + q3.toNat = k + m by omega] at hgood
        have t4 : (q4 != 0) = false := by rw [h4]; rfl
        have t1 : decide (q1 ≤ z) = false := decide_eq_false h1
        have t3 : decide (q3 < 1) = false := decide_eq_false h3
        have hw : IntKind.i64.wrap ((k : Int) + q3) = ((k + m : Nat) : Int) := by rw [IntKind.wrap_i64]; omega
        have hkm : k + m ≤ l.length := by omega
        have hkm2 : k < k + m := by omega
        obtain ⟨fn, tmps, assign, body, hy, hRd⟩ := hY s (k + m, q1, q2) _ HJ2.out (by rw [HP.out]; exact hgood)
        have HG := Aside0.mk (And.intro hgood (And.intro hkm hkm2))
        clear hgood hkm hkm2 hm hY
        dsimp only at hy
        rw [Int.natCast_add] at hy
        go_upto_region 5 with (fail)
        refine (wpIn_wide (n := n)).1 ?_
        gi_wp2
        refine hRd.mono ?_
        rintro e w8 (⟨rfl, hJ8⟩ | ⟨rfl, hJx8⟩)
        · have HJ8 := Aside0.mk hJ8
          clear hJ8 hy hRd
          gi_wp2
          go_wp2
          go_roundw
          case rel => exact ⟨k + m, q1, next s (k + m, q1, q2), by rw [Int.natCast_add], rfl, HG.out.2.1, ⟨by rw [hnext]⟩, HJ8⟩
          case measure => have := HG.out.2; simp only [intOf]; omega
        · have HJ8 := Aside0.mk hJx8
          clear hJx8 hy hRd
          gi_wp2
          go_wp2
          refine bodyPost_ret (results_none rfl _ _ _) rfl ?_
          exact ⟨⟨_, rfl⟩, .inr ⟨_, HJ8.out⟩⟩
    · have hge : ¬ (k : Int) < (l.length : Int) := by omega
      go_wp2
      go_end0
      exact ⟨⟨_, rfl⟩, .inl ⟨s, by rw [HP.out]; unfold recNext; rw [if_neg hlt], HJ.out⟩⟩
end Go.Proofs.YtcdgbdojopfkgaaDoor.P
