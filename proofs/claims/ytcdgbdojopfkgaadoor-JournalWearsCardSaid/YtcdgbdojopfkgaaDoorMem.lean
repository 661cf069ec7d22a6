/- The package memory, walked: at, Len, Read, Write, Wear, isDirty, settle. -/
import Derived.Lib.Hide
import Derived.Outline
import Derived.BigQuiet
import Derived.BigRegion
import Derived.Deep.RegionHeld3
import Derived.Test.YtcdgbdojopfkgaaDoorDevPure
namespace Go.Proofs.YtcdgbdojopfkgaaDoor.P
open Go.RowKit Go.Proofs.YtcdgbdojopfkgaaDoorW.PrintWords Go.Proofs.YtcdgbdojopfkgaaDoorW.PrintMore

/-- A memory whose struct is block bm and whose sectors are block bs. -/
structure MemRep (w : World) (bm bs c : Nat) (l : List Sec) : Prop where
  hm : Blk w bm [.slice (some ⟨bs, 0, none⟩) l.length c]
  hs : Blk w bs (secCells l)
  ne : bm ≠ bs
  le : l.length ≤ c
  small : l.length ≤ 4096
theorem MemRep.mod {S : Nat → Prop} {w w' : World} {bm bs c : Nat} {l : List Sec} (h : MemRep w bm bs c l) (hm : Mod S w w') (h1 : ¬ S bm) (h2 : ¬ S bs) : MemRep w' bm bs c l :=
  ⟨h.hm.mod hm h1, h.hs.mod hm h2, h.ne, h.le, h.small⟩
theorem MemRep.below {w w' : World} {bm bs c : Nat} {l : List Sec} (h : MemRep w bm bs c l) (hb : Below w.heap.size w w') : MemRep w' bm bs c l := ⟨h.hm.below hb, h.hs.below hb, h.ne, h.le, h.small⟩
theorem MemRep.cell {w : World} {bm bs c : Nat} {l : List Sec} (h : MemRep w bm bs c l) {i : Nat} {s : Sec} (hi : l[i]? = some s) (j : Nat) (hj : j < 5) {v : Value} (hv : s.cells[j]? = some v) : w.cell? ⟨bs, i * 5 + j, none⟩ = some v :=
  h.hs.cell _ ((secCells_get l i j s hi hj).trans hv)

set_option maxRecDepth 100000 in
theorem mem_at_in {bm bs c : Nat} {l : List Sec} {w : World} (h : MemRep w bm bs c l) (i : Nat) (hi : i < l.length) :
    Calls Tryd.prog 48 #[.pointer (some ⟨bm, 0, none⟩), .int .i64 i] w fun e w' => e = .returned (.pointer (some ⟨bs, i * 5, none⟩)) ∧ w' = w := by
  have hc := h.hm.cell 0 rfl
  have h4 := h.small
  have hi2 : (i : Int) < (l.length : Int) := by omega
  clear h
  go_enter Tryd.func48, Tryd.ntmps48
  go_wp2
  go_ret
  exact ⟨by simp, rfl⟩
set_option maxRecDepth 100000 in
theorem mem_at_out {bm bs c : Nat} {l : List Sec} {w : World} (h : MemRep w bm bs c l) (i : Int) (hi : ¬ (0 ≤ i ∧ i < (l.length : Int))) :
    Calls Tryd.prog 48 #[.pointer (some ⟨bm, 0, none⟩), .int .i64 i] w fun e w' => e = .returned (.pointer none) ∧ w' = w := by
  have hc := h.hm.cell 0 rfl
  have h4 := h.small
  clear h
  by_cases h0 : i < 0
  · clear hi
    go_enter Tryd.func48, Tryd.ntmps48
    go_wp2
    go_ret
    exact ⟨rfl, rfl⟩
  · have h1 : ¬ i < (l.length : Int) := by omega
    have h2 : 0 ≤ i := by omega
    have h3 : (l.length : Int) ≤ i := by omega
    clear hi h0
    go_enter Tryd.func48, Tryd.ntmps48
    go_wp2
    go_ret
    exact ⟨rfl, rfl⟩
set_option maxRecDepth 100000 in
theorem mem_len {bm bs c : Nat} {l : List Sec} {w : World} (h : MemRep w bm bs c l) :
    Calls Tryd.prog 52 #[.pointer (some ⟨bm, 0, none⟩)] w fun e w' => e = .returned (.int .i64 l.length) ∧ w' = w := by
  have hc := h.hm.cell 0 rfl
  clear h
  go_enter Tryd.func52, Tryd.ntmps52
  go_wp2
  go_ret
  exact ⟨rfl, rfl⟩
set_option maxRecDepth 100000 in
theorem mem_isDirty {bm bs c : Nat} {l : List Sec} {w : World} (h : MemRep w bm bs c l) (i : Nat) (s : Sec) (hi : l[i]? = some s) :
    Calls Tryd.prog 50 #[.pointer (some ⟨bs, i * 5, none⟩)] w fun e w' => e = .returned (.bool s.dirty) ∧ w' = w := by
  have hc := h.cell hi 3 (by decide) rfl
  clear h
  go_enter Tryd.func50, Tryd.ntmps50
  go_wp2
  go_ret
  exact ⟨rfl, rfl⟩
/-- What Read returns. -/
def readOf (l : List Sec) (i : Int) : ByteArray × Int := if 0 ≤ i ∧ i < (l.length : Int) then (match l[i.toNat]? with | some s => if s.dirty then s.fresh else s.now | none => ⟨#[]⟩, 0) else (⟨#[]⟩, 1)
set_option maxRecDepth 100000 in
theorem mem_read {bm bs c : Nat} {l : List Sec} {w : World} (h : MemRep w bm bs c l) (i : Int) :
    Calls Tryd.prog 53 #[.pointer (some ⟨bm, 0, none⟩), .int .i64 i] w fun e w' => e = .returned (.tuple #[.string (readOf l i).1, .int .i64 (readOf l i).2]) ∧ w' = w := by
  by_cases hi : 0 ≤ i ∧ i < (l.length : Int)
  · obtain ⟨n, rfl⟩ : ∃ n : Nat, i = n := ⟨i.toNat, by omega⟩
    have hn : n < l.length := by omega
    obtain ⟨s, hs⟩ : ∃ s, l[n]? = some s := ⟨l[n], List.getElem?_eq_getElem hn⟩
    have hat := mem_at_in h n hn
    have hr : readOf l n = (if s.dirty then s.fresh else s.now, 0) := by unfold readOf; rw [if_pos hi, Int.toNat_natCast, hs]
    rw [hr]
    have c0 : w.cell? ⟨bs, n * 5, none⟩ = some (.string s.now) := h.cell hs 0 (by decide) rfl
    have c2 := h.cell hs 2 (by decide) rfl
    have c3 := h.cell hs 3 (by decide) rfl
    clear h hr hi
    cases hd : s.dirty with
    | true =>
      rw [hd] at c3
      go_enter Tryd.func53, Tryd.ntmps53
      go_wp2_with fail
      refine hat.mono ?_
      rintro e w' ⟨rfl, rfl⟩
      go_wp2
      go_ret2
      exact ⟨rfl, rfl⟩
    | false =>
      rw [hd] at c3
      go_enter Tryd.func53, Tryd.ntmps53
      go_wp2_with fail
      refine hat.mono ?_
      rintro e w' ⟨rfl, rfl⟩
      go_wp2
      go_ret2
      exact ⟨rfl, rfl⟩
  · have hat := mem_at_out h i hi
    have hr : readOf l i = (⟨#[]⟩, 1) := by unfold readOf; rw [if_neg hi]
    rw [hr]
    clear h hr hi
    go_enter Tryd.func53, Tryd.ntmps53
    go_wp2_with fail
    refine hat.mono ?_
    rintro e w' ⟨rfl, rfl⟩
    go_wp2
    go_wp2
    go_ret2
    exact ⟨rfl, rfl⟩
/-- What Write leaves, and its error. -/
def putSec (l : List Sec) (n : Nat) (text : ByteArray) : List Sec := match l[n]? with
  | some s => if s.worn then l else l.set n { s with fresh := text, dirty := true }
  | none => l
theorem putSec_at {l : List Sec} {n : Nat} {s : Sec} (h : l[n]? = some s) (text : ByteArray) : putSec l n text = if s.worn then l else l.set n { s with fresh := text, dirty := true } := by unfold putSec; rw [h]
theorem putSec_length (l : List Sec) (n : Nat) (text : ByteArray) : (putSec l n text).length = l.length := by
  unfold putSec
  split
  · split <;> simp
  · rfl
theorem MemRep.set2 {w : World} {bm bs c : Nat} {l : List Sec} (h : MemRep w bm bs c l) (n : Nat) (s s' : Sec) (j : Nat) (v : Value) (hs : l[n]? = some s) (hj : j < 5) (hv : s'.cells = s.cells.set j v) :
    MemRep (w.setCell ⟨bs, n * 5 + j, none⟩ v) bm bs c (l.set n s') := by
  refine ⟨?_, ?_, h.ne, by simp only [List.length_set]; exact h.le, by simp only [List.length_set]; exact h.small⟩
  · rw [List.length_set]; exact h.hm.far h.ne v
  · have := h.hs.set (n * 5 + j) v
    rwa [secCells_set l n j s s' v hs hj hv] at this
set_option maxRecDepth 100000 in
theorem mem_write {bm bs c : Nat} {l : List Sec} {w : World} (h : MemRep w bm bs c l) (n : Nat) (text : ByteArray) (hn : n < l.length) (hsz : text.size = 64) :
    Calls Tryd.prog 67 #[.pointer (some ⟨bm, 0, none⟩), .int .i64 n, .string text] w fun e w' => e = .returned (.int .i64 0) ∧ MemRep w' bm bs c (putSec l n text) ∧ Mod (fun k => k = bs) w w' := by
  obtain ⟨s, hs⟩ : ∃ s, l[n]? = some s := ⟨l[n], List.getElem?_eq_getElem hn⟩
  have hat := mem_at_in h n hn
  rw [putSec_at hs]
  have c4 := h.cell hs 4 (by decide) rfl
  have H := Aside0.mk h
  clear h
  cases hw : s.worn with
  | true =>
    rw [hw] at c4
    rw [if_pos rfl]
    go_enter Tryd.func67, Tryd.ntmps67
    go_wp2_with fail
    refine hat.mono ?_
    rintro e w' ⟨rfl, rfl⟩
    go_wp2
    go_ret
    exact ⟨rfl, H.out, Mod.refl _ _⟩
  | false =>
    rw [hw] at c4
    rw [if_neg (by simp)]
    have c2 := H.out.cell hs 2 (by decide) rfl
    have c3 := H.out.cell hs 3 (by decide) rfl
    have f2 := H.out.hs.frozen (n * 5 + 2)
    have f3 := H.out.hs.frozen (n * 5 + 3)
    have HS := Aside0.mk hs
    clear hs
    go_enter Tryd.func67, Tryd.ntmps67
    go_wp2_with fail
    refine hat.mono ?_
    rintro e w' ⟨rfl, rfl⟩
    go_wp2
    go_ret
    refine ⟨rfl, ?_, ((Mod.refl (fun k => k = bs) _).at_ rfl _ _).at_ rfl _ _⟩
    have h1 := H.out.set2 n s { s with fresh := text } 2 (.string text) HS.out (by decide) rfl
    have h2 := h1.set2 n { s with fresh := text } { s with fresh := text, dirty := true } 3 (.bool true) (by rw [List.getElem?_set_self hn]) (by decide) rfl
    rw [List.set_set] at h2
    simpa only [hw] using h2
/-- What Wear leaves. -/
def wearSec (l : List Sec) (i : Int) : List Sec := if 0 ≤ i ∧ i < (l.length : Int) then (match l[i.toNat]? with | some s => l.set i.toNat { s with worn := true } | none => l) else l
def inMem (l : List Sec) (i : Int) : Int := if 0 ≤ i ∧ i < (l.length : Int) then 0 else 1
set_option maxRecDepth 100000 in
theorem mem_wear {bm bs c : Nat} {l : List Sec} {w : World} (h : MemRep w bm bs c l) (i : Int) :
    Calls Tryd.prog 27 #[.pointer (some ⟨bm, 0, none⟩), .int .i64 i] w fun e w' => e = .returned (.int .i64 (inMem l i)) ∧ MemRep w' bm bs c (wearSec l i) ∧ Mod (fun k => k = bs) w w' := by
  by_cases hi : 0 ≤ i ∧ i < (l.length : Int)
  · obtain ⟨n, rfl⟩ : ∃ n : Nat, i = n := ⟨i.toNat, by omega⟩
    have hn : n < l.length := by omega
    obtain ⟨s, hs⟩ : ∃ s, l[n]? = some s := ⟨l[n], List.getElem?_eq_getElem hn⟩
    have hat := mem_at_in h n hn
    have e1 : wearSec l n = l.set n { s with worn := true } := by unfold wearSec; rw [if_pos hi, Int.toNat_natCast, hs]
    have e2 : inMem l n = 0 := if_pos hi
    rw [e1, e2]
    have c4 := h.cell hs 4 (by decide) rfl
    have f4 := h.hs.frozen (n * 5 + 4)
    have H := Aside0.mk (h.set2 n s { s with worn := true } 4 (.bool true) hs (by decide) rfl)
    clear h hs e1 e2 hi
    go_enter Tryd.func27, Tryd.ntmps27
    go_wp2_with fail
    refine hat.mono ?_
    rintro e w' ⟨rfl, rfl⟩
    go_wp2
    go_ret
    exact ⟨rfl, H.out, (Mod.refl (fun k => k = bs) _).at_ rfl _ _⟩
  · have hat := mem_at_out h i hi
    have e1 : wearSec l i = l := if_neg hi
    have e2 : inMem l i = 1 := if_neg hi
    rw [e1, e2]
    have H := Aside0.mk h
    clear h e1 e2 hi
    go_enter Tryd.func27, Tryd.ntmps27
    go_wp2_with fail
    refine hat.mono ?_
    rintro e w' ⟨rfl, rfl⟩
    go_wp2
    go_ret
    exact ⟨rfl, H.out, Mod.refl _ _⟩
/-- What settle leaves of a sector. -/
def Sec.settle (s : Sec) (n : Nat) : Sec := if n = 0 then { s with fresh := ⟨#[]⟩, dirty := false } else { s with now := s.fresh.extract 0 n ++ s.now.extract n s.now.size, before := s.now, fresh := ⟨#[]⟩, dirty := false }
set_option maxRecDepth 100000 in
set_option maxHeartbeats 4000000 in
theorem sec_settle {bm bs c : Nat} {l : List Sec} {w : World} (h : MemRep w bm bs c l) (i : Nat) (s : Sec) (hs : l[i]? = some s) (n : Nat) (h1 : n ≤ s.fresh.size) (h2 : n ≤ s.now.size) (h3 : s.now.size ≤ 1000) (h4 : s.fresh.size ≤ 1000) :
    Calls Tryd.prog 51 #[.pointer (some ⟨bs, i * 5, none⟩), .int .i64 n] w fun e w' => e = .returned (.tuple #[]) ∧ MemRep w' bm bs c (l.set i (s.settle n)) ∧ Mod (fun k => k = bs) w w' := by
  have hn : i < l.length := (List.getElem?_eq_some_iff.1 hs).1
  have c0 : w.cell? ⟨bs, i * 5, none⟩ = some (.string s.now) := h.cell hs 0 (by decide) rfl
  have c1 := h.cell hs 1 (by decide) rfl
  have c2 := h.cell hs 2 (by decide) rfl
  have c3 := h.cell hs 3 (by decide) rfl
  have f0 : w.frozen? ⟨bs, i * 5, none⟩ = false := h.hs.frozen (i * 5)
  have f1 := h.hs.frozen (i * 5 + 1)
  have f2 := h.hs.frozen (i * 5 + 2)
  have f3 := h.hs.frozen (i * 5 + 3)
  have H := Aside0.mk h
  have HS := Aside0.mk hs
  clear h hs
  by_cases hz : n = 0
  · subst hz
    unfold Sec.settle
    rw [if_pos rfl]
    go_enter Tryd.func51, Tryd.ntmps51
    go_wp2
    go_end0
    refine ⟨rfl, ?_, ((Mod.refl (fun k => k = bs) _).at_ rfl _ _).at_ rfl _ _⟩
    have k1 := H.out.set2 i s { s with fresh := ⟨#[]⟩ } 2 (.string ⟨#[]⟩) HS.out (by decide) rfl
    have k2 := k1.set2 i { s with fresh := ⟨#[]⟩ } { s with fresh := ⟨#[]⟩, dirty := false } 3 (.bool false) (by rw [List.getElem?_set_self hn]) (by decide) rfl
    rw [List.set_set] at k2
    exact k2
  · have hz1 : (0 : Int) < (n : Int) := by omega
    have hz2 : 0 < n := by omega
    have hz3 : (n : Int) ≤ (s.fresh.size : Int) := by omega
    have hz4 : (n : Int) ≤ (s.now.size : Int) := by omega
    unfold Sec.settle
    rw [if_neg hz]
    go_enter Tryd.func51, Tryd.ntmps51
    go_wp2
    go_region
    go_wp2
    go_end0
    refine ⟨rfl, ?_, (((((Mod.refl (fun k => k = bs) _).at_ rfl _ _).at_ rfl _ _).at_ rfl _ _).at_ rfl _ _).drew⟩
    have k0 := H.out.set2 i s { s with now := s.fresh.extract 0 n ++ s.now.extract n s.now.size } 0 (.string (s.fresh.extract 0 n ++ s.now.extract n s.now.size)) HS.out (by decide) rfl
    have k1 := k0.set2 i { s with now := s.fresh.extract 0 n ++ s.now.extract n s.now.size } { s with now := s.fresh.extract 0 n ++ s.now.extract n s.now.size, before := s.now } 1 (.string s.now) (by rw [List.getElem?_set_self hn]) (by decide) rfl
    rw [List.set_set] at k1
    have k2 := k1.set2 i { s with now := s.fresh.extract 0 n ++ s.now.extract n s.now.size, before := s.now } { s with now := s.fresh.extract 0 n ++ s.now.extract n s.now.size, before := s.now, fresh := ⟨#[]⟩ } 2 (.string ⟨#[]⟩) (by rw [List.getElem?_set_self hn]) (by decide) rfl
    rw [List.set_set] at k2
    have k3 := k2.set2 i { s with now := s.fresh.extract 0 n ++ s.now.extract n s.now.size, before := s.now, fresh := ⟨#[]⟩ } { s with now := s.fresh.extract 0 n ++ s.now.extract n s.now.size, before := s.now, fresh := ⟨#[]⟩, dirty := false } 3 (.bool false) (by rw [List.getElem?_set_self hn]) (by decide) rfl
    rw [List.set_set] at k3
    exact k3.mod (S := fun _ => False) (Mod.refl _ _).drew id id
end Go.Proofs.YtcdgbdojopfkgaaDoor.P
