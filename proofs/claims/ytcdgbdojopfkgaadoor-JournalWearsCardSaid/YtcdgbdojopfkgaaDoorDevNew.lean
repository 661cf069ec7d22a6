/- The package device, walked. -/
import Derived.Test.YtcdgbdojopfkgaaDoorMemIter
import Derived.Test.YtcdgbdojopfkgaaDoorMemNew
import Derived.StillTailTactics
import Derived.Test.YtcdgbdojopfkgaaDoorPx10
namespace Go.Proofs.YtcdgbdojopfkgaaDoor.P
open Go.RowKit Go.Proofs.YtcdgbdojopfkgaaDoorW.PrintWords Go.Proofs.YtcdgbdojopfkgaaDoorW.PrintMore
attribute [local go_sem] max2_int min2_int max_two min_two

/-- A device. -/
structure Dev where
  secs : List Sec
  slots : Value
  fuses : Value
  counter : Int
  clock : Int
  down : Bool
  left : Int
def Dev.cells (D : Dev) (bm : Nat) : List Value := [D.slots, D.fuses, .int .i64 D.counter, .int .i64 D.clock, .pointer (some ⟨bm, 0, none⟩), .bool D.down, .int .i64 D.left]
structure DevRep (w : World) (bd bm bs c : Nat) (D : Dev) : Prop where
  dev : Blk w bd (D.cells bm)
  mem : MemRep w bm bs c D.secs
  ne1 : bd ≠ bm
  ne2 : bd ≠ bs
  lo : -1 ≤ D.left
  hi : D.left ≤ 9223372036854775807
theorem DevRep.mod {S : Nat → Prop} {w w' : World} {bd bm bs c : Nat} {D : Dev} (h : DevRep w bd bm bs c D) (hm : Mod S w w') (h1 : ¬ S bd) (h2 : ¬ S bm) (h3 : ¬ S bs) : DevRep w' bd bm bs c D :=
  ⟨h.dev.mod hm h1, h.mem.mod hm h2 h3, h.ne1, h.ne2, h.lo, h.hi⟩
theorem DevRep.below {w w' : World} {bd bm bs c : Nat} {D : Dev} (h : DevRep w bd bm bs c D) (hb : Below w.heap.size w w') : DevRep w' bd bm bs c D := ⟨h.dev.below hb, h.mem.below hb, h.ne1, h.ne2, h.lo, h.hi⟩
theorem DevRep.withMem {S : Nat → Prop} {w w' : World} {bd bm bs c : Nat} {D : Dev} {l : List Sec} (h : DevRep w bd bm bs c D) (hm : Mod S w w') (h1 : ¬ S bd) (hr : MemRep w' bm bs c l) : DevRep w' bd bm bs c { D with secs := l } :=
  ⟨h.dev.mod hm h1, hr, h.ne1, h.ne2, h.lo, h.hi⟩
theorem DevRep.drew {w : World} {bd bm bs c : Nat} {D : Dev} (h : DevRep w bd bm bs c D) : DevRep w.drew bd bm bs c D := h.below (Below.refl _ _).drew
/-- The blocks that a device may write. -/
def InDev (bd bs : Nat) (k : Nat) : Prop := k = bd ∨ k = bs

set_option maxRecDepth 100000 in
theorem dev_sectors {bd bm bs c : Nat} {D : Dev} {w : World} (h : DevRep w bd bm bs c D) :
    Calls Tryd.prog 29 #[.pointer (some ⟨bd, 0, none⟩)] w fun e w' => e = .returned (.int .i64 D.secs.length) ∧ w' = w := by
  have c4 := h.dev.cell 4 rfl
  have hl := mem_len h.mem
  clear h
  go_enter Tryd.func29, Tryd.ntmps29
  go_wp2_with fail
  refine hl.mono ?_
  rintro e w' ⟨rfl, rfl⟩
  go_wp2
  go_ret
  exact ⟨rfl, rfl⟩
def devRead (D : Dev) (i : Int) : ByteArray × Int := if D.down then (⟨#[]⟩, 14) else readOf D.secs i
set_option maxRecDepth 100000 in
theorem dev_read {bd bm bs c : Nat} {D : Dev} {w : World} (h : DevRep w bd bm bs c D) (i : Int) :
    Calls Tryd.prog 30 #[.pointer (some ⟨bd, 0, none⟩), .int .i64 i] w fun e w' => e = .returned (.tuple #[.string (devRead D i).1, .int .i64 (devRead D i).2]) ∧ w' = w := by
  have c4 := h.dev.cell 4 rfl
  have c5 := h.dev.cell 5 rfl
  have hr := mem_read h.mem i
  unfold devRead
  clear h
  cases hd : D.down with
  | true =>
    rw [hd] at c5
    rw [if_pos rfl]
    clear hr
    go_enter Tryd.func30, Tryd.ntmps30
    go_wp2
    go_ret2
    exact ⟨rfl, rfl⟩
  | false =>
    rw [hd] at c5
    rw [if_neg (by simp)]
    generalize readOf D.secs i = r at hr ⊢
    obtain ⟨r1, r2⟩ := r
    go_enter Tryd.func30, Tryd.ntmps30
    go_wp2_with fail
    refine hr.mono ?_
    rintro e w' ⟨rfl, rfl⟩
    go_wp2
    go_ret2
    exact ⟨rfl, rfl⟩
set_option maxRecDepth 100000 in
theorem dev_wear {bd bm bs c : Nat} {D : Dev} {w : World} (h : DevRep w bd bm bs c D) (i : Int) :
    Calls Tryd.prog 13 #[.pointer (some ⟨bd, 0, none⟩), .int .i64 i] w fun e w' => e = .returned (.int .i64 (inMem D.secs i)) ∧ DevRep w' bd bm bs c { D with secs := wearSec D.secs i } ∧ Mod (fun k => k = bs) w w' := by
  have c4 := h.dev.cell 4 rfl
  have hr := mem_wear h.mem i
  have H := Aside0.mk h
  clear h
  go_enter Tryd.func13, Tryd.ntmps13
  go_wp2_with fail
  refine hr.mono ?_
  rintro e w' ⟨rfl, hrep, hm⟩
  have HR := Aside0.mk (H.out.withMem hm H.out.ne2 hrep)
  have HM := Aside0.mk hm
  clear hrep hm hr
  go_wp2
  go_ret
  exact ⟨rfl, HR.out, HM.out⟩
/-- What a step that goes on leaves of a device. -/
def Dev.tick (D : Dev) : Dev := { D with left := if D.left - 1 < -1 then -1 else D.left - 1 }
def Dev.fail_ (D : Dev) : Dev := { D with down := true, left := -1 }
theorem DevRep.setLeft {w : World} {bd bm bs c : Nat} {D : Dev} (h : DevRep w bd bm bs c D) (z : Int) (h1 : -1 ≤ z) (h2 : z ≤ 9223372036854775807) : DevRep (w.setCell ⟨bd, 6, none⟩ (.int .i64 z)) bd bm bs c { D with left := z } :=
  ⟨h.dev.set 6 (.int .i64 z), h.mem.mod ((Mod.refl (fun k => k = bd) w).at_ rfl _ _) (fun e => h.ne1 e.symm) (fun e => h.ne2 e.symm), h.ne1, h.ne2, h1, h2⟩
theorem DevRep.setDown {w : World} {bd bm bs c : Nat} {D : Dev} (h : DevRep w bd bm bs c D) (b : Bool) : DevRep (w.setCell ⟨bd, 5, none⟩ (.bool b)) bd bm bs c { D with down := b } :=
  ⟨h.dev.set 5 (.bool b), h.mem.mod ((Mod.refl (fun k => k = bd) w).at_ rfl _ _) (fun e => h.ne1 e.symm) (fun e => h.ne2 e.symm), h.ne1, h.ne2, h.lo, h.hi⟩
set_option maxRecDepth 100000 in
theorem step_down {bd bm bs c : Nat} {D : Dev} {w : World} (h : DevRep w bd bm bs c D) (check : Int) (f : Value) (hd : D.down = true) :
    Calls Tryd.prog 64 #[.pointer (some ⟨bd, 0, none⟩), .int .i64 check, f] w fun e w' => e = .returned (.int .i64 14) ∧ w' = w := by
  have c5 := h.dev.cell 5 rfl
  rw [hd] at c5
  clear h
  go_enter Tryd.func64, Tryd.ntmps64
  go_wp2
  go_ret
  exact ⟨rfl, rfl⟩
set_option maxRecDepth 100000 in
theorem step_check {bd bm bs c : Nat} {D : Dev} {w : World} (h : DevRep w bd bm bs c D) (check : Int) (f : Value) (hd : D.down = false) (hc : check ≠ 0) :
    Calls Tryd.prog 64 #[.pointer (some ⟨bd, 0, none⟩), .int .i64 check, f] w fun e w' => e = .returned (.int .i64 check) ∧ w' = w := by
  have c5 := h.dev.cell 5 rfl
  rw [hd] at c5
  have h1 : (check != 0) = true := by simpa using hc
  have h2 : (check == 0) = false := by simpa using hc
  clear h hc
  go_enter Tryd.func64, Tryd.ntmps64
  go_wp2
  go_ret
  exact ⟨rfl, rfl⟩
set_option maxRecDepth 100000 in
theorem step_fail {bd bm bs c : Nat} {D : Dev} {w : World} (h : DevRep w bd bm bs c D) (f : Value) (hd : D.down = false) (hl : D.left = 0) :
    Calls Tryd.prog 64 #[.pointer (some ⟨bd, 0, none⟩), .int .i64 0, f] w fun e w' => e = .returned (.int .i64 14) ∧ DevRep w' bd bm bs c D.fail_ ∧ Mod (fun k => k = bd) w w' := by
  have c5 := h.dev.cell 5 rfl
  have c6 := h.dev.cell 6 rfl
  have f5 := h.dev.frozen 5
  have f6 := h.dev.frozen 6
  rw [hd] at c5
  rw [hl] at c6
  have H := Aside0.mk ((h.setDown true).setLeft (-1) (by omega) (by omega))
  clear h
  go_enter Tryd.func64, Tryd.ntmps64
  go_wp2
  go_ret
  exact ⟨rfl, H.out, ((Mod.refl (fun k => k = bd) _).at_ rfl _ _).at_ rfl _ _⟩
set_option maxRecDepth 100000 in
theorem step_go {bd bm bs c : Nat} {D : Dev} {w : World} (h : DevRep w bd bm bs c D) (g : Nat) (xs lb : Array Value) (eg : ∀ args w, (callFunc g args).run Tryd.prog w = .ok (.enter g args) w) (hd : D.down = false) (hl : D.left ≠ 0) (R : World → Prop)
    (hdo : ∀ W, DevRep W bd bm bs c D.tick → Mod (fun k => k = bd) w W → Calls Tryd.prog g (xs ++ lb) W fun e W' => (∃ v, e = .returned v) ∧ R W') :
    Calls Tryd.prog 64 #[.pointer (some ⟨bd, 0, none⟩), .int .i64 0, .func (.func g) xs lb] w fun e w' => e = .returned (.int .i64 0) ∧ R w' := by
  have c5 := h.dev.cell 5 rfl
  have c6 := h.dev.cell 6 rfl
  have f6 := h.dev.frozen 6
  rw [hd] at c5
  have h1 : (D.left == 0) = false := by simpa using hl
  have lo := h.lo
  have hi := h.hi
  have hw : IntKind.i64.wrap (D.left - 1) = D.left - 1 := by rw [IntKind.wrap_i64]; omega
  have hcon := hdo _ (h.setLeft (if D.left - 1 < -1 then -1 else D.left - 1) (by split <;> omega) (by split <;> omega)) ((Mod.refl (fun k => k = bd) w).at_ rfl _ _)
  clear h hdo hl
  by_cases hlow : D.left - 1 < -1
  · rw [if_pos hlow] at hcon
    go_enter Tryd.func64, Tryd.ntmps64
    go_wp2_with fail
    refine hcon.mono ?_
    rintro e w' ⟨⟨v, rfl⟩, hR⟩
    have HR := Aside0.mk hR
    clear hR hcon
    go_wp2
    go_ret
    exact ⟨rfl, HR.out⟩
  · rw [if_neg hlow] at hcon
    have hlow2 : -1 ≤ D.left - 1 := by omega
    go_enter Tryd.func64, Tryd.ntmps64
    go_wp2_with fail
    refine hcon.mono ?_
    rintro e w' ⟨⟨v, rfl⟩, hR⟩
    have HR := Aside0.mk hR
    clear hR hcon
    go_wp2
    go_ret
    exact ⟨rfl, HR.out⟩
/-- What Write comes to. -/
def devWrite (D : Dev) (i : Int) (text : ByteArray) : Dev × Int :=
  if D.down then (D, 14)
  else if (0 ≤ i ∧ i < (D.secs.length : Int)) ∧ text.size = 64 then
    (if D.left = 0 then (D.fail_, 14) else ({ D.tick with secs := putSec D.secs i.toNat text }, 0))
  else (D, 1)
set_option maxRecDepth 100000 in
theorem write1 {bd bm bs c : Nat} {D : Dev} {w : World} (h : DevRep w bd bm bs c D) (n : Nat) (text : ByteArray) (hn : n < D.secs.length) (hs : text.size = 64) (b3 b4 b5 : Nat)
    (c3 : w.cell? ⟨b3, 0, none⟩ = some (.pointer (some ⟨bd, 0, none⟩))) (c4 : w.cell? ⟨b4, 0, none⟩ = some (.int .i64 n)) (c5 : w.cell? ⟨b5, 0, none⟩ = some (.string text)) :
    Calls Tryd.prog 66 #[.pointer (some ⟨b3, 0, none⟩), .pointer (some ⟨b4, 0, none⟩), .pointer (some ⟨b5, 0, none⟩)] w fun e w' => (∃ v, e = .returned v) ∧ DevRep w' bd bm bs c { D with secs := putSec D.secs n text } ∧ Mod (fun k => k = bs) w w' := by
  have k4 := h.dev.cell 4 rfl
  have hr := mem_write h.drew.mem n text hn hs
  have H := Aside0.mk h.drew
  clear h
  go_enter Tryd.func66, Tryd.ntmps66
  go_wp2
  go_still_tail 6, (by kernel_rfl)
  go_wp2_with fail
  refine hr.mono ?_
  rintro e w' ⟨rfl, hrep, hm⟩
  have HR := Aside0.mk (H.out.withMem hm H.out.ne2 hrep)
  have HM := Aside0.mk ((Mod.refl (fun k => k = bs) w).drew.trans hm)
  clear hrep hm hr
  go_wp2
  go_end0
  exact ⟨⟨_, rfl⟩, HR.out, HM.out⟩
theorem valid_true (w : World) : Calls Tryd.prog 65 #[.bool true] w fun e w' => e = .returned (.int .i64 0) ∧ w' = w := by
  go_enter Tryd.func65, Tryd.ntmps65
  go_wp2
  go_ret
  exact ⟨rfl, rfl⟩
theorem valid_false (w : World) : Calls Tryd.prog 65 #[.bool false] w fun e w' => e = .returned (.int .i64 1) ∧ w' = w := by
  go_enter Tryd.func65, Tryd.ntmps65
  go_wp2
  go_ret
  exact ⟨rfl, rfl⟩
/-- The three boxes of Write. -/
def boxes3 (w : World) (bd : Nat) (i : Int) (text : ByteArray) : World := ((w.alloc (.cells #[.pointer (some ⟨bd, 0, none⟩)] 24)).alloc (.cells #[.int .i64 i] 3)).alloc (.cells #[.string text] 9)
theorem boxes3_below (w : World) (bd : Nat) (i : Int) (text : ByteArray) : Below w.heap.size w (boxes3 w bd i text) := below_alloc (below_alloc (below_alloc (Below.refl _ _) _) _) _
theorem boxes3_cells (w : World) (bd : Nat) (i : Int) (text : ByteArray) : (boxes3 w bd i text).cell? ⟨w.heap.size, 0, none⟩ = some (.pointer (some ⟨bd, 0, none⟩)) ∧ (boxes3 w bd i text).cell? ⟨w.heap.size + 1, 0, none⟩ = some (.int .i64 i) ∧ (boxes3 w bd i text).cell? ⟨w.heap.size + 1 + 1, 0, none⟩ = some (.string text) := by
  have b1 := Blk.new w #[.pointer (some ⟨bd, 0, none⟩)] 24
  have b2 := Blk.new (w.alloc (.cells #[.pointer (some ⟨bd, 0, none⟩)] 24)) #[.int .i64 i] 3
  have b3 := Blk.new ((w.alloc (.cells #[.pointer (some ⟨bd, 0, none⟩)] 24)).alloc (.cells #[.int .i64 i] 3)) #[.string text] 9
  simp only [World.size_alloc] at b2 b3
  exact ⟨((b1.alloc _).alloc _).cell 0 rfl, (b2.alloc _).cell 0 rfl, b3.cell 0 rfl⟩
def StepSays (R : Int → World → Prop) (e : Ending) (w : World) : Prop := ∃ r : Int, e = .returned (.int .i64 r) ∧ R r w
end Go.Proofs.YtcdgbdojopfkgaaDoor.P

/- device.Write, walked. -/
namespace Go.Proofs.YtcdgbdojopfkgaaDoor.P
open Go.RowKit Go.Proofs.YtcdgbdojopfkgaaDoorW.PrintWords Go.Proofs.YtcdgbdojopfkgaaDoorW.PrintMore
attribute [local go_sem] max2_int min2_int max_two min_two

set_option maxRecDepth 100000 in
set_option maxHeartbeats 4000000 in
theorem write_walk {bd bm bs c : Nat} {D : Dev} {w : World} (h : DevRep w bd bm bs c D) (i : Int) (h0 : 0 ≤ i) (text : ByteArray) (chk : Int) (hchk : chk = if (0 ≤ i ∧ i < (D.secs.length : Int)) ∧ text.size = 64 then 0 else 1) (R : Int → World → Prop)
    (hst : Calls Tryd.prog 64 #[.pointer (some ⟨bd, 0, none⟩), .int .i64 chk, .func (.func 66) #[] #[.pointer (some ⟨w.heap.size, 0, none⟩), .pointer (some ⟨w.heap.size + 1, 0, none⟩), .pointer (some ⟨w.heap.size + 1 + 1, 0, none⟩)]] (boxes3 w bd i text).drew (StepSays R)) :
    Calls Tryd.prog 45 #[.pointer (some ⟨bd, 0, none⟩), .int .i64 i, .string text] w (StepSays R) := by
  obtain ⟨c3, c4, c5⟩ := boxes3_cells w bd i text
  have hd := (h.below (boxes3_below w bd i text)).drew
  have k4 : (boxes3 w bd i text).cell? ⟨bd, 4, none⟩ = some (.pointer (some ⟨bm, 0, none⟩)) := hd.dev.cell 4 rfl
  have hlen := mem_len hd.mem
  have hs4 := h.mem.small
  clear hd h
  have hb3 : boxes3 w bd i text = ((w.alloc (.cells #[.pointer (some ⟨bd, 0, none⟩)] 24)).alloc (.cells #[.int .i64 i] 3)).alloc (.cells #[.string text] 9) := rfl
  · have d0 : decide (0 ≤ i) = true := decide_eq_true h0
    by_cases h1 : i < (D.secs.length : Int)
    · have d1 : decide (i < (D.secs.length : Int)) = true := decide_eq_true h1
      by_cases h2 : text.size = 64
      · rw [if_pos ⟨⟨h0, h1⟩, h2⟩] at hchk
        subst hchk
        have e2 : (text.size : Int) = 64 := by omega
        have d2 : ((text.size : Int) == 64) = true := by rw [e2]; rfl
        clear h0 h1 h2
        go_enter Tryd.func45, Tryd.ntmps45
        go_wp2
        generalize ((w.alloc (.cells #[.pointer (some ⟨bd, 0, none⟩)] 24)).alloc (.cells #[.int .i64 i] 3)).alloc (.cells #[.string text] 9) = W at *
        rw [hb3] at c3 c4 c5 k4 hlen hst
        clear hb3 hs4
        refine wp_region_still_tail 19 (by kernel_rfl) (by kernel_rfl) ?_
        simp only [List.take_succ_cons, List.take_zero, List.drop_succ_cons, List.drop_zero]
        repeat still_step
        still_call (hlen)
        repeat still_step
        still_call (valid_true _)
        repeat still_step
        try refine wpStill_nil ?_
        go_wp2_with fail
        refine hst.mono ?_
        rintro e w' ⟨r, rfl, hR⟩
        have HR := Aside0.mk hR
        clear hR hst
        go_wp2
        go_ret
        exact ⟨r, rfl, HR.out⟩
      · rw [if_neg (fun z => h2 z.2)] at hchk
        subst hchk
        have e2 : ¬ (text.size : Int) = 64 := by omega
        have d2 : ((text.size : Int) == 64) = false := by simpa using e2
        clear h0 h1 h2
        go_enter Tryd.func45, Tryd.ntmps45
        go_wp2
        generalize ((w.alloc (.cells #[.pointer (some ⟨bd, 0, none⟩)] 24)).alloc (.cells #[.int .i64 i] 3)).alloc (.cells #[.string text] 9) = W at *
        rw [hb3] at c3 c4 c5 k4 hlen hst
        clear hb3 hs4
        refine wp_region_still_tail 19 (by kernel_rfl) (by kernel_rfl) ?_
        simp only [List.take_succ_cons, List.take_zero, List.drop_succ_cons, List.drop_zero]
        repeat still_step
        still_call (hlen)
        repeat still_step
        still_call (valid_false _)
        repeat still_step
        try refine wpStill_nil ?_
        go_wp2_with fail
        refine hst.mono ?_
        rintro e w' ⟨r, rfl, hR⟩
        have HR := Aside0.mk hR
        clear hR hst
        go_wp2
        go_ret
        exact ⟨r, rfl, HR.out⟩
    · have d1 : decide (i < (D.secs.length : Int)) = false := decide_eq_false h1
      rw [if_neg (fun z => h1 z.1.2)] at hchk
      subst hchk
      clear h0 h1
      go_enter Tryd.func45, Tryd.ntmps45
      go_wp2
      generalize ((w.alloc (.cells #[.pointer (some ⟨bd, 0, none⟩)] 24)).alloc (.cells #[.int .i64 i] 3)).alloc (.cells #[.string text] 9) = W at *
      rw [hb3] at c3 c4 c5 k4 hlen hst
      clear hb3 hs4
      refine wp_region_still_tail 19 (by kernel_rfl) (by kernel_rfl) ?_
      simp only [List.take_succ_cons, List.take_zero, List.drop_succ_cons, List.drop_zero]
      repeat still_step
      still_call (hlen)
      repeat still_step
      still_call (valid_false _)
      repeat still_step
      try refine wpStill_nil ?_
      go_wp2_with fail
      refine hst.mono ?_
      rintro e w' ⟨r, rfl, hR⟩
      have HR := Aside0.mk hR
      clear hR hst
      go_wp2
      go_ret
      exact ⟨r, rfl, HR.out⟩
theorem Mod.cell {S : Nat → Prop} {w w' : World} (h : Mod S w w') {a : Addr} {v : Value} (hc : w.cell? a = some v) (hn : ¬ S a.block) : w'.cell? a = some v :=
  (World.cell?_of_block (w := w) (h.block a.block (World.block_lt_of_cell? w a hc) hn)).trans hc
theorem InDev.left {bd bs k : Nat} (h : k = bd) : InDev bd bs k := .inl h
theorem InDev.right {bd bs k : Nat} (h : k = bs) : InDev bd bs k := .inr h
theorem dev_write {bd bm bs c : Nat} {D : Dev} {w : World} (h : DevRep w bd bm bs c D) (i : Int) (h0 : 0 ≤ i) (text : ByteArray) :
    Calls Tryd.prog 45 #[.pointer (some ⟨bd, 0, none⟩), .int .i64 i, .string text] w fun e w' => e = .returned (.int .i64 (devWrite D i text).2) ∧ DevRep w' bd bm bs c (devWrite D i text).1 ∧ Mod (InDev bd bs) w w' := by
  have hb := boxes3_below w bd i text
  have hd := (h.below hb).drew
  have hm0 : Mod (InDev bd bs) w (boxes3 w bd i text).drew := (Mod.of_below hb).drew
  have key : ∀ (chk : Int), chk = (if (0 ≤ i ∧ i < (D.secs.length : Int)) ∧ text.size = 64 then 0 else 1) → ∀ (r : Int) (D' : Dev), devWrite D i text = (D', r) →
      Calls Tryd.prog 64 #[.pointer (some ⟨bd, 0, none⟩), .int .i64 chk, .func (.func 66) #[] #[.pointer (some ⟨w.heap.size, 0, none⟩), .pointer (some ⟨w.heap.size + 1, 0, none⟩), .pointer (some ⟨w.heap.size + 1 + 1, 0, none⟩)]] (boxes3 w bd i text).drew (StepSays fun z w' => z = r ∧ DevRep w' bd bm bs c D' ∧ Mod (InDev bd bs) w w') →
      Calls Tryd.prog 45 #[.pointer (some ⟨bd, 0, none⟩), .int .i64 i, .string text] w fun e w' => e = .returned (.int .i64 (devWrite D i text).2) ∧ DevRep w' bd bm bs c (devWrite D i text).1 ∧ Mod (InDev bd bs) w w' := by
    intro chk hchk r D' hD hst
    refine (write_walk h i h0 text chk hchk _ hst).mono ?_
    rintro e w' ⟨z, rfl, rfl, h1, h2⟩
    rw [hD]
    exact ⟨rfl, h1, h2⟩
  cases hdn : D.down with
  | true =>
    refine key _ rfl 14 D (by unfold devWrite; rw [if_pos hdn]) ((step_down hd _ _ hdn).mono ?_)
    rintro e w' ⟨rfl, rfl⟩
    exact ⟨14, rfl, rfl, hd, hm0⟩
  | false =>
    have hnd : ¬ D.down = true := by rw [hdn]; simp
    by_cases hr : (0 ≤ i ∧ i < (D.secs.length : Int)) ∧ text.size = 64
    · obtain ⟨n, rfl⟩ : ∃ n : Nat, i = n := ⟨i.toNat, by omega⟩
      by_cases hl : D.left = 0
      · refine key 0 (if_pos hr).symm 14 D.fail_ (by unfold devWrite; rw [if_neg hnd, if_pos hr, if_pos hl]) ((step_fail hd _ hdn hl).mono ?_)
        rintro e w' ⟨rfl, h1, h2⟩
        exact ⟨14, rfl, rfl, h1, hm0.trans (h2.mono fun _ => InDev.left)⟩
      · refine key 0 (if_pos hr).symm 0 { D.tick with secs := putSec D.secs n text } (by unfold devWrite; rw [if_neg hnd, if_pos hr, if_neg hl]; rfl) ((step_go hd 66 #[] _ (enters_of Tryd.func66 (by kernel_rfl) rfl) hdn hl
          (fun w' => DevRep w' bd bm bs c { D.tick with secs := putSec D.secs n text } ∧ Mod (InDev bd bs) w w') ?_).mono ?_)
        · intro W hW hM
          obtain ⟨c3, c4, c5⟩ := boxes3_cells w bd n text
          have hlt : ∀ b, w.heap.size ≤ b → b ≠ bd := fun b hb e => by have := h.dev.lt; omega
          have k3 : W.cell? ⟨w.heap.size, 0, none⟩ = some (.pointer (some ⟨bd, 0, none⟩)) := hM.cell c3 (hlt _ (Nat.le_refl _))
          have k4 : W.cell? ⟨w.heap.size + 1, 0, none⟩ = some (.int .i64 n) := hM.cell c4 (hlt _ (by show _ ≤ w.heap.size + 1; omega))
          have k5 : W.cell? ⟨w.heap.size + 1 + 1, 0, none⟩ = some (.string text) := hM.cell c5 (hlt _ (by show _ ≤ w.heap.size + 1 + 1; omega))
          refine (write1 hW n text (by have := hr.1.2; show n < D.secs.length; omega) hr.2 _ _ _ k3 k4 k5).mono ?_
          rintro e w' ⟨hv, h1, h2⟩
          exact ⟨hv, h1, (hm0.trans (hM.mono fun _ => InDev.left)).trans (h2.mono fun _ => InDev.right)⟩
        · rintro e w' ⟨rfl, h1, h2⟩
          exact ⟨0, rfl, rfl, h1, h2⟩
    · refine key 1 (if_neg hr).symm 1 D (by unfold devWrite; rw [if_neg hnd, if_neg hr]) ((step_check hd 1 _ hdn (by decide)).mono ?_)
      rintro e w' ⟨rfl, rfl⟩
      exact ⟨1, rfl, rfl, hd, hm0⟩
end Go.Proofs.YtcdgbdojopfkgaaDoor.P

/- device.Flush, Mount, empty, Battery, New, walked. -/
namespace Go.Proofs.YtcdgbdojopfkgaaDoor.P
open Go.RowKit Go.Proofs.YtcdgbdojopfkgaaDoorW.PrintWords Go.Proofs.YtcdgbdojopfkgaaDoorW.PrintMore
attribute [local go_sem] max2_int min2_int max_two min_two

/-- What Flush comes to. -/
def devFlush (D : Dev) : Dev × Int := if D.down then (D, 14) else if D.left = 0 then (D.fail_, 14) else ({ D.tick with secs := D.secs.map flush1 }, 0)
set_option maxRecDepth 100000 in
theorem flush_walk {bd bm bs c : Nat} {D : Dev} {w : World} (h : DevRep w bd bm bs c D) (R : Int → World → Prop)
    (hst : Calls Tryd.prog 64 #[.pointer (some ⟨bd, 0, none⟩), .int .i64 0, .func (.func 68) #[.pointer (some ⟨bm, 0, none⟩)] #[]] w (StepSays R)) :
    Calls Tryd.prog 46 #[.pointer (some ⟨bd, 0, none⟩)] w (StepSays R) := by
  have c4 := h.dev.cell 4 rfl
  clear h
  go_enter Tryd.func46, Tryd.ntmps46
  go_wp2_with fail
  refine hst.mono ?_
  rintro e w' ⟨r, rfl, hR⟩
  have HR := Aside0.mk hR
  clear hR hst
  go_wp2
  go_ret
  exact ⟨r, rfl, HR.out⟩
theorem dev_flush {bd bm bs c : Nat} {D : Dev} {w : World} (h : DevRep w bd bm bs c D) (hok : SecsOk D.secs) :
    Calls Tryd.prog 46 #[.pointer (some ⟨bd, 0, none⟩)] w fun e w' => e = .returned (.int .i64 (devFlush D).2) ∧ DevRep w' bd bm bs c (devFlush D).1 ∧ Mod (InDev bd bs) w w' := by
  have key : ∀ (r : Int) (D' : Dev), devFlush D = (D', r) →
      Calls Tryd.prog 64 #[.pointer (some ⟨bd, 0, none⟩), .int .i64 0, .func (.func 68) #[.pointer (some ⟨bm, 0, none⟩)] #[]] w (StepSays fun z w' => z = r ∧ DevRep w' bd bm bs c D' ∧ Mod (InDev bd bs) w w') →
      Calls Tryd.prog 46 #[.pointer (some ⟨bd, 0, none⟩)] w fun e w' => e = .returned (.int .i64 (devFlush D).2) ∧ DevRep w' bd bm bs c (devFlush D).1 ∧ Mod (InDev bd bs) w w' := by
    intro r D' hD hst
    refine (flush_walk h _ hst).mono ?_
    rintro e w' ⟨z, rfl, rfl, h1, h2⟩
    rw [hD]
    exact ⟨rfl, h1, h2⟩
  cases hdn : D.down with
  | true =>
    refine key 14 D (by unfold devFlush; rw [if_pos hdn]) ((step_down h _ _ hdn).mono ?_)
    rintro e w' ⟨rfl, rfl⟩
    exact ⟨14, rfl, rfl, h, Mod.refl _ _⟩
  | false =>
    have hnd : ¬ D.down = true := by rw [hdn]; simp
    by_cases hl : D.left = 0
    · refine key 14 D.fail_ (by unfold devFlush; rw [if_neg hnd, if_pos hl]) ((step_fail h _ hdn hl).mono ?_)
      rintro e w' ⟨rfl, h1, h2⟩
      exact ⟨14, rfl, rfl, h1, h2.mono fun _ => InDev.left⟩
    · refine key 0 { D.tick with secs := D.secs.map flush1 } (by unfold devFlush; rw [if_neg hnd, if_neg hl]) ((step_go h 68 #[.pointer (some ⟨bm, 0, none⟩)] #[] (enters_of Tryd.func68 (by kernel_rfl) rfl) hdn hl
        (fun w' => DevRep w' bd bm bs c { D.tick with secs := D.secs.map flush1 } ∧ Mod (InDev bd bs) w w') ?_).mono ?_)
      · intro W hW hM
        refine (mem_flush hW.mem hok).mono ?_
        rintro e w' ⟨rfl, h1, h2⟩
        exact ⟨⟨_, rfl⟩, hW.withMem h2 hW.ne2 h1, (hM.mono fun _ => InDev.left).trans (h2.mono fun _ => InDev.right)⟩
      · rintro e w' ⟨rfl, h1, h2⟩
        exact ⟨0, rfl, rfl, h1, h2⟩
set_option maxRecDepth 100000 in
/-- Mount where nothing is dirty. -/
theorem dev_mount_clean {bd bm bs c : Nat} {D : Dev} {w : World} (h : DevRep w bd bm bs c D) (hok : ∀ (i : Nat) (x : Sec), D.secs[i]? = some x → x.dirty = false) (A : Option Addr) (pn pc : Nat) :
    Calls Tryd.prog 16 #[.pointer (some ⟨bd, 0, none⟩), .slice A pn pc] w fun e w' => e = .returned (.tuple #[]) ∧ DevRep w' bd bm bs c { D with down := false, left := -1 } ∧ Mod (fun k => k = bd) w w' := by
  have c4 := h.dev.cell 4 rfl
  have hcut := mem_cut_clean h.mem hok A pn pc
  have H := Aside0.mk h
  clear h
  go_enter Tryd.func16, Tryd.ntmps16
  go_wp2_with fail
  refine hcut.mono ?_
  rintro e w' ⟨rfl, hrep, hm⟩
  have hd := H.out.mod hm id id id
  have c5 := hd.dev.cell 5 rfl
  have c6 := hd.dev.cell 6 rfl
  have f5 := hd.dev.frozen 5
  have f6 := hd.dev.frozen 6
  have HD := Aside0.mk ((hd.setDown false).setLeft (-1) (by omega) (by omega))
  have HM := Aside0.mk (hm.mono (S' := fun k => k = bd) (fun _ h => h.elim))
  clear hd hcut hrep hm
  go_wp2
  go_end0
  exact ⟨rfl, HD.out, (HM.out.at_ rfl _ _).at_ rfl _ _⟩
theorem dev_empty (w : World) : Calls Tryd.prog 62 #[] w fun e w' => e = .returned (.string (same_ 0 32)) ∧ Below w.heap.size w w' := by
  have hr := repeat_one 0 32 (by omega) w
  have HR := Aside0.mk hr
  clear hr
  go_enter Tryd.func62, Tryd.ntmps62
  go_wp2_with fail
  refine HR.out.mono ?_
  rintro e w' ⟨rfl, hb⟩
  go_wp2
  go_ret
  exact ⟨rfl, hb⟩
def strCells (l : List ByteArray) : List Value := l.map Value.string
theorem strCells_get (l : List ByteArray) (i : Nat) : (strCells l)[i]? = (l[i]?).map Value.string := by unfold strCells; rw [List.getElem?_map]
theorem strCells_step (z : ByteArray) (ss : List ByteArray) (k : Nat) (hk : k < ss.length) : (strCells (List.replicate k z ++ ss.drop k)).set k (.string z) = strCells (List.replicate (k + 1) z ++ ss.drop (k + 1)) := by
  unfold strCells
  rw [← List.map_set, List.set_append_right _ _ (by simp), List.length_replicate, Nat.sub_self, List.drop_eq_getElem_cons hk, List.set_cons_zero, List.replicate_succ', List.append_assoc]
  rfl
set_option maxRecDepth 100000 in
set_option maxHeartbeats 4000000 in
theorem dev_battery {bd bm bs c bl n : Nat} {D : Dev} {w : World} (h : DevRep w bd bm bs c D) (hsl : D.slots = .slice (some ⟨bl, 0, none⟩) n n) (hn : n ≤ 16) (ss : List ByteArray) (hss : ss.length = n) (hbl : Blk w bl (strCells ss)) (n1 : bl ≠ bd) (n2 : bl ≠ bm) (n3 : bl ≠ bs) :
    Calls Tryd.prog 42 #[.pointer (some ⟨bd, 0, none⟩)] w fun e w' => e = .returned (.tuple #[]) ∧ Blk w' bl (strCells (List.replicate n (same_ 0 32))) ∧ Mod (fun k => k = bl) w w' := by
  have c0 := h.dev.cell 0 rfl
  rw [hsl] at c0
  have H := Aside0.mk h
  have HL := Aside0.mk hbl
  clear h hbl
  go_enter Tryd.func42, Tryd.ntmps42
  go_wp2
  clear c0
  go_loopw [9] (fun i wr => ∃ k : Nat, i = .int .i64 k ∧ k ≤ n ∧ Aside0 (Blk wr bl (strCells (List.replicate k (same_ 0 32) ++ ss.drop k))) ∧ Aside0 (Mod (fun k => k = bl) w wr)) (fun i _ => n - (intOf i).toNat)
  case atStart => exact ⟨0, rfl, Nat.zero_le _, by simpa using HL, ⟨Mod.refl _ _⟩⟩
  case round =>
    obtain ⟨k, rfl, hk, HB, HM⟩ := hrel
    by_cases hlt : k < n
    · have hlt2 : (k : Int) < (n : Int) := by omega
      have hp : 0 ≤ (k : Int) := by omega
      have hd := H.out.mod HM.out (fun e => n1 e.symm) (fun e => n2 e.symm) (fun e => n3 e.symm)
      have c0 := hd.dev.cell 0 rfl
      rw [hsl] at c0
      have hbd := hd.dev.lt
      have hbl2 := HB.out.lt
      clear hd
      have hkl : (List.replicate k (same_ 0 32) ++ ss.drop k)[k]? = some (ss[k]'(by omega)) := by
        rw [List.getElem?_append_right (by simp), List.length_replicate, Nat.sub_self, List.getElem?_drop, Nat.add_zero, List.getElem?_eq_getElem]
      have cl : wr.cell? ⟨bl, k, none⟩ = some (.string (ss[k]'(by omega))) := HB.out.cell k (by rw [strCells_get, hkl]; rfl)
      have fl := HB.out.frozen k
      go_wp2
      go_region_with (go_at_call 62; refine (dev_empty _).mono ?_; rintro e w2 ⟨rfl, hb⟩; have c02 := (hb.cell (p := ⟨bd, 0, none⟩) hbd).trans c0; have cl2 := (hb.cell (p := ⟨bl, k, none⟩) hbl2).trans cl; have fl2 := (hb.frozen (p := ⟨bl, k, none⟩) hbl2).trans fl)
      all_goals
        have hb2 : Below wr.heap.size wr w2 := (Below.refl _ wr).drew.trans hb
        have hset := (HB.out.below hb2).set k (.string (same_ 0 32))
        rw [strCells_step (same_ 0 32) ss k (by omega)] at hset
        have HS := Aside0.mk hset
        have HM2 := Aside0.mk ((HM.out.below_ hb2).at_ (g := bl) rfl k (.string (same_ 0 32)))
        clear hb hb2 c02 cl2 fl2 c0 cl fl hset HB HM
        generalize w2.setCell ⟨bl, k, none⟩ (.string (same_ 0 32)) = w3 at HS HM2 ⊢
        go_wp2
        go_roundw
        case rel => exact ⟨k + 1, by first | rfl | go_num, by omega, HS, HM2⟩
        case measure => simp [intOf]; omega
    · have hge : ¬ (k : Int) < (n : Int) := by omega
      go_wp2
      go_end0
      obtain rfl : k = n := by omega
      have hb := HB.out
      rw [List.drop_eq_nil_of_le (by omega), List.append_nil] at hb
      exact ⟨rfl, hb, HM.out⟩
theorem made_one (z : Value) (n : Nat) : madeCells #[z] n = Array.replicate n z := by
  apply Array.ext
  · simp [size_madeCells]
  · intro i h1 h2
    simp [madeCells, Nat.mod_one]
theorem infoStr' : (Tryd.prog.info? 9).map (fun i => (i.zero, i.size, i.bytes)) = some (some (.string ⟨#[]⟩), 1, 16) := by kernel_rfl
theorem infoBool' : (Tryd.prog.info? 4).map (fun i => (i.zero, i.size, i.bytes)) = some (some (.bool false), 1, 1) := by kernel_rfl
theorem str_makeRow (n : Nat) (hn : n ≤ 4096) : ∀ w : World, (Instr.makeSlice 38 (.int .i64 (n : Int)) (.int .i64 (n : Int))).run Tryd.prog w = .ok (.slice (some ⟨w.heap.size, 0, none⟩) n n) (w.alloc (.cells (Array.replicate n (.string ⟨#[]⟩)) 9)) := fun w => by
  obtain ⟨i, hi, hz, h5, h56⟩ := info_parts infoStr'
  have := run_make (P := Tryd.prog) w 38 9 i _ Tryd.underlying38 hi hz .i64 .i64 n n (by omega) (Int.le_refl _) (by rw [h56]; omega) (by omega)
  rw [this, h5, Int.toNat_natCast, Nat.mul_one]
  simp only [Value.cells, made_one]
theorem bool_makeRow (n : Nat) (hn : n ≤ 4096) : ∀ w : World, (Instr.makeSlice 63 (.int .i64 (n : Int)) (.int .i64 (n : Int))).run Tryd.prog w = .ok (.slice (some ⟨w.heap.size, 0, none⟩) n n) (w.alloc (.cells (Array.replicate n (.bool false)) 4)) := fun w => by
  obtain ⟨i, hi, hz, h5, h56⟩ := info_parts infoBool'
  have := run_make (P := Tryd.prog) w 63 4 i _ Tryd.underlying63 hi hz .i64 .i64 n n (by omega) (Int.le_refl _) (by rw [h56]; omega) (by omega)
  rw [this, h5, Int.toNat_natCast, Nat.mul_one]
  simp only [Value.cells, made_one]
/-- A new device's state. -/
def newDev (n sl fu bl bf : Nat) : Dev := { secs := List.replicate n sec0, slots := .slice (some ⟨bl, 0, none⟩) sl sl, fuses := .slice (some ⟨bf, 0, none⟩) fu fu, counter := 0, clock := 0, down := false, left := -1 }
end Go.Proofs.YtcdgbdojopfkgaaDoor.P

/- device.New at given numbers of slots and fuses, walked (the text is for 1 slots and 1 fuses). -/
namespace Go.Proofs.YtcdgbdojopfkgaaDoor.P
open Go.RowKit Go.Proofs.YtcdgbdojopfkgaaDoorW.PrintWords Go.Proofs.YtcdgbdojopfkgaaDoorW.PrintMore
attribute [local go_sem] max2_int min2_int max_two min_two

set_option maxRecDepth 100000 in
set_option maxHeartbeats 8000000 in
theorem dev_new (n : Nat) (hn1 : 1 ≤ n) (hn : n ≤ 4096) (w : World) :
    Calls Tryd.prog 21 #[.int .i64 n, .int .i64 1, .int .i64 1] w fun e w' => ∃ bd bm bs bl bf, e = .returned (.tuple #[.pointer (some ⟨bd, 0, none⟩), .int .i64 0]) ∧ w.heap.size ≤ bd ∧ w.heap.size ≤ bm ∧ w.heap.size ≤ bs ∧ w.heap.size ≤ bl ∧ bl ≠ bd ∧ bl ≠ bm ∧ bl ≠ bs ∧
      DevRep w' bd bm bs n (newDev n 1 1 bl bf) ∧ Blk w' bl (strCells (List.replicate 1 (same_ 0 32))) ∧ Below w.heap.size w w' := by
  have hmk1 : ∀ w : World, (Instr.makeSlice 38 (.int .i64 1) (.int .i64 1)).run Tryd.prog w = .ok (.slice (some ⟨w.heap.size, 0, none⟩) 1 1) (w.alloc (.cells (Array.replicate 1 (.string ⟨#[]⟩)) 9)) := str_makeRow 1 (by omega)
  have hmk2 : ∀ w : World, (Instr.makeSlice 63 (.int .i64 1) (.int .i64 1)).run Tryd.prog w = .ok (.slice (some ⟨w.heap.size, 0, none⟩) 1 1) (w.alloc (.cells (Array.replicate 1 (.bool false)) 4)) := bool_makeRow 1 (by omega)
  obtain ⟨rowS, hrowS⟩ : ∃ r, Array.replicate 1 (Value.string ⟨#[]⟩) = r := ⟨_, rfl⟩
  obtain ⟨rowF, hrowF⟩ : ∃ r, Array.replicate 1 (Value.bool false) = r := ⟨_, rfl⟩
  rw [hrowS] at hmk1
  rw [hrowF] at hmk2
  have HRS := Aside0.mk hrowS
  clear hrowS hrowF
  go_enter Tryd.func21, Tryd.ntmps21
  go_wp2_with fail
  refine (mem_new n hn1 hn _).mono ?_
  rintro e w1 ⟨bm, bs, rfl, hbm, hbs, hrep, hb1⟩
  have HR := Aside0.mk hrep
  have HB := Aside0.mk hb1
  clear hrep hb1
  go_wp2
  have hb0 := Blk.new w1 #[.slice none 0 0, .slice none 0 0, .int .i64 0, .int .i64 0, .pointer (some ⟨bm, 0, none⟩), .bool false, .int .i64 (-1)] 68
  have hB0 := below_new w1 (.cells #[.slice none 0 0, .slice none 0 0, .int .i64 0, .int .i64 0, .pointer (some ⟨bm, 0, none⟩), .bool false, .int .i64 (-1)] 68 (0, 0))
  generalize w1.alloc (.cells #[.slice none 0 0, .slice none 0 0, .int .i64 0, .int .i64 0, .pointer (some ⟨bm, 0, none⟩), .bool false, .int .i64 (-1)] 68) = W0 at hb0 hB0 ⊢
  have k0 := hb0.cell 0 rfl
  have k1 := hb0.cell 1 rfl
  have f0 := hb0.frozen 0
  have f1 := hb0.frozen 1
  have hlt := hb0.lt
  have hr0 := HR.out.below hB0
  have hw1 := HB.out.size
  have HB1 := Aside0.mk (HB.out.trans (hB0.mono hw1))
  have H0 := Aside0.mk hb0
  have HR0 := Aside0.mk hr0
  have hbm1 := HR.out.hm.lt
  have hbs1 := HR.out.hs.lt
  have HS := Aside0.mk hB0.size
  clear hb0 hB0 hr0
  go_region
  · clear k0 k1 f0 f1 hmk1 hmk2
    have hd : Blk (((((W0.setCell ⟨w1.heap.size, 0, none⟩ (.slice (some ⟨W0.heap.size, 0, none⟩) 1 1)).setCell ⟨w1.heap.size, 1, none⟩ (.slice (some ⟨W0.heap.size + 1, 0, none⟩) 1 1)).alloc (.cells rowS 9)).alloc (.cells rowF 4)).drew) w1.heap.size ((newDev n 1 1 (W0.heap.size) (W0.heap.size + 1)).cells bm) := ((((H0.out.set 0 _).set 1 _).alloc _).alloc _).drew
    have hM : Mod (fun k => k = w1.heap.size) W0 (((((W0.setCell ⟨w1.heap.size, 0, none⟩ (.slice (some ⟨W0.heap.size, 0, none⟩) 1 1)).setCell ⟨w1.heap.size, 1, none⟩ (.slice (some ⟨W0.heap.size + 1, 0, none⟩) 1 1)).alloc (.cells rowS 9)).alloc (.cells rowF 4)).drew) := (((((Mod.refl (fun k => k = w1.heap.size) W0).at_ rfl _ _).at_ rfl _ _).alloc _).alloc _).drew
    have hl : Blk (((((W0.setCell ⟨w1.heap.size, 0, none⟩ (.slice (some ⟨W0.heap.size, 0, none⟩) 1 1)).setCell ⟨w1.heap.size, 1, none⟩ (.slice (some ⟨W0.heap.size + 1, 0, none⟩) 1 1)).alloc (.cells rowS 9)).alloc (.cells rowF 4)).drew) (W0.heap.size) rowS.toList := by
      have hsz : ((W0.setCell ⟨w1.heap.size, 0, none⟩ (.slice (some ⟨W0.heap.size, 0, none⟩) 1 1)).setCell ⟨w1.heap.size, 1, none⟩ (.slice (some ⟨W0.heap.size + 1, 0, none⟩) 1 1)).heap.size = W0.heap.size := by simp [World.setCell]
      have := Blk.new ((W0.setCell ⟨w1.heap.size, 0, none⟩ (.slice (some ⟨W0.heap.size, 0, none⟩) 1 1)).setCell ⟨w1.heap.size, 1, none⟩ (.slice (some ⟨W0.heap.size + 1, 0, none⟩) 1 1)) rowS 9
      rw [hsz] at this
      exact (this.alloc _).drew
    generalize ((((W0.setCell ⟨w1.heap.size, 0, none⟩ (.slice (some ⟨W0.heap.size, 0, none⟩) 1 1)).setCell ⟨w1.heap.size, 1, none⟩ (.slice (some ⟨W0.heap.size + 1, 0, none⟩) 1 1)).alloc (.cells rowS 9)).alloc (.cells rowF 4)).drew = W1 at hd hM hl ⊢
    have hs1 := HS.out
    have hrep := HR0.out.mod hM (by omega) (by omega)
    have hdev : DevRep W1 w1.heap.size bm bs n (newDev n 1 1 (W0.heap.size) (W0.heap.size + 1)) := ⟨hd, hrep, by omega, by omega, by show (-1 : Int) ≤ -1; omega, by show (-1 : Int) ≤ _; omega⟩
    have hbel : Below w.heap.size w W1 := HB1.out.trans (hM.toBelow (by have := HB1.out.size; omega) (fun k hk => by omega))
    have HD := Aside0.mk hdev
    have HBe := Aside0.mk hbel
    have hbat := dev_battery hdev rfl (by omega) (List.replicate 1 ⟨#[]⟩) (by simp) (by rw [← HRS.out] at hl; exact hl) (by show W0.heap.size ≠ _; omega) (by show W0.heap.size ≠ _; omega) (by show W0.heap.size ≠ _; omega)
    clear hd hM hl hrep hdev hbel
    go_wp2_with fail
    refine hbat.mono ?_
    rintro e w9 ⟨rfl, hblk, hm9⟩
    have HD9 := Aside0.mk (HD.out.mod hm9 (by omega) (by omega) (by omega))
    have HB9 := Aside0.mk (HBe.out.trans (hm9.toBelow (by have := HBe.out.size; omega) (fun k hk => by omega)))
    have HL9 := Aside0.mk hblk
    clear hbat hblk hm9
    go_wp2
    go_ret2
    exact ⟨_, _, _, _, _, rfl, hw1, hbm, hbs, by omega, by omega, by omega, by omega, HD9.out, HL9.out, HB9.out⟩
  · clear k0 k1 f0 f1 hmk1 hmk2
    have hd : Blk (((((W0.setCell ⟨w1.heap.size, 0, none⟩ (.slice (some ⟨W0.heap.size + 1, 0, none⟩) 1 1)).setCell ⟨w1.heap.size, 1, none⟩ (.slice (some ⟨W0.heap.size, 0, none⟩) 1 1)).alloc (.cells rowF 4)).alloc (.cells rowS 9)).drew) w1.heap.size ((newDev n 1 1 (W0.heap.size + 1) (W0.heap.size)).cells bm) := ((((H0.out.set 0 _).set 1 _).alloc _).alloc _).drew
    have hM : Mod (fun k => k = w1.heap.size) W0 (((((W0.setCell ⟨w1.heap.size, 0, none⟩ (.slice (some ⟨W0.heap.size + 1, 0, none⟩) 1 1)).setCell ⟨w1.heap.size, 1, none⟩ (.slice (some ⟨W0.heap.size, 0, none⟩) 1 1)).alloc (.cells rowF 4)).alloc (.cells rowS 9)).drew) := (((((Mod.refl (fun k => k = w1.heap.size) W0).at_ rfl _ _).at_ rfl _ _).alloc _).alloc _).drew
    have hl : Blk (((((W0.setCell ⟨w1.heap.size, 0, none⟩ (.slice (some ⟨W0.heap.size + 1, 0, none⟩) 1 1)).setCell ⟨w1.heap.size, 1, none⟩ (.slice (some ⟨W0.heap.size, 0, none⟩) 1 1)).alloc (.cells rowF 4)).alloc (.cells rowS 9)).drew) (W0.heap.size + 1) rowS.toList := by
      have hsz : ((W0.setCell ⟨w1.heap.size, 0, none⟩ (.slice (some ⟨W0.heap.size + 1, 0, none⟩) 1 1)).setCell ⟨w1.heap.size, 1, none⟩ (.slice (some ⟨W0.heap.size, 0, none⟩) 1 1)).heap.size = W0.heap.size := by simp [World.setCell]
      have := Blk.new (((W0.setCell ⟨w1.heap.size, 0, none⟩ (.slice (some ⟨W0.heap.size + 1, 0, none⟩) 1 1)).setCell ⟨w1.heap.size, 1, none⟩ (.slice (some ⟨W0.heap.size, 0, none⟩) 1 1)).alloc (.cells rowF 4)) rowS 9
      rw [World.size_alloc, hsz] at this
      exact this.drew
    generalize ((((W0.setCell ⟨w1.heap.size, 0, none⟩ (.slice (some ⟨W0.heap.size + 1, 0, none⟩) 1 1)).setCell ⟨w1.heap.size, 1, none⟩ (.slice (some ⟨W0.heap.size, 0, none⟩) 1 1)).alloc (.cells rowF 4)).alloc (.cells rowS 9)).drew = W1 at hd hM hl ⊢
    have hs1 := HS.out
    have hrep := HR0.out.mod hM (by omega) (by omega)
    have hdev : DevRep W1 w1.heap.size bm bs n (newDev n 1 1 (W0.heap.size + 1) (W0.heap.size)) := ⟨hd, hrep, by omega, by omega, by show (-1 : Int) ≤ -1; omega, by show (-1 : Int) ≤ _; omega⟩
    have hbel : Below w.heap.size w W1 := HB1.out.trans (hM.toBelow (by have := HB1.out.size; omega) (fun k hk => by omega))
    have HD := Aside0.mk hdev
    have HBe := Aside0.mk hbel
    have hbat := dev_battery hdev rfl (by omega) (List.replicate 1 ⟨#[]⟩) (by simp) (by rw [← HRS.out] at hl; exact hl) (by show W0.heap.size + 1 ≠ _; omega) (by show W0.heap.size + 1 ≠ _; omega) (by show W0.heap.size + 1 ≠ _; omega)
    clear hd hM hl hrep hdev hbel
    go_wp2_with fail
    refine hbat.mono ?_
    rintro e w9 ⟨rfl, hblk, hm9⟩
    have HD9 := Aside0.mk (HD.out.mod hm9 (by omega) (by omega) (by omega))
    have HB9 := Aside0.mk (HBe.out.trans (hm9.toBelow (by have := HBe.out.size; omega) (fun k hk => by omega)))
    have HL9 := Aside0.mk hblk
    clear hbat hblk hm9
    go_wp2
    go_ret2
    exact ⟨_, _, _, _, _, rfl, hw1, hbm, hbs, by omega, by omega, by omega, by omega, HD9.out, HL9.out, HB9.out⟩
end Go.Proofs.YtcdgbdojopfkgaaDoor.P
