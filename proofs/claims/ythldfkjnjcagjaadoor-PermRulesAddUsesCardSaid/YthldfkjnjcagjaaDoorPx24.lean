-- PRINTED by print.py (a twelfth state) out of the translation. Not trusted: Lean checks it.
import Derived.Test.YthldfkjnjcagjaaDoorPx0
import Derived.Test.YthldfkjnjcagjaaDoorPx17
namespace Go.Proofs.YthldfkjnjcagjaaDoor.P
open Go.RowKit Go.Proofs.YthldfkjnjcagjaaDoorW.PrintWords Go.Proofs.YthldfkjnjcagjaaDoorW.PrintLast Go.Proofs.YthldfkjnjcagjaaDoorW.PrintMore
attribute [local go_sem] max2_int min2_int max_two min_two max_three min_three max_four min_four   -- for this text's walks alone
set_option linter.unusedVariables false
set_option linter.unusedSimpArgs false

/-! ### custodyref14_Uses: function 27 -/
mutual
def custodyref14_Uses.l0 : Nat → Int → Int → Int → ByteArray → List (S59) → List (S55) → List (S33) → Option (Int)
 | 0, _, _, _, _, _, _, _ => none
 | k + 1, x1, x5, x6, x231000, x231001, x231002, x231003 => if x6 < (x231002.length : Int) then (if 0 ≤ x6 then (if ((rd_T55 x231002 x6).f1) = x1 then (if ((rd_T55 x231002 x6).f0) ≥ 1 then (custodyref14_Uses.j1 k x1 x5 x6 (decide (((rd_T55 x231002 x6).f0) ≤ 4)) x231000 x231001 x231002 x231003 ((rd_T55 x231002 x6).f0) ((rd_T55 x231002 x6).f1) ((rd_T55 x231002 x6).f2)) else (custodyref14_Uses.j1 k x1 x5 x6 false x231000 x231001 x231002 x231003 ((rd_T55 x231002 x6).f0) ((rd_T55 x231002 x6).f1) ((rd_T55 x231002 x6).f2))) else (custodyref14_Uses.j1 k x1 x5 x6 false x231000 x231001 x231002 x231003 ((rd_T55 x231002 x6).f0) ((rd_T55 x231002 x6).f1) ((rd_T55 x231002 x6).f2))) else (none)) else (some x5)
def custodyref14_Uses.j1 : Nat → Int → Int → Int → Bool → ByteArray → List (S59) → List (S55) → List (S33) → Int → Int → Int → Option (Int)
 | 0, _, _, _, _, _, _, _, _, _, _, _ => none
 | k + 1, x1, x5, x6, x44, x231000, x231001, x231002, x231003, x235000, x235001, x235002 => if x44 = true then (custodyref14_Uses.j2 k x1 (Go.bits .or .i64 x5 128) x6 x231000 x231001 x231002 x231003 x235000 x235001 x235002) else (custodyref14_Uses.j2 k x1 x5 x6 x231000 x231001 x231002 x231003 x235000 x235001 x235002)
def custodyref14_Uses.j2 : Nat → Int → Int → Int → ByteArray → List (S59) → List (S55) → List (S33) → Int → Int → Int → Option (Int)
 | 0, _, _, _, _, _, _, _, _, _, _ => none
 | k + 1, x1, x5, x6, x231000, x231001, x231002, x231003, x235000, x235001, x235002 => if x235001 = x1 then (custodyref14_Uses.j3 k x1 x5 x6 (x235000 == 5) x231000 x231001 x231002 x231003 x235000 x235001 x235002) else (custodyref14_Uses.j3 k x1 x5 x6 false x231000 x231001 x231002 x231003 x235000 x235001 x235002)
def custodyref14_Uses.j3 : Nat → Int → Int → Int → Bool → ByteArray → List (S59) → List (S55) → List (S33) → Int → Int → Int → Option (Int)
 | 0, _, _, _, _, _, _, _, _, _, _, _ => none
 | k + 1, x1, x5, x6, x55, x231000, x231001, x231002, x231003, x235000, x235001, x235002 => if x55 = true then (if x235002 = x1 then (if x235000 = 1 then (custodyref14_Uses.l0 k x1 (Go.bits .or .i64 (Go.bits .or .i64 x5 256) 512) (wrap64 (x6 + 1)) x231000 x231001 x231002 x231003) else (if x235000 = 3 then (custodyref14_Uses.l0 k x1 (Go.bits .or .i64 (Go.bits .or .i64 x5 256) 512) (wrap64 (x6 + 1)) x231000 x231001 x231002 x231003) else (custodyref14_Uses.l0 k x1 (Go.bits .or .i64 x5 256) (wrap64 (x6 + 1)) x231000 x231001 x231002 x231003))) else (custodyref14_Uses.l0 k x1 (Go.bits .or .i64 x5 256) (wrap64 (x6 + 1)) x231000 x231001 x231002 x231003)) else (if x235002 = x1 then (if x235000 = 1 then (custodyref14_Uses.l0 k x1 (Go.bits .or .i64 x5 512) (wrap64 (x6 + 1)) x231000 x231001 x231002 x231003) else (if x235000 = 3 then (custodyref14_Uses.l0 k x1 (Go.bits .or .i64 x5 512) (wrap64 (x6 + 1)) x231000 x231001 x231002 x231003) else (custodyref14_Uses.l0 k x1 x5 (wrap64 (x6 + 1)) x231000 x231001 x231002 x231003))) else (custodyref14_Uses.l0 k x1 x5 (wrap64 (x6 + 1)) x231000 x231001 x231002 x231003))
end
def custodyref14_Uses.f (k : Nat) (a0_0 : ByteArray) (l0_1 : List (S59)) (l0_2 : List (S55)) (l0_3 : List (S33)) (a1 : Int) : Option (Int) := (custodyref14_is.f a0_0 l0_1 l0_2 l0_3 a1).bind fun t231 => (if t231 = true then (if 0 ≤ a1 then (if a1 < (l0_1.length : Int) then (custodyref14_Uses.l0 k a1 (Go.bits .and .i64 ((rd_T59 l0_1 a1).f1) 60) 0 a0_0 l0_1 l0_2 l0_3) else (none)) else (none)) else (some 0))
theorem custodyref14_Uses.mono_l : ∀ k, (∀ y0 y1 y2 y3 y4 y5 y6, LeO (custodyref14_Uses.l0 k y0 y1 y2 y3 y4 y5 y6) (custodyref14_Uses.l0 (k + 1) y0 y1 y2 y3 y4 y5 y6)) ∧ (∀ y0 y1 y2 y3 y4 y5 y6 y7 y8 y9 y10, LeO (custodyref14_Uses.j1 k y0 y1 y2 y3 y4 y5 y6 y7 y8 y9 y10) (custodyref14_Uses.j1 (k + 1) y0 y1 y2 y3 y4 y5 y6 y7 y8 y9 y10)) ∧ (∀ y0 y1 y2 y3 y4 y5 y6 y7 y8 y9, LeO (custodyref14_Uses.j2 k y0 y1 y2 y3 y4 y5 y6 y7 y8 y9) (custodyref14_Uses.j2 (k + 1) y0 y1 y2 y3 y4 y5 y6 y7 y8 y9)) ∧ (∀ y0 y1 y2 y3 y4 y5 y6 y7 y8 y9 y10, LeO (custodyref14_Uses.j3 k y0 y1 y2 y3 y4 y5 y6 y7 y8 y9 y10) (custodyref14_Uses.j3 (k + 1) y0 y1 y2 y3 y4 y5 y6 y7 y8 y9 y10))
 | 0 => ⟨fun _ _ _ _ _ _ _ r h => by simp [custodyref14_Uses.l0] at h, fun _ _ _ _ _ _ _ _ _ _ _ r h => by simp [custodyref14_Uses.j1] at h, fun _ _ _ _ _ _ _ _ _ _ r h => by simp [custodyref14_Uses.j2] at h, fun _ _ _ _ _ _ _ _ _ _ _ r h => by simp [custodyref14_Uses.j3] at h⟩
 | k + 1 => by
  obtain ⟨ih0, ih1, ih2, ih3⟩ := custodyref14_Uses.mono_l k
  refine ⟨?_, ?_, ?_, ?_⟩
  ·intro y0 y1 y2 y3 y4 y5 y6
   unfold custodyref14_Uses.l0
   repeat' first
   | (with_reducible exact ih0 _ _ _ _ _ _ _)
   | (with_reducible exact ih1 _ _ _ _ _ _ _ _ _ _ _)
   | (with_reducible exact ih2 _ _ _ _ _ _ _ _ _ _)
   | (with_reducible exact ih3 _ _ _ _ _ _ _ _ _ _ _)
   | (with_reducible exact LeO.refl _)
   | (with_reducible exact LeO.none _)
   | (with_reducible refine LeO.ite ?_ ?_)
   | (with_reducible refine LeO.bind ?_ (fun _ => ?_))
   | exact ih0 _ _ _ _ _ _ _
   | exact ih1 _ _ _ _ _ _ _ _ _ _ _
   | exact ih2 _ _ _ _ _ _ _ _ _ _
   | exact ih3 _ _ _ _ _ _ _ _ _ _ _
   | exact LeO.none _
   | refine LeO.ite ?_ ?_
   | refine LeO.bind ?_ (fun _ => ?_)
  ·intro y0 y1 y2 y3 y4 y5 y6 y7 y8 y9 y10
   unfold custodyref14_Uses.j1
   repeat' first
   | (with_reducible exact ih0 _ _ _ _ _ _ _)
   | (with_reducible exact ih1 _ _ _ _ _ _ _ _ _ _ _)
   | (with_reducible exact ih2 _ _ _ _ _ _ _ _ _ _)
   | (with_reducible exact ih3 _ _ _ _ _ _ _ _ _ _ _)
   | (with_reducible exact LeO.refl _)
   | (with_reducible exact LeO.none _)
   | (with_reducible refine LeO.ite ?_ ?_)
   | (with_reducible refine LeO.bind ?_ (fun _ => ?_))
   | exact ih0 _ _ _ _ _ _ _
   | exact ih1 _ _ _ _ _ _ _ _ _ _ _
   | exact ih2 _ _ _ _ _ _ _ _ _ _
   | exact ih3 _ _ _ _ _ _ _ _ _ _ _
   | exact LeO.none _
   | refine LeO.ite ?_ ?_
   | refine LeO.bind ?_ (fun _ => ?_)
  ·intro y0 y1 y2 y3 y4 y5 y6 y7 y8 y9
   unfold custodyref14_Uses.j2
   repeat' first
   | (with_reducible exact ih0 _ _ _ _ _ _ _)
   | (with_reducible exact ih1 _ _ _ _ _ _ _ _ _ _ _)
   | (with_reducible exact ih2 _ _ _ _ _ _ _ _ _ _)
   | (with_reducible exact ih3 _ _ _ _ _ _ _ _ _ _ _)
   | (with_reducible exact LeO.refl _)
   | (with_reducible exact LeO.none _)
   | (with_reducible refine LeO.ite ?_ ?_)
   | (with_reducible refine LeO.bind ?_ (fun _ => ?_))
   | exact ih0 _ _ _ _ _ _ _
   | exact ih1 _ _ _ _ _ _ _ _ _ _ _
   | exact ih2 _ _ _ _ _ _ _ _ _ _
   | exact ih3 _ _ _ _ _ _ _ _ _ _ _
   | exact LeO.none _
   | refine LeO.ite ?_ ?_
   | refine LeO.bind ?_ (fun _ => ?_)
  ·intro y0 y1 y2 y3 y4 y5 y6 y7 y8 y9 y10
   unfold custodyref14_Uses.j3
   repeat' first
   | (with_reducible exact ih0 _ _ _ _ _ _ _)
   | (with_reducible exact ih1 _ _ _ _ _ _ _ _ _ _ _)
   | (with_reducible exact ih2 _ _ _ _ _ _ _ _ _ _)
   | (with_reducible exact ih3 _ _ _ _ _ _ _ _ _ _ _)
   | (with_reducible exact LeO.refl _)
   | (with_reducible exact LeO.none _)
   | (with_reducible refine LeO.ite ?_ ?_)
   | (with_reducible refine LeO.bind ?_ (fun _ => ?_))
   | exact ih0 _ _ _ _ _ _ _
   | exact ih1 _ _ _ _ _ _ _ _ _ _ _
   | exact ih2 _ _ _ _ _ _ _ _ _ _
   | exact ih3 _ _ _ _ _ _ _ _ _ _ _
   | exact LeO.none _
   | refine LeO.ite ?_ ?_
   | refine LeO.bind ?_ (fun _ => ?_)
theorem custodyref14_Uses.mono : ∀ a0 a1 a2 a3 a4 k, LeO (custodyref14_Uses.f k a0 a1 a2 a3 a4) (custodyref14_Uses.f (k + 1) a0 a1 a2 a3 a4) := by
 intro a0 a1 a2 a3 a4 k
 obtain ⟨ih0, ih1, ih2, ih3⟩ := custodyref14_Uses.mono_l k
 unfold custodyref14_Uses.f
 repeat' first
   | (with_reducible exact ih0 _ _ _ _ _ _ _)
   | (with_reducible exact ih1 _ _ _ _ _ _ _ _ _ _ _)
   | (with_reducible exact ih2 _ _ _ _ _ _ _ _ _ _)
   | (with_reducible exact ih3 _ _ _ _ _ _ _ _ _ _ _)
   | (with_reducible exact LeO.refl _)
   | (with_reducible exact LeO.none _)
   | (with_reducible refine LeO.ite ?_ ?_)
   | (with_reducible refine LeO.bind ?_ (fun _ => ?_))
   | exact ih0 _ _ _ _ _ _ _
   | exact ih1 _ _ _ _ _ _ _ _ _ _ _
   | exact ih2 _ _ _ _ _ _ _ _ _ _
   | exact ih3 _ _ _ _ _ _ _ _ _ _ _
   | exact LeO.none _
   | refine LeO.ite ?_ ?_
   | refine LeO.bind ?_ (fun _ => ?_)
set_option maxHeartbeats 8000000 in
set_option maxRecDepth 100000 in
theorem custodyref14_Uses.calls (k : Nat) (a0_0 : ByteArray) (A0_1 : Option Addr) (c0_1 : Nat) (l0_1 : List (S59)) (A0_2 : Option Addr) (c0_2 : Nat) (l0_2 : List (S55)) (A0_3 : Option Addr) (c0_3 : Nat) (l0_3 : List (S33)) (a1 : Int) (r : Int) (w : World) (hr0_1 : Kd.C k59 w A0_1 l0_1.length l0_1) (hc0_1 : l0_1.length ≤ c0_1) (hr0_2 : Kd.C k55 w A0_2 l0_2.length l0_2) (hc0_2 : l0_2.length ≤ c0_2) (hr0_3 : Kd.C k33 w A0_3 l0_3.length l0_3) (hc0_3 : l0_3.length ≤ c0_3) (h : custodyref14_Uses.f k a0_0 l0_1 l0_2 l0_3 a1 = some r) :
  Calls Tryd.prog 27 #[.agg #[.string a0_0, .slice A0_1 l0_1.length c0_1, .slice A0_2 l0_2.length c0_2, .slice A0_3 l0_3.length c0_3], .int .i64 a1] w fun e w' => e = .returned (.int .i64 r) ∧ Below w.heap.size w w' := by
 have hu26 := Tryd.underlying26
 have hu55 := Tryd.underlying55
 have HR0_1 := Aside0.mk hr0_1
 have HC0_1 := Aside0.mk hc0_1
 clear hr0_1 hc0_1
 have HR0_2 := Aside0.mk hr0_2
 have HC0_2 := Aside0.mk hc0_2
 clear hr0_2 hc0_2
 have HR0_3 := Aside0.mk hr0_3
 have HC0_3 := Aside0.mk hc0_3
 clear hr0_3 hc0_3
 have HB := Aside0.mk (Below.refl w.heap.size w)
 have H : ((custodyref14_is.f a0_0 l0_1 l0_2 l0_3 a1).bind fun t231 => (if t231 = true then (if 0 ≤ a1 then (if a1 < (l0_1.length : Int) then (custodyref14_Uses.l0 k a1 (Go.bits .and .i64 ((rd_T59 l0_1 a1).f1) 60) 0 a0_0 l0_1 l0_2 l0_3) else (none)) else (none)) else (some 0))) = some r := h
 clear h
 replace H := Option.bind_eq_some_iff.mp H
 obtain ⟨t231, A30, H⟩ := H
 replace H : (if t231 = true then (if 0 ≤ a1 then (if a1 < (l0_1.length : Int) then (custodyref14_Uses.l0 k a1 (Go.bits .and .i64 ((rd_T59 l0_1 a1).f1) 60) 0 a0_0 l0_1 l0_2 l0_3) else (none)) else (none)) else (some 0)) = some r := H
 have A3 := Aside0.mk A30
 clear A30
 by_cases c4 : t231 = true
 ·subst c4
  have H1 : (if 0 ≤ a1 then (if a1 < (l0_1.length : Int) then (custodyref14_Uses.l0 k a1 (Go.bits .and .i64 ((rd_T59 l0_1 a1).f1) 60) 0 a0_0 l0_1 l0_2 l0_3) else (none)) else (none)) = some r := by rw [if_pos rfl] at H; exact H
  clear H
  have H := H1
  clear H1
  by_cases c5 : 0 ≤ a1
  ·rw [if_pos c5] at H
   have c5b0 : decide (0 ≤ a1) = true := decide_eq_true c5
   clear c5
   by_cases c6 : a1 < (l0_1.length : Int)
   ·rw [if_pos c6] at H
    have c6b0 : decide (a1 < (l0_1.length : Int)) = true := decide_eq_true c6
    clear c6
    have H' := Aside0.mk H
    clear H
    go_enter Tryd.func27, Tryd.ntmps27
    go_wp2_with (first | ((with_reducible refine gate_dst (N := 2) rfl ?_); refine box_event ?hg (N := 2) ?hd (cs := #[.string a0_0, .slice A0_1 l0_1.length c0_1, .slice A0_2 l0_2.length c0_2, .slice A0_3 l0_3.length c0_3]) (t := 26) ?hr ?_; (case hd => rfl); (case hg => rfl); (case hr => first | (go_simp; done) | (go_simp; rfl)); intro gb230 hg w7 hbox hb; have n0_ := Aside0.mk (below_step (by repeat (first | (with_reducible first | exact HB.out | apply below_alloc | apply pw_below_drewN | apply below_drew1) | exact HB.out)) hb); have n1_ := Aside0.mk (hbox); have n2_ := Aside0.mk ((by rw [hg]; exact (below_size (by repeat (first | (with_reducible first | exact HB.out | apply below_alloc | apply pw_below_drewN | apply below_drew1) | exact HB.out))) : w.heap.size ≤ gb230)); have n3_ := Aside0.mk ((by rw [hg]; exact (below_size (by repeat (first | (with_reducible first | exact HB.out | apply below_alloc | apply pw_below_drewN | apply below_drew1) | exact HB.out))) : w.heap.size ≤ gb230)); clear HB; have HB := n0_; have BK230 := n1_; have GW230 := n2_; have GE230 := n3_; clear n0_ n1_ n2_ n3_; clear hb hbox hg; have hcz8_0 : w7.cell? ⟨gb230, 0, none⟩ = some (.string a0_0) := (blk_cell BK230.out 0).trans rfl; have hcz8_1 : w7.cell? ⟨gb230, 1, none⟩ = some (.slice A0_1 l0_1.length c0_1) := (blk_cell BK230.out 1).trans rfl; have hcz8_2 : w7.cell? ⟨gb230, 2, none⟩ = some (.slice A0_2 l0_2.length c0_2) := (blk_cell BK230.out 2).trans rfl; have hcz8_3 : w7.cell? ⟨gb230, 3, none⟩ = some (.slice A0_3 l0_3.length c0_3) := (blk_cell BK230.out 3).trans rfl; have hfz8_0 := blk_frozen BK230.out 0; have hfz8_1 := blk_frozen BK230.out 1; have hfz8_2 := blk_frozen BK230.out 2; have hfz8_3 := blk_frozen BK230.out 3) | ((with_reducible refine gate_callee (f := 37) rfl ?_); refine goesL_ (some 10) rfl rfl Tryd.func37 (by kernel_rfl) rfl #[.agg #[.string a0_0, .slice A0_1 l0_1.length c0_1, .slice A0_2 l0_2.length c0_2, .slice A0_3 l0_3.length c0_3], .int .i64 a1] rfl (by (try simp only [List.map_toArray, List.map_cons, List.map_nil]); first | done | rfl | (simp only [List.length_drop, List.length_take]; rfl)) ?_; (with_reducible refine (custodyref14_is.calls a0_0 _ _ l0_1 _ _ l0_2 _ _ l0_3 a1 true _ ?side1 ?side2 ?side3 ?side4 ?side5 ?side6 A3.out).mono ?_); (case side1 => repeat (first | exact (Kd.C_below HR0_1.out HB.out) | (with_reducible refine Kd.C_alloc ?_ _) | (with_reducible refine Kd.C_drewN ?_ _) | (with_reducible refine Kd.C_drew ?_))); (case side2 => exact HC0_1.out); (case side3 => repeat (first | exact (Kd.C_below HR0_2.out HB.out) | (with_reducible refine Kd.C_alloc ?_ _) | (with_reducible refine Kd.C_drewN ?_ _) | (with_reducible refine Kd.C_drew ?_))); (case side4 => exact HC0_2.out); (case side5 => repeat (first | exact (Kd.C_below HR0_3.out HB.out) | (with_reducible refine Kd.C_alloc ?_ _) | (with_reducible refine Kd.C_drewN ?_ _) | (with_reducible refine Kd.C_drew ?_))); (case side6 => exact HC0_3.out); rintro e w9 ⟨rfl, hb⟩; refine ⟨_, rfl, ?_⟩; have n0_ := Aside0.mk (blk_below (g := gb230) (o := .cells #[.string a0_0, .slice A0_1 l0_1.length c0_1, .slice A0_2 l0_2.length c0_2, .slice A0_3 l0_3.length c0_3] 26 (0, 0)) (by (with_reducible repeat (first | refine blk_drewN ?_ _ | refine blk_drew ?_ | refine blk_alloc ?_ _)); exact BK230.out) hb); have n1_ := Aside0.mk (below_step (by repeat (first | (with_reducible first | exact HB.out | apply below_alloc | apply pw_below_drewN | apply below_drew1 | refine below_set ?_ GE230.out) | exact HB.out)) hb); clear BK230; clear HB; have BK230 := n0_; have HB := n1_; clear n0_ n1_; (try clear hb); (try clear hb2); (try clear hk); (try clear hi); have hcz10_0 : w9.cell? ⟨gb230, 0, none⟩ = some (.string a0_0) := (blk_cell BK230.out 0).trans rfl; have hcz10_1 : w9.cell? ⟨gb230, 1, none⟩ = some (.slice A0_1 l0_1.length c0_1) := (blk_cell BK230.out 1).trans rfl; have hcz10_2 : w9.cell? ⟨gb230, 2, none⟩ = some (.slice A0_2 l0_2.length c0_2) := (blk_cell BK230.out 2).trans rfl; have hcz10_3 : w9.cell? ⟨gb230, 3, none⟩ = some (.slice A0_3 l0_3.length c0_3) := (blk_cell BK230.out 3).trans rfl; have hfz10_0 := blk_frozen BK230.out 0; have hfz10_1 := blk_frozen BK230.out 1; have hfz10_2 := blk_frozen BK230.out 2; have hfz10_3 := blk_frozen BK230.out 3; have p232 : 0 ≤ (a1 : Int) := of_decide_eq_true (by first | (with_reducible assumption) | assumption); have q232 : a1 < (l0_1.length : Int) := of_decide_eq_true (by first | (with_reducible assumption) | assumption); obtain ⟨ad232, e232, hx232_0, hx232_1, hx232_2⟩ := at_T59 HR0_1.out a1 p232 q232; cases e232; replace hx232_0 := (HB.out.cell (World.block_lt_of_cell? w _ hx232_0)).trans hx232_0; replace hx232_1 := (HB.out.cell (World.block_lt_of_cell? w _ hx232_1)).trans hx232_1; replace hx232_2 := (HB.out.cell (World.block_lt_of_cell? w _ hx232_2)).trans hx232_2; replace p232 := eq_true p232; replace q232 := eq_true q232))
    go_loopg [5, 6] k (fun kq v5 v6 w' => ∃ (x5_1 : Int) (x6_1 : Int), v5 = .int .i64 x5_1 ∧ v6 = .int .i64 x6_1 ∧ Aside0 (custodyref14_Uses.l0 kq a1 x5_1 x6_1 a0_0 l0_1 l0_2 l0_3 = some r) ∧ Aside0 (kq ≤ k) ∧ Aside0 (w'.heap[gb230]? = some (.cells #[.string a0_0, (.slice (some ad232) l0_1.length c0_1), (.slice A0_2 l0_2.length c0_2), (.slice A0_3 l0_3.length c0_3)] 26 (0, 0))) ∧ Aside0 (Below w.heap.size w w'))
    case atStart => exact ⟨(Go.bits .and .i64 ((rd_T59 l0_1 a1).f1) 60), (0), (by first | rfl | (simp; done) | (simp [*]; done)), (by first | rfl | (simp; done) | (simp [*]; done)), H', ⟨Nat.le_refl _⟩, ⟨by (with_reducible repeat (first | refine blk_drewN ?_ _ | refine blk_drew ?_ | refine blk_alloc ?_ _)); exact BK230.out⟩, ⟨by repeat (first | (with_reducible first | exact HB.out | apply below_alloc | apply pw_below_drewN | apply below_drew1 | refine below_set ?_ GE230.out) | exact HB.out)⟩⟩
    case round =>
     clear H'
     try clear c2
     try clear p2
     try clear q2
     try clear hx2
     try clear c3
     try clear c4
     try clear c5
     try clear c5b0
     try clear c6
     try clear c6b0
     try clear hcz10_0
     try clear hcz10_1
     try clear hcz10_2
     try clear hcz10_3
     try clear hcz8_0
     try clear hcz8_1
     try clear hcz8_2
     try clear hcz8_3
     try clear hfz10_0
     try clear hfz10_1
     try clear hfz10_2
     try clear hfz10_3
     try clear hfz8_0
     try clear hfz8_1
     try clear hfz8_2
     try clear hfz8_3
     try clear hx232_0
     try clear hx232_1
     try clear hx232_2
     try clear p232
     try clear q232
     obtain ⟨x5_1, x6_1, rfl, rfl, HA, HK1, BK230, HB⟩ := hrel
     cases gk with
     | zero => exact absurd HA.out (by simp [custodyref14_Uses.l0])
     | succ k1 =>
      have H := HA.out
      clear HA
      simp only [custodyref14_Uses.l0] at H
      by_cases c11 : x6_1 < (l0_2.length : Int)
      ·rw [if_pos c11] at H
       have c11b0 : decide (x6_1 < (l0_2.length : Int)) = true := decide_eq_true c11
       clear c11
       by_cases c12 : 0 ≤ x6_1
       ·rw [if_pos c12] at H
        have c12b0 : decide (0 ≤ x6_1) = true := decide_eq_true c12
        clear c12
        have HC13 := Aside0.mk H
        clear H
        have hcz14_0 : wr.cell? ⟨gb230, 0, none⟩ = some (.string a0_0) := (blk_cell BK230.out 0).trans rfl
        have hcz14_1 : wr.cell? ⟨gb230, 1, none⟩ = some (.slice (some ad232) l0_1.length c0_1) := (blk_cell BK230.out 1).trans rfl
        have hcz14_2 : wr.cell? ⟨gb230, 2, none⟩ = some (.slice A0_2 l0_2.length c0_2) := (blk_cell BK230.out 2).trans rfl
        have hcz14_3 : wr.cell? ⟨gb230, 3, none⟩ = some (.slice A0_3 l0_3.length c0_3) := (blk_cell BK230.out 3).trans rfl
        have hfz14_0 := blk_frozen BK230.out 0
        have hfz14_1 := blk_frozen BK230.out 1
        have hfz14_2 := blk_frozen BK230.out 2
        have hfz14_3 := blk_frozen BK230.out 3
        have p233 : 0 ≤ (x6_1 : Int) := of_decide_eq_true (by first | (with_reducible assumption) | assumption)
        have q233 : x6_1 < (l0_2.length : Int) := of_decide_eq_true (by first | (with_reducible assumption) | assumption)
        obtain ⟨ad233, e233, hx233_0, hx233_1, hx233_2⟩ := at_T55 HR0_2.out x6_1 p233 q233
        cases e233
        replace hx233_0 := (HB.out.cell (World.block_lt_of_cell? w _ hx233_0)).trans hx233_0
        replace hx233_1 := (HB.out.cell (World.block_lt_of_cell? w _ hx233_1)).trans hx233_1
        replace hx233_2 := (HB.out.cell (World.block_lt_of_cell? w _ hx233_2)).trans hx233_2
        replace p233 := eq_true p233
        replace q233 := eq_true q233
        go_upto_region 8 with (first | ((with_reducible refine gate_dst (N := 7) rfl ?_); refine box_event ?hg (N := 7) ?hd (cs := #[.int .i64 0, .int .i64 0, .int .i64 0]) (t := 55) ?hr ?_; (case hd => rfl); (case hg => rfl); (case hr => first | (go_simp; done) | (go_simp; rfl)); intro gb234 hg w15 hbox hb; have n0_ := Aside0.mk (blk_below (g := gb230) (o := .cells #[.string a0_0, .slice (some ad232) l0_1.length c0_1, .slice (some ad233) l0_2.length c0_2, .slice A0_3 l0_3.length c0_3] 26 (0, 0)) (by (with_reducible repeat (first | refine blk_drewN ?_ _ | refine blk_drew ?_ | refine blk_alloc ?_ _)); exact BK230.out) hb); have n1_ := Aside0.mk (below_step (by repeat (first | (with_reducible first | exact HB.out | apply below_alloc | apply pw_below_drewN | apply below_drew1 | refine below_set ?_ GE230.out) | exact HB.out)) hb); have n2_ := Aside0.mk (hbox); have n3_ := Aside0.mk ((by rw [hg]; exact (below_size (by repeat (first | (with_reducible first | exact HB.out | apply below_alloc | apply pw_below_drewN | apply below_drew1 | refine below_set ?_ GE230.out) | exact HB.out))) : w.heap.size ≤ gb234)); have n4_ := Aside0.mk ((by rw [hg]; exact (below_size (by repeat (first | (with_reducible first | exact HB.out | apply below_alloc | apply pw_below_drewN | apply below_drew1 | refine below_set ?_ GE230.out) | exact HB.out))) : w.heap.size ≤ gb234)); have n5_ := Aside0.mk ((by rw [hg]; exact Nat.ne_of_lt (blk_lt (g := gb230) (o := .cells #[.string a0_0, .slice (some ad232) l0_1.length c0_1, .slice (some ad233) l0_2.length c0_2, .slice A0_3 l0_3.length c0_3] 26 (0, 0)) (by (with_reducible repeat (first | refine blk_drewN ?_ _ | refine blk_drew ?_ | refine blk_alloc ?_ _)); exact BK230.out)) : gb230 ≠ gb234)); have n6_ := Aside0.mk ((by rw [hg]; exact Nat.ne_of_gt (blk_lt (g := gb230) (o := .cells #[.string a0_0, .slice (some ad232) l0_1.length c0_1, .slice (some ad233) l0_2.length c0_2, .slice A0_3 l0_3.length c0_3] 26 (0, 0)) (by (with_reducible repeat (first | refine blk_drewN ?_ _ | refine blk_drew ?_ | refine blk_alloc ?_ _)); exact BK230.out)) : gb234 ≠ gb230)); clear BK230; clear HB; have BK230 := n0_; have HB := n1_; have BK234 := n2_; have GW234 := n3_; have GE234 := n4_; have NB230_234 := n5_; have NB234_230 := n6_; clear n0_ n1_ n2_ n3_ n4_ n5_ n6_; clear hb hbox hg; have hnb16 := NB234_230.out; have hnc16 := NB230_234.out; have hcz17_0 : w15.cell? ⟨gb234, 0, none⟩ = some (.int .i64 0) := (blk_cell BK234.out 0).trans rfl; have hcz17_1 : w15.cell? ⟨gb234, 1, none⟩ = some (.int .i64 0) := (blk_cell BK234.out 1).trans rfl; have hcz17_2 : w15.cell? ⟨gb234, 2, none⟩ = some (.int .i64 0) := (blk_cell BK234.out 2).trans rfl; have hfz17_0 := blk_frozen BK234.out 0; have hfz17_1 := blk_frozen BK234.out 1; have hfz17_2 := blk_frozen BK234.out 2))
        (try simp only [Act.put, List.setIfInBounds_toArray, List.set_cons_zero, List.set_cons_succ])
        go_cut [44] (fun v44 wc => ∃ (kq : Nat) (x44_12 : Bool), v44 = .bool x44_12 ∧ Aside0 (custodyref14_Uses.j1 kq a1 x5_1 x6_1 x44_12 a0_0 l0_1 l0_2 l0_3 ((rd_T55 l0_2 x6_1).f0) ((rd_T55 l0_2 x6_1).f1) ((rd_T55 l0_2 x6_1).f2) = some r) ∧ Aside0 (kq ≤ k1) ∧ Aside0 (wc.heap[gb230]? = some (.cells #[.string a0_0, (.slice (some ad232) l0_1.length c0_1), (.slice (some ad233) l0_2.length c0_2), (.slice A0_3 l0_3.length c0_3)] 26 (0, 0))) ∧ Aside0 (wc.heap[gb234]? = some (.cells #[.int .i64 ((rd_T55 l0_2 x6_1).f0), .int .i64 ((rd_T55 l0_2 x6_1).f1), .int .i64 ((rd_T55 l0_2 x6_1).f2)] 55 (0, 0))) ∧ Aside0 (Below w.heap.size w wc))
        case first =>
         have H := HC13.out
         clear HC13
         by_cases c18 : ((rd_T55 l0_2 x6_1).f1) = a1
         ·rw [if_pos c18] at H
          have c18b0 : (((rd_T55 l0_2 x6_1).f1) == a1) = true := beq_iff_eq.mpr c18
          have c18b1 : (((rd_T55 l0_2 x6_1).f1) != a1) = false := bne_eq_false_iff_eq.mpr c18
          clear c18
          (first | rw [c18b0] | (simp only [i64_w, i32_w]; rw [c18b0]) | skip)
          by_cases c19 : ((rd_T55 l0_2 x6_1).f0) ≥ 1
          ·rw [if_pos c19] at H
           have c19b0 : decide (1 ≤ ((rd_T55 l0_2 x6_1).f0)) = true := decide_eq_true c19
           clear c19
           have H' := Aside0.mk H
           clear H
           have hnb20 := NB234_230.out
           have hnc20 := NB230_234.out
           have hcz21_0 : w15.cell? ⟨gb234, 0, none⟩ = some (.int .i64 0) := (blk_cell BK234.out 0).trans rfl
           have hcz21_1 : w15.cell? ⟨gb234, 1, none⟩ = some (.int .i64 0) := (blk_cell BK234.out 1).trans rfl
           have hcz21_2 : w15.cell? ⟨gb234, 2, none⟩ = some (.int .i64 0) := (blk_cell BK234.out 2).trans rfl
           have hfz21_0 := blk_frozen BK234.out 0
           have hfz21_1 := blk_frozen BK234.out 1
           have hfz21_2 := blk_frozen BK234.out 2
           go_wp2
           go_meet
           case rel => exact ⟨_, (decide (((rd_T55 l0_2 x6_1).f0) ≤ 4)), (by first | rfl | (simp; done) | (simp [*]; done)), H', ⟨by have := HK1.out; first | omega | exact Nat.le_refl _⟩, ⟨by (with_reducible repeat (first | refine blk_drewN ?_ _ | refine blk_drew ?_ | refine blk_alloc ?_ _)); refine blk_far ?_ NB230_234.out _; (with_reducible repeat (first | refine blk_drewN ?_ _ | refine blk_drew ?_ | refine blk_alloc ?_ _)); refine blk_far ?_ NB230_234.out _; (with_reducible repeat (first | refine blk_drewN ?_ _ | refine blk_drew ?_ | refine blk_alloc ?_ _)); refine blk_far ?_ NB230_234.out _; (with_reducible repeat (first | refine blk_drewN ?_ _ | refine blk_drew ?_ | refine blk_alloc ?_ _)); exact BK230.out⟩, ⟨by (with_reducible repeat (first | refine blk_drewN ?_ _ | refine blk_drew ?_ | refine blk_alloc ?_ _)); refine blk_put (cs := #[.int .i64 ((rd_T55 l0_2 x6_1).f0), .int .i64 ((rd_T55 l0_2 x6_1).f1), .int .i64 0]) ?_ 2 _ rfl; (with_reducible repeat (first | refine blk_drewN ?_ _ | refine blk_drew ?_ | refine blk_alloc ?_ _)); refine blk_put (cs := #[.int .i64 ((rd_T55 l0_2 x6_1).f0), .int .i64 0, .int .i64 0]) ?_ 1 _ rfl; (with_reducible repeat (first | refine blk_drewN ?_ _ | refine blk_drew ?_ | refine blk_alloc ?_ _)); refine blk_put (cs := #[.int .i64 0, .int .i64 0, .int .i64 0]) ?_ 0 _ rfl; (with_reducible repeat (first | refine blk_drewN ?_ _ | refine blk_drew ?_ | refine blk_alloc ?_ _)); exact BK234.out⟩, ⟨by repeat (first | (with_reducible first | exact HB.out | apply below_alloc | apply pw_below_drewN | apply below_drew1 | refine below_set ?_ GE230.out | refine below_set ?_ GE234.out) | exact HB.out)⟩⟩
          ·rw [if_neg c19] at H
           have c19b0 : decide (1 ≤ ((rd_T55 l0_2 x6_1).f0)) = false := decide_eq_false c19
           clear c19
           have H' := Aside0.mk H
           clear H
           have hnb22 := NB234_230.out
           have hnc22 := NB230_234.out
           have hcz23_0 : w15.cell? ⟨gb234, 0, none⟩ = some (.int .i64 0) := (blk_cell BK234.out 0).trans rfl
           have hcz23_1 : w15.cell? ⟨gb234, 1, none⟩ = some (.int .i64 0) := (blk_cell BK234.out 1).trans rfl
           have hcz23_2 : w15.cell? ⟨gb234, 2, none⟩ = some (.int .i64 0) := (blk_cell BK234.out 2).trans rfl
           have hfz23_0 := blk_frozen BK234.out 0
           have hfz23_1 := blk_frozen BK234.out 1
           have hfz23_2 := blk_frozen BK234.out 2
           go_wp2
           go_meet
           case rel => exact ⟨_, (false), (by first | rfl | (simp; done) | (simp [*]; done)), H', ⟨by have := HK1.out; first | omega | exact Nat.le_refl _⟩, ⟨by (with_reducible repeat (first | refine blk_drewN ?_ _ | refine blk_drew ?_ | refine blk_alloc ?_ _)); refine blk_far ?_ NB230_234.out _; (with_reducible repeat (first | refine blk_drewN ?_ _ | refine blk_drew ?_ | refine blk_alloc ?_ _)); refine blk_far ?_ NB230_234.out _; (with_reducible repeat (first | refine blk_drewN ?_ _ | refine blk_drew ?_ | refine blk_alloc ?_ _)); refine blk_far ?_ NB230_234.out _; (with_reducible repeat (first | refine blk_drewN ?_ _ | refine blk_drew ?_ | refine blk_alloc ?_ _)); exact BK230.out⟩, ⟨by (with_reducible repeat (first | refine blk_drewN ?_ _ | refine blk_drew ?_ | refine blk_alloc ?_ _)); refine blk_put (cs := #[.int .i64 ((rd_T55 l0_2 x6_1).f0), .int .i64 ((rd_T55 l0_2 x6_1).f1), .int .i64 0]) ?_ 2 _ rfl; (with_reducible repeat (first | refine blk_drewN ?_ _ | refine blk_drew ?_ | refine blk_alloc ?_ _)); refine blk_put (cs := #[.int .i64 ((rd_T55 l0_2 x6_1).f0), .int .i64 0, .int .i64 0]) ?_ 1 _ rfl; (with_reducible repeat (first | refine blk_drewN ?_ _ | refine blk_drew ?_ | refine blk_alloc ?_ _)); refine blk_put (cs := #[.int .i64 0, .int .i64 0, .int .i64 0]) ?_ 0 _ rfl; (with_reducible repeat (first | refine blk_drewN ?_ _ | refine blk_drew ?_ | refine blk_alloc ?_ _)); exact BK234.out⟩, ⟨by repeat (first | (with_reducible first | exact HB.out | apply below_alloc | apply pw_below_drewN | apply below_drew1 | refine below_set ?_ GE230.out | refine below_set ?_ GE234.out) | exact HB.out)⟩⟩
         ·rw [if_neg c18] at H
          have c18b0 : (((rd_T55 l0_2 x6_1).f1) == a1) = false := beq_eq_false_iff_ne.mpr c18
          have c18b1 : (((rd_T55 l0_2 x6_1).f1) != a1) = true := bne_iff_ne.mpr c18
          (first | rw [c18b0] | (simp only [i64_w, i32_w]; rw [c18b0]) | skip)
          have H' := Aside0.mk H
          clear H
          have hnb24 := NB234_230.out
          have hnc24 := NB230_234.out
          have hcz25_0 : w15.cell? ⟨gb234, 0, none⟩ = some (.int .i64 0) := (blk_cell BK234.out 0).trans rfl
          have hcz25_1 : w15.cell? ⟨gb234, 1, none⟩ = some (.int .i64 0) := (blk_cell BK234.out 1).trans rfl
          have hcz25_2 : w15.cell? ⟨gb234, 2, none⟩ = some (.int .i64 0) := (blk_cell BK234.out 2).trans rfl
          have hfz25_0 := blk_frozen BK234.out 0
          have hfz25_1 := blk_frozen BK234.out 1
          have hfz25_2 := blk_frozen BK234.out 2
          go_wp2
          go_meet
          case rel => exact ⟨_, (false), (by first | rfl | (simp; done) | (simp [*]; done)), H', ⟨by have := HK1.out; first | omega | exact Nat.le_refl _⟩, ⟨by (with_reducible repeat (first | refine blk_drewN ?_ _ | refine blk_drew ?_ | refine blk_alloc ?_ _)); refine blk_far ?_ NB230_234.out _; (with_reducible repeat (first | refine blk_drewN ?_ _ | refine blk_drew ?_ | refine blk_alloc ?_ _)); refine blk_far ?_ NB230_234.out _; (with_reducible repeat (first | refine blk_drewN ?_ _ | refine blk_drew ?_ | refine blk_alloc ?_ _)); refine blk_far ?_ NB230_234.out _; (with_reducible repeat (first | refine blk_drewN ?_ _ | refine blk_drew ?_ | refine blk_alloc ?_ _)); exact BK230.out⟩, ⟨by (with_reducible repeat (first | refine blk_drewN ?_ _ | refine blk_drew ?_ | refine blk_alloc ?_ _)); refine blk_put (cs := #[.int .i64 ((rd_T55 l0_2 x6_1).f0), .int .i64 ((rd_T55 l0_2 x6_1).f1), .int .i64 0]) ?_ 2 _ rfl; (with_reducible repeat (first | refine blk_drewN ?_ _ | refine blk_drew ?_ | refine blk_alloc ?_ _)); refine blk_put (cs := #[.int .i64 ((rd_T55 l0_2 x6_1).f0), .int .i64 0, .int .i64 0]) ?_ 1 _ rfl; (with_reducible repeat (first | refine blk_drewN ?_ _ | refine blk_drew ?_ | refine blk_alloc ?_ _)); refine blk_put (cs := #[.int .i64 0, .int .i64 0, .int .i64 0]) ?_ 0 _ rfl; (with_reducible repeat (first | refine blk_drewN ?_ _ | refine blk_drew ?_ | refine blk_alloc ?_ _)); exact BK234.out⟩, ⟨by repeat (first | (with_reducible first | exact HB.out | apply below_alloc | apply pw_below_drewN | apply below_drew1 | refine below_set ?_ GE230.out | refine below_set ?_ GE234.out) | exact HB.out)⟩⟩
        case rest =>
         clear HC13
         try clear c1
         try clear c2
         try clear p2
         try clear q2
         try clear hx2
         try clear c3
         try clear c4
         try clear c5
         try clear c5b0
         try clear c6
         try clear c6b0
         try clear c11
         try clear c11b0
         try clear c12
         try clear c12b0
         try clear c16
         try clear c18
         try clear c18b0
         try clear c18b1
         try clear c19
         try clear c19b0
         try clear c20
         try clear c22
         try clear p23
         try clear q23
         try clear hx23
         try clear c24
         try clear hcz10_0
         try clear hcz10_1
         try clear hcz10_2
         try clear hcz10_3
         try clear hcz14_0
         try clear hcz14_1
         try clear hcz14_2
         try clear hcz14_3
         try clear hcz17_0
         try clear hcz17_1
         try clear hcz17_2
         try clear hcz21_0
         try clear hcz21_1
         try clear hcz21_2
         try clear hcz23_0
         try clear hcz23_1
         try clear hcz23_2
         try clear hcz25_0
         try clear hcz25_1
         try clear hcz25_2
         try clear hcz8_0
         try clear hcz8_1
         try clear hcz8_2
         try clear hcz8_3
         try clear hfz10_0
         try clear hfz10_1
         try clear hfz10_2
         try clear hfz10_3
         try clear hfz14_0
         try clear hfz14_1
         try clear hfz14_2
         try clear hfz14_3
         try clear hfz17_0
         try clear hfz17_1
         try clear hfz17_2
         try clear hfz21_0
         try clear hfz21_1
         try clear hfz21_2
         try clear hfz23_0
         try clear hfz23_1
         try clear hfz23_2
         try clear hfz25_0
         try clear hfz25_1
         try clear hfz25_2
         try clear hfz8_0
         try clear hfz8_1
         try clear hfz8_2
         try clear hfz8_3
         try clear hx232_0
         try clear hx232_1
         try clear hx232_2
         try clear hx233_0
         try clear hx233_1
         try clear hx233_2
         try clear p2
         try clear p232
         try clear p233
         try clear q2
         try clear q232
         try clear q233
         obtain ⟨kq, x44_12, rfl, HA, HJ12, BK230, BK234, HB⟩ := hcut
         cases kq with
         | zero => exact absurd HA.out (by simp [custodyref14_Uses.j1])
         | succ kj12 =>
          have H := HA.out
          clear HA
          simp only [custodyref14_Uses.j1] at H
          have HC26 := Aside0.mk H
          clear H
          go_upto_if 44 with (fail)
          go_cut [5] (fun v5 wc => ∃ (kq : Nat) (x5_25 : Int), v5 = .int .i64 x5_25 ∧ Aside0 (custodyref14_Uses.j2 kq a1 x5_25 x6_1 a0_0 l0_1 l0_2 l0_3 ((rd_T55 l0_2 x6_1).f0) ((rd_T55 l0_2 x6_1).f1) ((rd_T55 l0_2 x6_1).f2) = some r) ∧ Aside0 (kq ≤ kj12) ∧ Aside0 (wc.heap[gb230]? = some (.cells #[.string a0_0, (.slice (some ad232) l0_1.length c0_1), (.slice (some ad233) l0_2.length c0_2), (.slice A0_3 l0_3.length c0_3)] 26 (0, 0))) ∧ Aside0 (wc.heap[gb234]? = some (.cells #[.int .i64 ((rd_T55 l0_2 x6_1).f0), .int .i64 ((rd_T55 l0_2 x6_1).f1), .int .i64 ((rd_T55 l0_2 x6_1).f2)] 55 (0, 0))) ∧ Aside0 (Below w.heap.size w wc))
          case first =>
           have H := HC26.out
           clear HC26
           by_cases c27 : x44_12 = true
           ·subst c27
            have H1 : (custodyref14_Uses.j2 kj12 a1 (Go.bits .or .i64 x5_1 128) x6_1 a0_0 l0_1 l0_2 l0_3 ((rd_T55 l0_2 x6_1).f0) ((rd_T55 l0_2 x6_1).f1) ((rd_T55 l0_2 x6_1).f2)) = some r := by rw [if_pos rfl] at H; exact H
            clear H
            have H := H1
            clear H1
            have H' := Aside0.mk H
            clear H
            go_wp2
            go_meet
            case rel => exact ⟨_, (Go.bits .or .i64 x5_1 128), (by first | rfl | (simp; done) | (simp [*]; done)), H', ⟨by have := HK1.out; have := HJ12.out; first | omega | exact Nat.le_refl _⟩, ⟨by (with_reducible repeat (first | refine blk_drewN ?_ _ | refine blk_drew ?_ | refine blk_alloc ?_ _)); exact BK230.out⟩, ⟨by (with_reducible repeat (first | refine blk_drewN ?_ _ | refine blk_drew ?_ | refine blk_alloc ?_ _)); exact BK234.out⟩, ⟨by repeat (first | (with_reducible first | exact HB.out | apply below_alloc | apply pw_below_drewN | apply below_drew1 | refine below_set ?_ GE230.out | refine below_set ?_ GE234.out) | exact HB.out)⟩⟩
           ·replace c27 := Bool.eq_false_iff.mpr c27
            subst c27
            have H1 : (custodyref14_Uses.j2 kj12 a1 x5_1 x6_1 a0_0 l0_1 l0_2 l0_3 ((rd_T55 l0_2 x6_1).f0) ((rd_T55 l0_2 x6_1).f1) ((rd_T55 l0_2 x6_1).f2)) = some r := by rw [if_neg (show ¬ (false = true) by decide)] at H; exact H
            clear H
            have H := H1
            clear H1
            have H' := Aside0.mk H
            clear H
            go_wp2
            go_meet
            case rel => exact ⟨_, (x5_1), (by first | rfl | (simp; done) | (simp [*]; done)), H', ⟨by have := HK1.out; have := HJ12.out; first | omega | exact Nat.le_refl _⟩, ⟨by (with_reducible repeat (first | refine blk_drewN ?_ _ | refine blk_drew ?_ | refine blk_alloc ?_ _)); exact BK230.out⟩, ⟨by (with_reducible repeat (first | refine blk_drewN ?_ _ | refine blk_drew ?_ | refine blk_alloc ?_ _)); exact BK234.out⟩, ⟨by repeat (first | (with_reducible first | exact HB.out | apply below_alloc | apply pw_below_drewN | apply below_drew1 | refine below_set ?_ GE230.out | refine below_set ?_ GE234.out) | exact HB.out)⟩⟩
          case rest =>
           clear HC26
           try clear c1
           try clear c2
           try clear p2
           try clear q2
           try clear hx2
           try clear c3
           try clear c4
           try clear c5
           try clear c5b0
           try clear c6
           try clear c6b0
           try clear c11
           try clear c11b0
           try clear c12
           try clear c12b0
           try clear c16
           try clear c18
           try clear c18b0
           try clear c18b1
           try clear c19
           try clear c19b0
           try clear c20
           try clear c22
           try clear p23
           try clear q23
           try clear hx23
           try clear c24
           try clear c27
           try clear hcz10_0
           try clear hcz10_1
           try clear hcz10_2
           try clear hcz10_3
           try clear hcz14_0
           try clear hcz14_1
           try clear hcz14_2
           try clear hcz14_3
           try clear hcz17_0
           try clear hcz17_1
           try clear hcz17_2
           try clear hcz21_0
           try clear hcz21_1
           try clear hcz21_2
           try clear hcz23_0
           try clear hcz23_1
           try clear hcz23_2
           try clear hcz25_0
           try clear hcz25_1
           try clear hcz25_2
           try clear hcz8_0
           try clear hcz8_1
           try clear hcz8_2
           try clear hcz8_3
           try clear hfz10_0
           try clear hfz10_1
           try clear hfz10_2
           try clear hfz10_3
           try clear hfz14_0
           try clear hfz14_1
           try clear hfz14_2
           try clear hfz14_3
           try clear hfz17_0
           try clear hfz17_1
           try clear hfz17_2
           try clear hfz21_0
           try clear hfz21_1
           try clear hfz21_2
           try clear hfz23_0
           try clear hfz23_1
           try clear hfz23_2
           try clear hfz25_0
           try clear hfz25_1
           try clear hfz25_2
           try clear hfz8_0
           try clear hfz8_1
           try clear hfz8_2
           try clear hfz8_3
           try clear hx232_0
           try clear hx232_1
           try clear hx232_2
           try clear hx233_0
           try clear hx233_1
           try clear hx233_2
           try clear p2
           try clear p23
           try clear p232
           try clear p233
           try clear q2
           try clear q23
           try clear q232
           try clear q233
           obtain ⟨kq, x5_25, rfl, HA, HJ25, BK230, BK234, HB⟩ := hcut
           cases kq with
           | zero => exact absurd HA.out (by simp [custodyref14_Uses.j2])
           | succ kj25 =>
            have H := HA.out
            clear HA
            simp only [custodyref14_Uses.j2] at H
            have HC28 := Aside0.mk H
            clear H
            go_upto_region 10 with (fail)
            go_cut [55] (fun v55 wc => ∃ (kq : Nat) (x55_27 : Bool), v55 = .bool x55_27 ∧ Aside0 (custodyref14_Uses.j3 kq a1 x5_25 x6_1 x55_27 a0_0 l0_1 l0_2 l0_3 ((rd_T55 l0_2 x6_1).f0) ((rd_T55 l0_2 x6_1).f1) ((rd_T55 l0_2 x6_1).f2) = some r) ∧ Aside0 (kq ≤ kj25) ∧ Aside0 (wc.heap[gb230]? = some (.cells #[.string a0_0, (.slice (some ad232) l0_1.length c0_1), (.slice (some ad233) l0_2.length c0_2), (.slice A0_3 l0_3.length c0_3)] 26 (0, 0))) ∧ Aside0 (wc.heap[gb234]? = some (.cells #[.int .i64 ((rd_T55 l0_2 x6_1).f0), .int .i64 ((rd_T55 l0_2 x6_1).f1), .int .i64 ((rd_T55 l0_2 x6_1).f2)] 55 (0, 0))) ∧ Aside0 (Below w.heap.size w wc))
            case first =>
             have H := HC28.out
             clear HC28
             by_cases c29 : ((rd_T55 l0_2 x6_1).f1) = a1
             ·rw [if_pos c29] at H
              have c29b0 : (((rd_T55 l0_2 x6_1).f1) == a1) = true := beq_iff_eq.mpr c29
              have c29b1 : (((rd_T55 l0_2 x6_1).f1) != a1) = false := bne_eq_false_iff_eq.mpr c29
              clear c29
              (first | rw [c29b0] | (simp only [i64_w, i32_w]; rw [c29b0]) | skip)
              have H' := Aside0.mk H
              clear H
              have hnb30 := NB234_230.out
              have hnc30 := NB230_234.out
              have hcz31_0 : wc.cell? ⟨gb234, 0, none⟩ = some (.int .i64 ((rd_T55 l0_2 x6_1).f0)) := (blk_cell BK234.out 0).trans rfl
              have hcz31_1 : wc.cell? ⟨gb234, 1, none⟩ = some (.int .i64 ((rd_T55 l0_2 x6_1).f1)) := (blk_cell BK234.out 1).trans rfl
              have hcz31_2 : wc.cell? ⟨gb234, 2, none⟩ = some (.int .i64 ((rd_T55 l0_2 x6_1).f2)) := (blk_cell BK234.out 2).trans rfl
              have hfz31_0 := blk_frozen BK234.out 0
              have hfz31_1 := blk_frozen BK234.out 1
              have hfz31_2 := blk_frozen BK234.out 2
              go_wp2
              go_meet
              case rel => exact ⟨_, ((((rd_T55 l0_2 x6_1).f0) == 5)), (by first | rfl | (simp; done) | (simp [*]; done)), H', ⟨by have := HK1.out; have := HJ12.out; have := HJ25.out; first | omega | exact Nat.le_refl _⟩, ⟨by (with_reducible repeat (first | refine blk_drewN ?_ _ | refine blk_drew ?_ | refine blk_alloc ?_ _)); exact BK230.out⟩, ⟨by (with_reducible repeat (first | refine blk_drewN ?_ _ | refine blk_drew ?_ | refine blk_alloc ?_ _)); exact BK234.out⟩, ⟨by repeat (first | (with_reducible first | exact HB.out | apply below_alloc | apply pw_below_drewN | apply below_drew1 | refine below_set ?_ GE230.out | refine below_set ?_ GE234.out) | exact HB.out)⟩⟩
             ·rw [if_neg c29] at H
              have c29b0 : (((rd_T55 l0_2 x6_1).f1) == a1) = false := beq_eq_false_iff_ne.mpr c29
              have c29b1 : (((rd_T55 l0_2 x6_1).f1) != a1) = true := bne_iff_ne.mpr c29
              (first | rw [c29b0] | (simp only [i64_w, i32_w]; rw [c29b0]) | skip)
              have H' := Aside0.mk H
              clear H
              have hnb32 := NB234_230.out
              have hnc32 := NB230_234.out
              have hcz33_0 : wc.cell? ⟨gb234, 0, none⟩ = some (.int .i64 ((rd_T55 l0_2 x6_1).f0)) := (blk_cell BK234.out 0).trans rfl
              have hcz33_1 : wc.cell? ⟨gb234, 1, none⟩ = some (.int .i64 ((rd_T55 l0_2 x6_1).f1)) := (blk_cell BK234.out 1).trans rfl
              have hcz33_2 : wc.cell? ⟨gb234, 2, none⟩ = some (.int .i64 ((rd_T55 l0_2 x6_1).f2)) := (blk_cell BK234.out 2).trans rfl
              have hfz33_0 := blk_frozen BK234.out 0
              have hfz33_1 := blk_frozen BK234.out 1
              have hfz33_2 := blk_frozen BK234.out 2
              go_wp2
              go_meet
              case rel => exact ⟨_, (false), (by first | rfl | (simp; done) | (simp [*]; done)), H', ⟨by have := HK1.out; have := HJ12.out; have := HJ25.out; first | omega | exact Nat.le_refl _⟩, ⟨by (with_reducible repeat (first | refine blk_drewN ?_ _ | refine blk_drew ?_ | refine blk_alloc ?_ _)); exact BK230.out⟩, ⟨by (with_reducible repeat (first | refine blk_drewN ?_ _ | refine blk_drew ?_ | refine blk_alloc ?_ _)); exact BK234.out⟩, ⟨by repeat (first | (with_reducible first | exact HB.out | apply below_alloc | apply pw_below_drewN | apply below_drew1 | refine below_set ?_ GE230.out | refine below_set ?_ GE234.out) | exact HB.out)⟩⟩
            case rest =>
             clear HC28
             try clear c1
             try clear c2
             try clear p2
             try clear q2
             try clear hx2
             try clear c3
             try clear c4
             try clear c5
             try clear c5b0
             try clear c6
             try clear c6b0
             try clear c11
             try clear c11b0
             try clear c12
             try clear c12b0
             try clear c16
             try clear c18
             try clear c18b0
             try clear c18b1
             try clear c19
             try clear c19b0
             try clear c20
             try clear c22
             try clear p23
             try clear q23
             try clear hx23
             try clear c24
             try clear c27
             try clear c29
             try clear c29b0
             try clear c29b1
             try clear c30
             try clear c32
             try clear hcz10_0
             try clear hcz10_1
             try clear hcz10_2
             try clear hcz10_3
             try clear hcz14_0
             try clear hcz14_1
             try clear hcz14_2
             try clear hcz14_3
             try clear hcz17_0
             try clear hcz17_1
             try clear hcz17_2
             try clear hcz21_0
             try clear hcz21_1
             try clear hcz21_2
             try clear hcz23_0
             try clear hcz23_1
             try clear hcz23_2
             try clear hcz25_0
             try clear hcz25_1
             try clear hcz25_2
             try clear hcz31_0
             try clear hcz31_1
             try clear hcz31_2
             try clear hcz33_0
             try clear hcz33_1
             try clear hcz33_2
             try clear hcz8_0
             try clear hcz8_1
             try clear hcz8_2
             try clear hcz8_3
             try clear hfz10_0
             try clear hfz10_1
             try clear hfz10_2
             try clear hfz10_3
             try clear hfz14_0
             try clear hfz14_1
             try clear hfz14_2
             try clear hfz14_3
             try clear hfz17_0
             try clear hfz17_1
             try clear hfz17_2
             try clear hfz21_0
             try clear hfz21_1
             try clear hfz21_2
             try clear hfz23_0
             try clear hfz23_1
             try clear hfz23_2
             try clear hfz25_0
             try clear hfz25_1
             try clear hfz25_2
             try clear hfz31_0
             try clear hfz31_1
             try clear hfz31_2
             try clear hfz33_0
             try clear hfz33_1
             try clear hfz33_2
             try clear hfz8_0
             try clear hfz8_1
             try clear hfz8_2
             try clear hfz8_3
             try clear hx232_0
             try clear hx232_1
             try clear hx232_2
             try clear hx233_0
             try clear hx233_1
             try clear hx233_2
             try clear p2
             try clear p23
             try clear p232
             try clear p233
             try clear q2
             try clear q23
             try clear q232
             try clear q233
             obtain ⟨kq, x55_27, rfl, HA, HJ27, BK230, BK234, HB⟩ := hcut
             cases kq with
             | zero => exact absurd HA.out (by simp [custodyref14_Uses.j3])
             | succ kj27 =>
              have H := HA.out
              clear HA
              simp only [custodyref14_Uses.j3] at H
              by_cases c34 : x55_27 = true
              ·subst c34
               have H1 : (if ((rd_T55 l0_2 x6_1).f2) = a1 then (if ((rd_T55 l0_2 x6_1).f0) = 1 then (custodyref14_Uses.l0 kj27 a1 (Go.bits .or .i64 (Go.bits .or .i64 x5_25 256) 512) (wrap64 (x6_1 + 1)) a0_0 l0_1 l0_2 l0_3) else (if ((rd_T55 l0_2 x6_1).f0) = 3 then (custodyref14_Uses.l0 kj27 a1 (Go.bits .or .i64 (Go.bits .or .i64 x5_25 256) 512) (wrap64 (x6_1 + 1)) a0_0 l0_1 l0_2 l0_3) else (custodyref14_Uses.l0 kj27 a1 (Go.bits .or .i64 x5_25 256) (wrap64 (x6_1 + 1)) a0_0 l0_1 l0_2 l0_3))) else (custodyref14_Uses.l0 kj27 a1 (Go.bits .or .i64 x5_25 256) (wrap64 (x6_1 + 1)) a0_0 l0_1 l0_2 l0_3)) = some r := by rw [if_pos rfl] at H; exact H
               clear H
               have H := H1
               clear H1
               by_cases c35 : ((rd_T55 l0_2 x6_1).f2) = a1
               ·rw [if_pos c35] at H
                have c35b0 : (((rd_T55 l0_2 x6_1).f2) == a1) = true := beq_iff_eq.mpr c35
                have c35b1 : (((rd_T55 l0_2 x6_1).f2) != a1) = false := bne_eq_false_iff_eq.mpr c35
                clear c35
                by_cases c36 : ((rd_T55 l0_2 x6_1).f0) = 1
                ·rw [if_pos c36] at H
                 have c36b0 : (((rd_T55 l0_2 x6_1).f0) == 1) = true := beq_iff_eq.mpr c36
                 have c36b1 : (((rd_T55 l0_2 x6_1).f0) != 1) = false := bne_eq_false_iff_eq.mpr c36
                 clear c36
                 have H' := Aside0.mk H
                 clear H
                 have hnb37 := NB234_230.out
                 have hnc37 := NB230_234.out
                 have hcz38_0 : wc.cell? ⟨gb234, 0, none⟩ = some (.int .i64 ((rd_T55 l0_2 x6_1).f0)) := (blk_cell BK234.out 0).trans rfl
                 have hcz38_1 : wc.cell? ⟨gb234, 1, none⟩ = some (.int .i64 ((rd_T55 l0_2 x6_1).f1)) := (blk_cell BK234.out 1).trans rfl
                 have hcz38_2 : wc.cell? ⟨gb234, 2, none⟩ = some (.int .i64 ((rd_T55 l0_2 x6_1).f2)) := (blk_cell BK234.out 2).trans rfl
                 have hfz38_0 := blk_frozen BK234.out 0
                 have hfz38_1 := blk_frozen BK234.out 1
                 have hfz38_2 := blk_frozen BK234.out 2
                 go_wp2
                 go_roundg kj27
                 case measure => have := HK1.out; have := HJ12.out; have := HJ25.out; have := HJ27.out; omega
                 case rel => exact ⟨(Go.bits .or .i64 (Go.bits .or .i64 x5_25 256) 512), (wrap64 (x6_1 + 1)), (by first | rfl | (simp; done) | (simp [*]; done)), (by first | rfl | (simp; done) | (simp [*]; done)), H', ⟨by have := HK1.out; have := HJ12.out; have := HJ25.out; have := HJ27.out; omega⟩, ⟨by (with_reducible repeat (first | refine blk_drewN ?_ _ | refine blk_drew ?_ | refine blk_alloc ?_ _)); exact BK230.out⟩, ⟨by repeat (first | (with_reducible first | exact HB.out | apply below_alloc | apply pw_below_drewN | apply below_drew1 | refine below_set ?_ GE230.out | refine below_set ?_ GE234.out) | exact HB.out)⟩⟩
                ·rw [if_neg c36] at H
                 have c36b0 : (((rd_T55 l0_2 x6_1).f0) == 1) = false := beq_eq_false_iff_ne.mpr c36
                 have c36b1 : (((rd_T55 l0_2 x6_1).f0) != 1) = true := bne_iff_ne.mpr c36
                 by_cases c39 : ((rd_T55 l0_2 x6_1).f0) = 3
                 ·rw [if_pos c39] at H
                  have c39b0 : (((rd_T55 l0_2 x6_1).f0) == 3) = true := beq_iff_eq.mpr c39
                  have c39b1 : (((rd_T55 l0_2 x6_1).f0) != 3) = false := bne_eq_false_iff_eq.mpr c39
                  clear c39
                  have H' := Aside0.mk H
                  clear H
                  have hnb40 := NB234_230.out
                  have hnc40 := NB230_234.out
                  have hcz41_0 : wc.cell? ⟨gb234, 0, none⟩ = some (.int .i64 ((rd_T55 l0_2 x6_1).f0)) := (blk_cell BK234.out 0).trans rfl
                  have hcz41_1 : wc.cell? ⟨gb234, 1, none⟩ = some (.int .i64 ((rd_T55 l0_2 x6_1).f1)) := (blk_cell BK234.out 1).trans rfl
                  have hcz41_2 : wc.cell? ⟨gb234, 2, none⟩ = some (.int .i64 ((rd_T55 l0_2 x6_1).f2)) := (blk_cell BK234.out 2).trans rfl
                  have hfz41_0 := blk_frozen BK234.out 0
                  have hfz41_1 := blk_frozen BK234.out 1
                  have hfz41_2 := blk_frozen BK234.out 2
                  go_wp2
                  go_roundg kj27
                  case measure => have := HK1.out; have := HJ12.out; have := HJ25.out; have := HJ27.out; omega
                  case rel => exact ⟨(Go.bits .or .i64 (Go.bits .or .i64 x5_25 256) 512), (wrap64 (x6_1 + 1)), (by first | rfl | (simp; done) | (simp [*]; done)), (by first | rfl | (simp; done) | (simp [*]; done)), H', ⟨by have := HK1.out; have := HJ12.out; have := HJ25.out; have := HJ27.out; omega⟩, ⟨by (with_reducible repeat (first | refine blk_drewN ?_ _ | refine blk_drew ?_ | refine blk_alloc ?_ _)); exact BK230.out⟩, ⟨by repeat (first | (with_reducible first | exact HB.out | apply below_alloc | apply pw_below_drewN | apply below_drew1 | refine below_set ?_ GE230.out | refine below_set ?_ GE234.out) | exact HB.out)⟩⟩
                 ·rw [if_neg c39] at H
                  have c39b0 : (((rd_T55 l0_2 x6_1).f0) == 3) = false := beq_eq_false_iff_ne.mpr c39
                  have c39b1 : (((rd_T55 l0_2 x6_1).f0) != 3) = true := bne_iff_ne.mpr c39
                  have H' := Aside0.mk H
                  clear H
                  have hnb42 := NB234_230.out
                  have hnc42 := NB230_234.out
                  have hcz43_0 : wc.cell? ⟨gb234, 0, none⟩ = some (.int .i64 ((rd_T55 l0_2 x6_1).f0)) := (blk_cell BK234.out 0).trans rfl
                  have hcz43_1 : wc.cell? ⟨gb234, 1, none⟩ = some (.int .i64 ((rd_T55 l0_2 x6_1).f1)) := (blk_cell BK234.out 1).trans rfl
                  have hcz43_2 : wc.cell? ⟨gb234, 2, none⟩ = some (.int .i64 ((rd_T55 l0_2 x6_1).f2)) := (blk_cell BK234.out 2).trans rfl
                  have hfz43_0 := blk_frozen BK234.out 0
                  have hfz43_1 := blk_frozen BK234.out 1
                  have hfz43_2 := blk_frozen BK234.out 2
                  go_wp2
                  go_roundg kj27
                  case measure => have := HK1.out; have := HJ12.out; have := HJ25.out; have := HJ27.out; omega
                  case rel => exact ⟨(Go.bits .or .i64 x5_25 256), (wrap64 (x6_1 + 1)), (by first | rfl | (simp; done) | (simp [*]; done)), (by first | rfl | (simp; done) | (simp [*]; done)), H', ⟨by have := HK1.out; have := HJ12.out; have := HJ25.out; have := HJ27.out; omega⟩, ⟨by (with_reducible repeat (first | refine blk_drewN ?_ _ | refine blk_drew ?_ | refine blk_alloc ?_ _)); exact BK230.out⟩, ⟨by repeat (first | (with_reducible first | exact HB.out | apply below_alloc | apply pw_below_drewN | apply below_drew1 | refine below_set ?_ GE230.out | refine below_set ?_ GE234.out) | exact HB.out)⟩⟩
               ·rw [if_neg c35] at H
                have c35b0 : (((rd_T55 l0_2 x6_1).f2) == a1) = false := beq_eq_false_iff_ne.mpr c35
                have c35b1 : (((rd_T55 l0_2 x6_1).f2) != a1) = true := bne_iff_ne.mpr c35
                have H' := Aside0.mk H
                clear H
                have hnb44 := NB234_230.out
                have hnc44 := NB230_234.out
                have hcz45_0 : wc.cell? ⟨gb234, 0, none⟩ = some (.int .i64 ((rd_T55 l0_2 x6_1).f0)) := (blk_cell BK234.out 0).trans rfl
                have hcz45_1 : wc.cell? ⟨gb234, 1, none⟩ = some (.int .i64 ((rd_T55 l0_2 x6_1).f1)) := (blk_cell BK234.out 1).trans rfl
                have hcz45_2 : wc.cell? ⟨gb234, 2, none⟩ = some (.int .i64 ((rd_T55 l0_2 x6_1).f2)) := (blk_cell BK234.out 2).trans rfl
                have hfz45_0 := blk_frozen BK234.out 0
                have hfz45_1 := blk_frozen BK234.out 1
                have hfz45_2 := blk_frozen BK234.out 2
                go_wp2
                go_roundg kj27
                case measure => have := HK1.out; have := HJ12.out; have := HJ25.out; have := HJ27.out; omega
                case rel => exact ⟨(Go.bits .or .i64 x5_25 256), (wrap64 (x6_1 + 1)), (by first | rfl | (simp; done) | (simp [*]; done)), (by first | rfl | (simp; done) | (simp [*]; done)), H', ⟨by have := HK1.out; have := HJ12.out; have := HJ25.out; have := HJ27.out; omega⟩, ⟨by (with_reducible repeat (first | refine blk_drewN ?_ _ | refine blk_drew ?_ | refine blk_alloc ?_ _)); exact BK230.out⟩, ⟨by repeat (first | (with_reducible first | exact HB.out | apply below_alloc | apply pw_below_drewN | apply below_drew1 | refine below_set ?_ GE230.out | refine below_set ?_ GE234.out) | exact HB.out)⟩⟩
              ·replace c34 := Bool.eq_false_iff.mpr c34
               subst c34
               have H1 : (if ((rd_T55 l0_2 x6_1).f2) = a1 then (if ((rd_T55 l0_2 x6_1).f0) = 1 then (custodyref14_Uses.l0 kj27 a1 (Go.bits .or .i64 x5_25 512) (wrap64 (x6_1 + 1)) a0_0 l0_1 l0_2 l0_3) else (if ((rd_T55 l0_2 x6_1).f0) = 3 then (custodyref14_Uses.l0 kj27 a1 (Go.bits .or .i64 x5_25 512) (wrap64 (x6_1 + 1)) a0_0 l0_1 l0_2 l0_3) else (custodyref14_Uses.l0 kj27 a1 x5_25 (wrap64 (x6_1 + 1)) a0_0 l0_1 l0_2 l0_3))) else (custodyref14_Uses.l0 kj27 a1 x5_25 (wrap64 (x6_1 + 1)) a0_0 l0_1 l0_2 l0_3)) = some r := by rw [if_neg (show ¬ (false = true) by decide)] at H; exact H
               clear H
               have H := H1
               clear H1
               by_cases c46 : ((rd_T55 l0_2 x6_1).f2) = a1
               ·rw [if_pos c46] at H
                have c46b0 : (((rd_T55 l0_2 x6_1).f2) == a1) = true := beq_iff_eq.mpr c46
                have c46b1 : (((rd_T55 l0_2 x6_1).f2) != a1) = false := bne_eq_false_iff_eq.mpr c46
                clear c46
                by_cases c47 : ((rd_T55 l0_2 x6_1).f0) = 1
                ·rw [if_pos c47] at H
                 have c47b0 : (((rd_T55 l0_2 x6_1).f0) == 1) = true := beq_iff_eq.mpr c47
                 have c47b1 : (((rd_T55 l0_2 x6_1).f0) != 1) = false := bne_eq_false_iff_eq.mpr c47
                 clear c47
                 have H' := Aside0.mk H
                 clear H
                 have hnb48 := NB234_230.out
                 have hnc48 := NB230_234.out
                 have hcz49_0 : wc.cell? ⟨gb234, 0, none⟩ = some (.int .i64 ((rd_T55 l0_2 x6_1).f0)) := (blk_cell BK234.out 0).trans rfl
                 have hcz49_1 : wc.cell? ⟨gb234, 1, none⟩ = some (.int .i64 ((rd_T55 l0_2 x6_1).f1)) := (blk_cell BK234.out 1).trans rfl
                 have hcz49_2 : wc.cell? ⟨gb234, 2, none⟩ = some (.int .i64 ((rd_T55 l0_2 x6_1).f2)) := (blk_cell BK234.out 2).trans rfl
                 have hfz49_0 := blk_frozen BK234.out 0
                 have hfz49_1 := blk_frozen BK234.out 1
                 have hfz49_2 := blk_frozen BK234.out 2
                 go_wp2
                 go_roundg kj27
                 case measure => have := HK1.out; have := HJ12.out; have := HJ25.out; have := HJ27.out; omega
                 case rel => exact ⟨(Go.bits .or .i64 x5_25 512), (wrap64 (x6_1 + 1)), (by first | rfl | (simp; done) | (simp [*]; done)), (by first | rfl | (simp; done) | (simp [*]; done)), H', ⟨by have := HK1.out; have := HJ12.out; have := HJ25.out; have := HJ27.out; omega⟩, ⟨by (with_reducible repeat (first | refine blk_drewN ?_ _ | refine blk_drew ?_ | refine blk_alloc ?_ _)); exact BK230.out⟩, ⟨by repeat (first | (with_reducible first | exact HB.out | apply below_alloc | apply pw_below_drewN | apply below_drew1 | refine below_set ?_ GE230.out | refine below_set ?_ GE234.out) | exact HB.out)⟩⟩
                ·rw [if_neg c47] at H
                 have c47b0 : (((rd_T55 l0_2 x6_1).f0) == 1) = false := beq_eq_false_iff_ne.mpr c47
                 have c47b1 : (((rd_T55 l0_2 x6_1).f0) != 1) = true := bne_iff_ne.mpr c47
                 by_cases c50 : ((rd_T55 l0_2 x6_1).f0) = 3
                 ·rw [if_pos c50] at H
                  have c50b0 : (((rd_T55 l0_2 x6_1).f0) == 3) = true := beq_iff_eq.mpr c50
                  have c50b1 : (((rd_T55 l0_2 x6_1).f0) != 3) = false := bne_eq_false_iff_eq.mpr c50
                  clear c50
                  have H' := Aside0.mk H
                  clear H
                  have hnb51 := NB234_230.out
                  have hnc51 := NB230_234.out
                  have hcz52_0 : wc.cell? ⟨gb234, 0, none⟩ = some (.int .i64 ((rd_T55 l0_2 x6_1).f0)) := (blk_cell BK234.out 0).trans rfl
                  have hcz52_1 : wc.cell? ⟨gb234, 1, none⟩ = some (.int .i64 ((rd_T55 l0_2 x6_1).f1)) := (blk_cell BK234.out 1).trans rfl
                  have hcz52_2 : wc.cell? ⟨gb234, 2, none⟩ = some (.int .i64 ((rd_T55 l0_2 x6_1).f2)) := (blk_cell BK234.out 2).trans rfl
                  have hfz52_0 := blk_frozen BK234.out 0
                  have hfz52_1 := blk_frozen BK234.out 1
                  have hfz52_2 := blk_frozen BK234.out 2
                  go_wp2
                  go_roundg kj27
                  case measure => have := HK1.out; have := HJ12.out; have := HJ25.out; have := HJ27.out; omega
                  case rel => exact ⟨(Go.bits .or .i64 x5_25 512), (wrap64 (x6_1 + 1)), (by first | rfl | (simp; done) | (simp [*]; done)), (by first | rfl | (simp; done) | (simp [*]; done)), H', ⟨by have := HK1.out; have := HJ12.out; have := HJ25.out; have := HJ27.out; omega⟩, ⟨by (with_reducible repeat (first | refine blk_drewN ?_ _ | refine blk_drew ?_ | refine blk_alloc ?_ _)); exact BK230.out⟩, ⟨by repeat (first | (with_reducible first | exact HB.out | apply below_alloc | apply pw_below_drewN | apply below_drew1 | refine below_set ?_ GE230.out | refine below_set ?_ GE234.out) | exact HB.out)⟩⟩
                 ·rw [if_neg c50] at H
                  have c50b0 : (((rd_T55 l0_2 x6_1).f0) == 3) = false := beq_eq_false_iff_ne.mpr c50
                  have c50b1 : (((rd_T55 l0_2 x6_1).f0) != 3) = true := bne_iff_ne.mpr c50
                  have H' := Aside0.mk H
                  clear H
                  have hnb53 := NB234_230.out
                  have hnc53 := NB230_234.out
                  have hcz54_0 : wc.cell? ⟨gb234, 0, none⟩ = some (.int .i64 ((rd_T55 l0_2 x6_1).f0)) := (blk_cell BK234.out 0).trans rfl
                  have hcz54_1 : wc.cell? ⟨gb234, 1, none⟩ = some (.int .i64 ((rd_T55 l0_2 x6_1).f1)) := (blk_cell BK234.out 1).trans rfl
                  have hcz54_2 : wc.cell? ⟨gb234, 2, none⟩ = some (.int .i64 ((rd_T55 l0_2 x6_1).f2)) := (blk_cell BK234.out 2).trans rfl
                  have hfz54_0 := blk_frozen BK234.out 0
                  have hfz54_1 := blk_frozen BK234.out 1
                  have hfz54_2 := blk_frozen BK234.out 2
                  go_wp2
                  go_roundg kj27
                  case measure => have := HK1.out; have := HJ12.out; have := HJ25.out; have := HJ27.out; omega
                  case rel => exact ⟨(x5_25), (wrap64 (x6_1 + 1)), (by first | rfl | (simp; done) | (simp [*]; done)), (by first | rfl | (simp; done) | (simp [*]; done)), H', ⟨by have := HK1.out; have := HJ12.out; have := HJ25.out; have := HJ27.out; omega⟩, ⟨by (with_reducible repeat (first | refine blk_drewN ?_ _ | refine blk_drew ?_ | refine blk_alloc ?_ _)); exact BK230.out⟩, ⟨by repeat (first | (with_reducible first | exact HB.out | apply below_alloc | apply pw_below_drewN | apply below_drew1 | refine below_set ?_ GE230.out | refine below_set ?_ GE234.out) | exact HB.out)⟩⟩
               ·rw [if_neg c46] at H
                have c46b0 : (((rd_T55 l0_2 x6_1).f2) == a1) = false := beq_eq_false_iff_ne.mpr c46
                have c46b1 : (((rd_T55 l0_2 x6_1).f2) != a1) = true := bne_iff_ne.mpr c46
                have H' := Aside0.mk H
                clear H
                have hnb55 := NB234_230.out
                have hnc55 := NB230_234.out
                have hcz56_0 : wc.cell? ⟨gb234, 0, none⟩ = some (.int .i64 ((rd_T55 l0_2 x6_1).f0)) := (blk_cell BK234.out 0).trans rfl
                have hcz56_1 : wc.cell? ⟨gb234, 1, none⟩ = some (.int .i64 ((rd_T55 l0_2 x6_1).f1)) := (blk_cell BK234.out 1).trans rfl
                have hcz56_2 : wc.cell? ⟨gb234, 2, none⟩ = some (.int .i64 ((rd_T55 l0_2 x6_1).f2)) := (blk_cell BK234.out 2).trans rfl
                have hfz56_0 := blk_frozen BK234.out 0
                have hfz56_1 := blk_frozen BK234.out 1
                have hfz56_2 := blk_frozen BK234.out 2
                go_wp2
                go_roundg kj27
                case measure => have := HK1.out; have := HJ12.out; have := HJ25.out; have := HJ27.out; omega
                case rel => exact ⟨(x5_25), (wrap64 (x6_1 + 1)), (by first | rfl | (simp; done) | (simp [*]; done)), (by first | rfl | (simp; done) | (simp [*]; done)), H', ⟨by have := HK1.out; have := HJ12.out; have := HJ25.out; have := HJ27.out; omega⟩, ⟨by (with_reducible repeat (first | refine blk_drewN ?_ _ | refine blk_drew ?_ | refine blk_alloc ?_ _)); exact BK230.out⟩, ⟨by repeat (first | (with_reducible first | exact HB.out | apply below_alloc | apply pw_below_drewN | apply below_drew1 | refine below_set ?_ GE230.out | refine below_set ?_ GE234.out) | exact HB.out)⟩⟩
       ·rw [if_neg c12] at H
        exact absurd H (by simp)
      ·rw [if_neg c11] at H
       have c11b0 : decide (x6_1 < (l0_2.length : Int)) = false := decide_eq_false c11
       clear c11
       obtain rfl := Option.some.inj H
       have hcz57_0 : wr.cell? ⟨gb230, 0, none⟩ = some (.string a0_0) := (blk_cell BK230.out 0).trans rfl
       have hcz57_1 : wr.cell? ⟨gb230, 1, none⟩ = some (.slice (some ad232) l0_1.length c0_1) := (blk_cell BK230.out 1).trans rfl
       have hcz57_2 : wr.cell? ⟨gb230, 2, none⟩ = some (.slice A0_2 l0_2.length c0_2) := (blk_cell BK230.out 2).trans rfl
       have hcz57_3 : wr.cell? ⟨gb230, 3, none⟩ = some (.slice A0_3 l0_3.length c0_3) := (blk_cell BK230.out 3).trans rfl
       have hfz57_0 := blk_frozen BK230.out 0
       have hfz57_1 := blk_frozen BK230.out 1
       have hfz57_2 := blk_frozen BK230.out 2
       have hfz57_3 := blk_frozen BK230.out 3
       go_wp2
       go_ret
       exact ⟨by first | rfl | (simp [errW_none, errW_some] <;> rfl) | (simp [*, errW_none, errW_some] <;> rfl), by repeat (first | (with_reducible first | exact HB.out | apply below_alloc | apply pw_below_drewN | apply below_drew1 | refine below_set ?_ GE230.out) | exact HB.out)⟩
   ·rw [if_neg c6] at H
    exact absurd H (by simp)
  ·rw [if_neg c5] at H
   exact absurd H (by simp)
 ·replace c4 := Bool.eq_false_iff.mpr c4
  subst c4
  have H1 : (some 0) = some r := by rw [if_neg (show ¬ (false = true) by decide)] at H; exact H
  clear H
  have H := H1
  clear H1
  obtain rfl := Option.some.inj H
  go_enter Tryd.func27, Tryd.ntmps27
  go_wp2_with (first | ((with_reducible refine gate_dst (N := 2) rfl ?_); refine box_event ?hg (N := 2) ?hd (cs := #[.string a0_0, .slice A0_1 l0_1.length c0_1, .slice A0_2 l0_2.length c0_2, .slice A0_3 l0_3.length c0_3]) (t := 26) ?hr ?_; (case hd => rfl); (case hg => rfl); (case hr => first | (go_simp; done) | (go_simp; rfl)); intro gb230 hg w58 hbox hb; have n0_ := Aside0.mk (below_step (by repeat (first | (with_reducible first | exact HB.out | apply below_alloc | apply pw_below_drewN | apply below_drew1) | exact HB.out)) hb); have n1_ := Aside0.mk (hbox); have n2_ := Aside0.mk ((by rw [hg]; exact (below_size (by repeat (first | (with_reducible first | exact HB.out | apply below_alloc | apply pw_below_drewN | apply below_drew1) | exact HB.out))) : w.heap.size ≤ gb230)); have n3_ := Aside0.mk ((by rw [hg]; exact (below_size (by repeat (first | (with_reducible first | exact HB.out | apply below_alloc | apply pw_below_drewN | apply below_drew1) | exact HB.out))) : w.heap.size ≤ gb230)); clear HB; have HB := n0_; have BK230 := n1_; have GW230 := n2_; have GE230 := n3_; clear n0_ n1_ n2_ n3_; clear hb hbox hg; have hcz59_0 : w58.cell? ⟨gb230, 0, none⟩ = some (.string a0_0) := (blk_cell BK230.out 0).trans rfl; have hcz59_1 : w58.cell? ⟨gb230, 1, none⟩ = some (.slice A0_1 l0_1.length c0_1) := (blk_cell BK230.out 1).trans rfl; have hcz59_2 : w58.cell? ⟨gb230, 2, none⟩ = some (.slice A0_2 l0_2.length c0_2) := (blk_cell BK230.out 2).trans rfl; have hcz59_3 : w58.cell? ⟨gb230, 3, none⟩ = some (.slice A0_3 l0_3.length c0_3) := (blk_cell BK230.out 3).trans rfl; have hfz59_0 := blk_frozen BK230.out 0; have hfz59_1 := blk_frozen BK230.out 1; have hfz59_2 := blk_frozen BK230.out 2; have hfz59_3 := blk_frozen BK230.out 3) | ((with_reducible refine gate_callee (f := 37) rfl ?_); refine goesL_ (some 10) rfl rfl Tryd.func37 (by kernel_rfl) rfl #[.agg #[.string a0_0, .slice A0_1 l0_1.length c0_1, .slice A0_2 l0_2.length c0_2, .slice A0_3 l0_3.length c0_3], .int .i64 a1] rfl (by (try simp only [List.map_toArray, List.map_cons, List.map_nil]); first | done | rfl | (simp only [List.length_drop, List.length_take]; rfl)) ?_; (with_reducible refine (custodyref14_is.calls a0_0 _ _ l0_1 _ _ l0_2 _ _ l0_3 a1 false _ ?side1 ?side2 ?side3 ?side4 ?side5 ?side6 A3.out).mono ?_); (case side1 => repeat (first | exact (Kd.C_below HR0_1.out HB.out) | (with_reducible refine Kd.C_alloc ?_ _) | (with_reducible refine Kd.C_drewN ?_ _) | (with_reducible refine Kd.C_drew ?_))); (case side2 => exact HC0_1.out); (case side3 => repeat (first | exact (Kd.C_below HR0_2.out HB.out) | (with_reducible refine Kd.C_alloc ?_ _) | (with_reducible refine Kd.C_drewN ?_ _) | (with_reducible refine Kd.C_drew ?_))); (case side4 => exact HC0_2.out); (case side5 => repeat (first | exact (Kd.C_below HR0_3.out HB.out) | (with_reducible refine Kd.C_alloc ?_ _) | (with_reducible refine Kd.C_drewN ?_ _) | (with_reducible refine Kd.C_drew ?_))); (case side6 => exact HC0_3.out); rintro e w60 ⟨rfl, hb⟩; refine ⟨_, rfl, ?_⟩; have n0_ := Aside0.mk (blk_below (g := gb230) (o := .cells #[.string a0_0, .slice A0_1 l0_1.length c0_1, .slice A0_2 l0_2.length c0_2, .slice A0_3 l0_3.length c0_3] 26 (0, 0)) (by (with_reducible repeat (first | refine blk_drewN ?_ _ | refine blk_drew ?_ | refine blk_alloc ?_ _)); exact BK230.out) hb); have n1_ := Aside0.mk (below_step (by repeat (first | (with_reducible first | exact HB.out | apply below_alloc | apply pw_below_drewN | apply below_drew1 | refine below_set ?_ GE230.out) | exact HB.out)) hb); clear BK230; clear HB; have BK230 := n0_; have HB := n1_; clear n0_ n1_; (try clear hb); (try clear hb2); (try clear hk); (try clear hi)))
  go_ret
  exact ⟨by first | rfl | (simp [errW_none, errW_some] <;> rfl) | (simp [*, errW_none, errW_some] <;> rfl), by repeat (first | (with_reducible first | exact HB.out | apply below_alloc | apply pw_below_drewN | apply below_drew1 | refine below_set ?_ GE230.out) | exact HB.out)⟩

end Go.Proofs.YthldfkjnjcagjaaDoor.P
