-- PRINTED by print.py (a twelfth state) out of the translation. Not trusted: Lean checks it.
import Derived.Test.YtfdhnpdppkcdeaaDoorPx0
import Derived.Test.YtfdhnpdppkcdeaaDoorPx8
import Derived.Test.YtfdhnpdppkcdeaaDoorPx9
namespace Go.Proofs.YtfdhnpdppkcdeaaDoor.P
open Go.RowKit Go.Proofs.YtfdhnpdppkcdeaaDoorW.PrintWords Go.Proofs.YtfdhnpdppkcdeaaDoorW.PrintLast Go.Proofs.YtfdhnpdppkcdeaaDoorW.PrintMore
attribute [local go_sem] max2_int min2_int max_two min_two max_three min_three max_four min_four   -- for this text's walks alone
set_option linter.unusedVariables false
set_option linter.unusedSimpArgs false

/-! ### custodyref24_Pack: function 11 -/
mutual
def custodyref24_Pack.j0 : Nat → Int → ByteArray → Bool → Option (List ByteArray × Int)
 | 0, _, _, _ => none
 | k + 1, x0, x1, x16 => if x16 = true then (some (([] : List ByteArray), 1)) else (if (x1.size : Int) > 8000 then (some (([] : List ByteArray), 2)) else (custodyref24_Pack.l0 k x0 x1 ([] : List ByteArray) 0))
def custodyref24_Pack.l0 : Nat → Int → ByteArray → List ByteArray → Int → Option (List ByteArray × Int)
 | 0, _, _, _, _ => none
 | k + 1, x0, x1, x6, x7 => (custodyref24_Count.f (x1.size : Int)).bind fun t148 => (if x7 < t148 then (if 0 ≤ (wrap64 (44 * x7)) then (if (wrap64 (44 * x7)) ≤ (x1.size : Int) then (if 0 ≤ (mn 44 ((x1.extract ((wrap64 (44 * x7)) : Int).toNat x1.size).size : Int)) then (if (mn 44 ((x1.extract ((wrap64 (44 * x7)) : Int).toNat x1.size).size : Int)) ≤ ((x1.extract ((wrap64 (44 * x7)) : Int).toNat x1.size).size : Int) then ((custodyref24_put.f k x0 8).bind fun t149 => ((custodyref24_put.f k x7 2).bind fun t150 => (if t149.size + t150.size ≤ 9223372036854775807 then ((custodyref24_put.f k ((x1.extract ((wrap64 (44 * x7)) : Int).toNat x1.size).size : Int) 2).bind fun t151 => (if (t149 ++ t150).size + t151.size ≤ 9223372036854775807 then (if ((t149 ++ t150) ++ t151).size + ((x1.extract ((wrap64 (44 * x7)) : Int).toNat x1.size).extract 0 ((mn 44 ((x1.extract ((wrap64 (44 * x7)) : Int).toNat x1.size).size : Int)) : Int).toNat).size ≤ 9223372036854775807 then (if 0 ≤ (wrap64 (44 - (((x1.extract ((wrap64 (44 * x7)) : Int).toNat x1.size).extract 0 ((mn 44 ((x1.extract ((wrap64 (44 * x7)) : Int).toNat x1.size).size : Int)) : Int).toNat).size : Int))) then (if (wrap64 (44 - (((x1.extract ((wrap64 (44 * x7)) : Int).toNat x1.size).extract 0 ((mn 44 ((x1.extract ((wrap64 (44 * x7)) : Int).toNat x1.size).size : Int)) : Int).toNat).size : Int)) : Int).toNat ≤ 281474976710656 then ((some (List.replicate (wrap64 (44 - (((x1.extract ((wrap64 (44 * x7)) : Int).toNat x1.size).extract 0 ((mn 44 ((x1.extract ((wrap64 (44 * x7)) : Int).toNat x1.size).size : Int)) : Int).toNat).size : Int)) : Int).toNat 0 : List Int)).bind fun y152 => (if (((t149 ++ t150) ++ t151) ++ ((x1.extract ((wrap64 (44 * x7)) : Int).toNat x1.size).extract 0 ((mn 44 ((x1.extract ((wrap64 (44 * x7)) : Int).toNat x1.size).size : Int)) : Int).toNat)).size + (strOfNums y152).size ≤ 9223372036854775807 then ((custodyref24_put.f k x0 8).bind fun t155 => (if ((((t149 ++ t150) ++ t151) ++ ((x1.extract ((wrap64 (44 * x7)) : Int).toNat x1.size).extract 0 ((mn 44 ((x1.extract ((wrap64 (44 * x7)) : Int).toNat x1.size).size : Int)) : Int).toNat)) ++ (strOfNums y152)).size + t155.size ≤ 9223372036854775807 then (if x6.length < 8796093022208 then (custodyref24_Pack.l0 k x0 x1 (x6 ++ [((((t149 ++ t150) ++ t151) ++ ((x1.extract ((wrap64 (44 * x7)) : Int).toNat x1.size).extract 0 ((mn 44 ((x1.extract ((wrap64 (44 * x7)) : Int).toNat x1.size).size : Int)) : Int).toNat)) ++ (strOfNums y152)) ++ t155]) (wrap64 (x7 + 1))) else (none)) else (none))) else (none))) else (none)) else (none)) else (none)) else (none))) else (none)))) else (none)) else (none)) else (none)) else (none)) else (some (x6, 0)))
end
def custodyref24_Pack.f (k : Nat) (a0 : Int) (a1 : ByteArray) : Option (List ByteArray × Int) := if a0 < 1 then (custodyref24_Pack.j0 k a0 a1 true) else (custodyref24_Pack.j0 k a0 a1 (decide (a0 > 4611686018427387904)))
theorem custodyref24_Pack.mono_l : ∀ k, (∀ y0 y1 y2, LeO (custodyref24_Pack.j0 k y0 y1 y2) (custodyref24_Pack.j0 (k + 1) y0 y1 y2)) ∧ (∀ y0 y1 y2 y3, LeO (custodyref24_Pack.l0 k y0 y1 y2 y3) (custodyref24_Pack.l0 (k + 1) y0 y1 y2 y3))
 | 0 => ⟨fun _ _ _ r h => by simp [custodyref24_Pack.j0] at h, fun _ _ _ _ r h => by simp [custodyref24_Pack.l0] at h⟩
 | k + 1 => by
  obtain ⟨ih0, ih1⟩ := custodyref24_Pack.mono_l k
  refine ⟨?_, ?_⟩
  ·intro y0 y1 y2
   unfold custodyref24_Pack.j0
   repeat' first
   | (with_reducible exact ih0 _ _ _)
   | (with_reducible exact ih1 _ _ _ _)
   | (with_reducible exact custodyref24_put.mono _ _ _)
   | (with_reducible exact LeO.refl _)
   | (with_reducible exact LeO.none _)
   | (with_reducible refine LeO.ite ?_ ?_)
   | (with_reducible refine LeO.bind ?_ (fun _ => ?_))
   | exact ih0 _ _ _
   | exact ih1 _ _ _ _
   | exact custodyref24_put.mono _ _ _
   | exact LeO.none _
   | refine LeO.ite ?_ ?_
   | refine LeO.bind ?_ (fun _ => ?_)
  ·intro y0 y1 y2 y3
   unfold custodyref24_Pack.l0
   repeat' first
   | (with_reducible exact ih0 _ _ _)
   | (with_reducible exact ih1 _ _ _ _)
   | (with_reducible exact custodyref24_put.mono _ _ _)
   | (with_reducible exact LeO.refl _)
   | (with_reducible exact LeO.none _)
   | (with_reducible refine LeO.ite ?_ ?_)
   | (with_reducible refine LeO.bind ?_ (fun _ => ?_))
   | exact ih0 _ _ _
   | exact ih1 _ _ _ _
   | exact custodyref24_put.mono _ _ _
   | exact LeO.none _
   | refine LeO.ite ?_ ?_
   | refine LeO.bind ?_ (fun _ => ?_)
theorem custodyref24_Pack.mono : ∀ a0 a1 k, LeO (custodyref24_Pack.f k a0 a1) (custodyref24_Pack.f (k + 1) a0 a1) := by
 intro a0 a1 k
 obtain ⟨ih0, ih1⟩ := custodyref24_Pack.mono_l k
 unfold custodyref24_Pack.f
 repeat' first
   | (with_reducible exact ih0 _ _ _)
   | (with_reducible exact ih1 _ _ _ _)
   | (with_reducible exact custodyref24_put.mono _ _ _)
   | (with_reducible exact LeO.refl _)
   | (with_reducible exact LeO.none _)
   | (with_reducible refine LeO.ite ?_ ?_)
   | (with_reducible refine LeO.bind ?_ (fun _ => ?_))
   | exact ih0 _ _ _
   | exact ih1 _ _ _ _
   | exact custodyref24_put.mono _ _ _
   | exact LeO.none _
   | refine LeO.ite ?_ ?_
   | refine LeO.bind ?_ (fun _ => ?_)
def custodyref24_Pack.T11 : Bool × List (List Nat × List Nat) := (true, [([], []), ([0], [0]), ([], []), ([2, 1], [2]), ([1, 3], [1, 3]), ([], []), ([5], [5]), ([6, 3], [6]), ([4, 7], [4, 7]), ([], []), ([8, 9], [8, 9]), ([], []), ([11], [11]), ([12], [12]), ([13, 13], [13]), ([14], [14]), ([10, 15], [10, 15]), ([], []), ([17, 7], [17]), ([16, 18], [16, 18]), ([19, 18, 0, 1, 2, 3, 4, 5, 6, 7, 8, 9, 10, 11, 12, 13, 14, 15, 16, 17, 18, 19], [19])])
def custodyref24_Pack.B11 : List Nat := [0, 1, 0, 7, 15, 0, 32, 111, 255, 0, 1023, 0, 2048, 6144, 14336, 30720, 65535, 0, 131311, 524287, 1048575]
theorem custodyref24_Pack.tab11 : rtab .any (opsOf Tryd.f11 11) = custodyref24_Pack.T11 := by kernel_rfl
theorem custodyref24_Pack.bits11 : waitsOk custodyref24_Pack.T11.2 custodyref24_Pack.B11 = true := by kernel_rfl
set_option maxHeartbeats 8000000 in
set_option maxRecDepth 100000 in
theorem custodyref24_Pack.calls (k : Nat) (a0 : Int) (a1 : ByteArray) (r1 : List ByteArray) (r2 : Int) (w : World) (h : custodyref24_Pack.f k a0 a1 = some (r1, r2)) :
  Calls Tryd.prog 11 #[.int .i64 a0, .string a1] w fun e w' => ∃ v0_ : Value, e = .returned (.tuple #[v0_, .int .i64 r2]) ∧ Kd.R Kd.string 9 w' w.heap.size (fun _ => True) v0_ r1 ∧ Below w.heap.size w w' := by
 have HB := Aside0.mk (Below.refl w.heap.size w)
 have H : (if a0 < 1 then (custodyref24_Pack.j0 k a0 a1 true) else (custodyref24_Pack.j0 k a0 a1 (decide (a0 > 4611686018427387904)))) = some (r1, r2) := h
 clear h
 have HC3 := Aside0.mk H
 clear H
 go_enter Tryd.func11, Tryd.ntmps11
 go_upto_region 1 with (fail)
 go_cut [16] (fun v16 wc => ∃ (kq : Nat) (x16_2 : Bool), v16 = .bool x16_2 ∧ Aside0 (custodyref24_Pack.j0 kq a0 a1 x16_2 = some (r1, r2)) ∧ Aside0 (kq ≤ k) ∧ Aside0 (Below w.heap.size w wc))
 case first =>
  have H := HC3.out
  clear HC3
  by_cases c4 : a0 < 1
  ·rw [if_pos c4] at H
   have c4b0 : decide (a0 < 1) = true := decide_eq_true c4
   clear c4
   (first | rw [c4b0] | (simp only [i64_w, i32_w]; rw [c4b0]) | skip)
   have H' := Aside0.mk H
   clear H
   go_wp2
   go_meet
   case rel => exact ⟨_, (true), (by first | rfl | (simp; done) | (simp [*]; done)), H', ⟨by first | omega | exact Nat.le_refl _⟩, ⟨by repeat (first | (with_reducible first | exact HB.out | apply below_alloc | apply pw_below_drewN | apply below_drew1) | exact HB.out)⟩⟩
  ·rw [if_neg c4] at H
   have c4b0 : decide (a0 < 1) = false := decide_eq_false c4
   clear c4
   (first | rw [c4b0] | (simp only [i64_w, i32_w]; rw [c4b0]) | skip)
   have H' := Aside0.mk H
   clear H
   go_wp2
   go_meet
   case rel => exact ⟨_, (decide (a0 > 4611686018427387904)), (by first | rfl | (simp; done) | (simp [*]; done)), H', ⟨by first | omega | exact Nat.le_refl _⟩, ⟨by repeat (first | (with_reducible first | exact HB.out | apply below_alloc | apply pw_below_drewN | apply below_drew1) | exact HB.out)⟩⟩
 case rest =>
  clear HC3
  try clear c1
  try clear p2
  try clear c4
  try clear c4b0
  obtain ⟨kq, x16_2, rfl, HA, HJ2, HB⟩ := hcut
  cases kq with
  | zero => exact absurd HA.out (by simp [custodyref24_Pack.j0])
  | succ kj2 =>
   have H := HA.out
   clear HA
   simp only [custodyref24_Pack.j0] at H
   by_cases c5 : x16_2 = true
   ·subst c5
    have H1 : (some (([] : List ByteArray), 1)) = some (r1, r2) := by rw [if_pos rfl] at H; exact H
    clear H
    have H := H1
    clear H1
    simp only [Option.some.injEq, Prod.mk.injEq] at H
    obtain ⟨rfl, rfl⟩ := H
    go_wp2
    go_ret2
    exact ⟨_, by first | rfl | (simp [errW_none, errW_some] <;> rfl) | (simp [*, errW_none, errW_some] <;> rfl), by first | exact Kd.R_nil _ _ _ _ _ | exact Kd.N_nil _ _ _ _ _ | exact Kd.V_nil _ _ _ _ _ | exact Kd.Q_nil _ _ _ _ _ | exact Kd.S_nil _ _ _ _ _, by repeat (first | (with_reducible first | exact HB.out | apply below_alloc | apply pw_below_drewN | apply below_drew1) | exact HB.out)⟩
   ·replace c5 := Bool.eq_false_iff.mpr c5
    subst c5
    have H1 : (if (a1.size : Int) > 8000 then (some (([] : List ByteArray), 2)) else (custodyref24_Pack.l0 kj2 a0 a1 ([] : List ByteArray) 0)) = some (r1, r2) := by rw [if_neg (show ¬ (false = true) by decide)] at H; exact H
    clear H
    have H := H1
    clear H1
    by_cases c6 : (a1.size : Int) > 8000
    ·rw [if_pos c6] at H
     have c6b0 : decide (8000 < (a1.size : Int)) = true := decide_eq_true c6
     have c6b1 : decide (8000 < a1.size) = true := decide_eq_true (by omega)
     clear c6
     simp only [Option.some.injEq, Prod.mk.injEq] at H
     obtain ⟨rfl, rfl⟩ := H
     go_wp2
     go_ret2
     exact ⟨_, by first | rfl | (simp [errW_none, errW_some] <;> rfl) | (simp [*, errW_none, errW_some] <;> rfl), by first | exact Kd.R_nil _ _ _ _ _ | exact Kd.N_nil _ _ _ _ _ | exact Kd.V_nil _ _ _ _ _ | exact Kd.Q_nil _ _ _ _ _ | exact Kd.S_nil _ _ _ _ _, by repeat (first | (with_reducible first | exact HB.out | apply below_alloc | apply pw_below_drewN | apply below_drew1) | exact HB.out)⟩
    ·rw [if_neg c6] at H
     have c6b0 : decide (8000 < (a1.size : Int)) = false := decide_eq_false c6
     have c6b1 : decide (8000 < a1.size) = false := decide_eq_false (by omega)
     clear c6
     have H' := Aside0.mk H
     clear H
     go_wp2
     go_loopg [6, 7] kj2 (fun kq v6 v7 w' => ∃ (x6_2 : List ByteArray) (x7_2 : Int), v7 = .int .i64 x7_2 ∧ Aside0 (custodyref24_Pack.l0 kq a0 a1 x6_2 x7_2 = some (r1, r2)) ∧ Aside0 (kq ≤ kj2) ∧ Aside0 (Kd.R Kd.string 9 w' w.heap.size (fun _ => True) v6 x6_2) ∧ Aside0 (Below w.heap.size w w'))
     case atStart => exact ⟨(([] : List ByteArray)), (0), (by first | rfl | (simp; done) | (simp [*]; done)), H', ⟨Nat.le_refl _⟩, ⟨by first | exact Kd.R_nil _ _ _ _ _ | exact Kd.N_nil _ _ _ _ _ | exact Kd.V_nil _ _ _ _ _ | exact Kd.Q_nil _ _ _ _ _ | exact Kd.S_nil _ _ _ _ _⟩, ⟨by repeat (first | (with_reducible first | exact HB.out | apply below_alloc | apply pw_below_drewN | apply below_drew1) | exact HB.out)⟩⟩
     case round =>
      clear H'
      try clear c1
      try clear p2
      try clear c4
      try clear c4b0
      try clear c5
      try clear c6
      try clear c6b0
      try clear c6b1
      try clear p2
      obtain ⟨x6_2, x7_2, rfl, HA, HK2, HO_6, HB⟩ := hrel
      cases gk with
      | zero => exact absurd HA.out (by simp [custodyref24_Pack.l0])
      | succ k2 =>
       have H := HA.out
       clear HA
       simp only [custodyref24_Pack.l0] at H
       replace H := Option.bind_eq_some_iff.mp H
       obtain ⟨t148, A70, H⟩ := H
       replace H : (if x7_2 < t148 then (if 0 ≤ (wrap64 (44 * x7_2)) then (if (wrap64 (44 * x7_2)) ≤ (a1.size : Int) then (if 0 ≤ (mn 44 ((a1.extract ((wrap64 (44 * x7_2)) : Int).toNat a1.size).size : Int)) then (if (mn 44 ((a1.extract ((wrap64 (44 * x7_2)) : Int).toNat a1.size).size : Int)) ≤ ((a1.extract ((wrap64 (44 * x7_2)) : Int).toNat a1.size).size : Int) then ((custodyref24_put.f k2 a0 8).bind fun t149 => ((custodyref24_put.f k2 x7_2 2).bind fun t150 => (if t149.size + t150.size ≤ 9223372036854775807 then ((custodyref24_put.f k2 ((a1.extract ((wrap64 (44 * x7_2)) : Int).toNat a1.size).size : Int) 2).bind fun t151 => (if (t149 ++ t150).size + t151.size ≤ 9223372036854775807 then (if ((t149 ++ t150) ++ t151).size + ((a1.extract ((wrap64 (44 * x7_2)) : Int).toNat a1.size).extract 0 ((mn 44 ((a1.extract ((wrap64 (44 * x7_2)) : Int).toNat a1.size).size : Int)) : Int).toNat).size ≤ 9223372036854775807 then (if 0 ≤ (wrap64 (44 - (((a1.extract ((wrap64 (44 * x7_2)) : Int).toNat a1.size).extract 0 ((mn 44 ((a1.extract ((wrap64 (44 * x7_2)) : Int).toNat a1.size).size : Int)) : Int).toNat).size : Int))) then (if (wrap64 (44 - (((a1.extract ((wrap64 (44 * x7_2)) : Int).toNat a1.size).extract 0 ((mn 44 ((a1.extract ((wrap64 (44 * x7_2)) : Int).toNat a1.size).size : Int)) : Int).toNat).size : Int)) : Int).toNat ≤ 281474976710656 then ((some (List.replicate (wrap64 (44 - (((a1.extract ((wrap64 (44 * x7_2)) : Int).toNat a1.size).extract 0 ((mn 44 ((a1.extract ((wrap64 (44 * x7_2)) : Int).toNat a1.size).size : Int)) : Int).toNat).size : Int)) : Int).toNat 0 : List Int)).bind fun y152 => (if (((t149 ++ t150) ++ t151) ++ ((a1.extract ((wrap64 (44 * x7_2)) : Int).toNat a1.size).extract 0 ((mn 44 ((a1.extract ((wrap64 (44 * x7_2)) : Int).toNat a1.size).size : Int)) : Int).toNat)).size + (strOfNums y152).size ≤ 9223372036854775807 then ((custodyref24_put.f k2 a0 8).bind fun t155 => (if ((((t149 ++ t150) ++ t151) ++ ((a1.extract ((wrap64 (44 * x7_2)) : Int).toNat a1.size).extract 0 ((mn 44 ((a1.extract ((wrap64 (44 * x7_2)) : Int).toNat a1.size).size : Int)) : Int).toNat)) ++ (strOfNums y152)).size + t155.size ≤ 9223372036854775807 then (if x6_2.length < 8796093022208 then (custodyref24_Pack.l0 k2 a0 a1 (x6_2 ++ [((((t149 ++ t150) ++ t151) ++ ((a1.extract ((wrap64 (44 * x7_2)) : Int).toNat a1.size).extract 0 ((mn 44 ((a1.extract ((wrap64 (44 * x7_2)) : Int).toNat a1.size).size : Int)) : Int).toNat)) ++ (strOfNums y152)) ++ t155]) (wrap64 (x7_2 + 1))) else (none)) else (none))) else (none))) else (none)) else (none)) else (none)) else (none))) else (none)))) else (none)) else (none)) else (none)) else (none)) else (some (x6_2, 0))) = some (r1, r2) := H
       have A7 := Aside0.mk A70
       clear A70
       by_cases c8 : x7_2 < t148
       ·rw [if_pos c8] at H
        have c8b0 : decide (x7_2 < t148) = true := decide_eq_true c8
        clear c8
        obtain ⟨ji9, hji9⟩ : ∃ j_ : Int, (wrap64 (44 * x7_2)) = j_ := ⟨_, rfl⟩
        replace H : (if 0 ≤ (ji9) then (if (ji9) ≤ (a1.size : Int) then (if 0 ≤ (mn 44 ((a1.extract ((ji9) : Int).toNat a1.size).size : Int)) then (if (mn 44 ((a1.extract ((ji9) : Int).toNat a1.size).size : Int)) ≤ ((a1.extract ((ji9) : Int).toNat a1.size).size : Int) then ((custodyref24_put.f k2 a0 8).bind fun t149 => ((custodyref24_put.f k2 x7_2 2).bind fun t150 => (if t149.size + t150.size ≤ 9223372036854775807 then ((custodyref24_put.f k2 ((a1.extract ((ji9) : Int).toNat a1.size).size : Int) 2).bind fun t151 => (if (t149 ++ t150).size + t151.size ≤ 9223372036854775807 then (if ((t149 ++ t150) ++ t151).size + ((a1.extract ((ji9) : Int).toNat a1.size).extract 0 ((mn 44 ((a1.extract ((ji9) : Int).toNat a1.size).size : Int)) : Int).toNat).size ≤ 9223372036854775807 then (if 0 ≤ (wrap64 (44 - (((a1.extract ((ji9) : Int).toNat a1.size).extract 0 ((mn 44 ((a1.extract ((ji9) : Int).toNat a1.size).size : Int)) : Int).toNat).size : Int))) then (if (wrap64 (44 - (((a1.extract ((ji9) : Int).toNat a1.size).extract 0 ((mn 44 ((a1.extract ((ji9) : Int).toNat a1.size).size : Int)) : Int).toNat).size : Int)) : Int).toNat ≤ 281474976710656 then ((some (List.replicate (wrap64 (44 - (((a1.extract ((ji9) : Int).toNat a1.size).extract 0 ((mn 44 ((a1.extract ((ji9) : Int).toNat a1.size).size : Int)) : Int).toNat).size : Int)) : Int).toNat 0 : List Int)).bind fun y152 => (if (((t149 ++ t150) ++ t151) ++ ((a1.extract ((ji9) : Int).toNat a1.size).extract 0 ((mn 44 ((a1.extract ((ji9) : Int).toNat a1.size).size : Int)) : Int).toNat)).size + (strOfNums y152).size ≤ 9223372036854775807 then ((custodyref24_put.f k2 a0 8).bind fun t155 => (if ((((t149 ++ t150) ++ t151) ++ ((a1.extract ((ji9) : Int).toNat a1.size).extract 0 ((mn 44 ((a1.extract ((ji9) : Int).toNat a1.size).size : Int)) : Int).toNat)) ++ (strOfNums y152)).size + t155.size ≤ 9223372036854775807 then (if x6_2.length < 8796093022208 then (custodyref24_Pack.l0 k2 a0 a1 (x6_2 ++ [((((t149 ++ t150) ++ t151) ++ ((a1.extract ((ji9) : Int).toNat a1.size).extract 0 ((mn 44 ((a1.extract ((ji9) : Int).toNat a1.size).size : Int)) : Int).toNat)) ++ (strOfNums y152)) ++ t155]) (wrap64 (x7_2 + 1))) else (none)) else (none))) else (none))) else (none)) else (none)) else (none)) else (none))) else (none)))) else (none)) else (none)) else (none)) else (none)) = some (r1, r2) := by first | (rw [hji9] at H; exact H) | (simp only [hji9] at H ⊢; exact H)
        (try rw [hji9] at A7)
        have hji9w : (IntKind.i64.wrap (44 * x7_2)) = ji9 := (i64_w _).trans hji9
        by_cases c10 : 0 ≤ (ji9)
        ·rw [if_pos c10] at H
         have c10b0 := eq_true c10
         have c10b1 : decide (0 ≤ (ji9)) = true := decide_eq_true c10
         clear c10
         by_cases c11 : (ji9) ≤ (a1.size : Int)
         ·rw [if_pos c11] at H
          have c11b0 := eq_true c11
          have c11b1 : decide ((ji9) ≤ (a1.size : Int)) = true := decide_eq_true c11
          clear c11
          obtain ⟨rest_, hrest_⟩ : ∃ r_ : ByteArray, (a1.extract ((ji9) : Int).toNat a1.size) = r_ := ⟨_, rfl⟩
          rw [hrest_] at H
          obtain ⟨ji12, hji12⟩ : ∃ j_ : Int, (mn 44 (rest_.size : Int)) = j_ := ⟨_, rfl⟩
          replace H : (if 0 ≤ (ji12) then (if (ji12) ≤ (rest_.size : Int) then ((custodyref24_put.f k2 a0 8).bind fun t149 => ((custodyref24_put.f k2 x7_2 2).bind fun t150 => (if t149.size + t150.size ≤ 9223372036854775807 then ((custodyref24_put.f k2 (rest_.size : Int) 2).bind fun t151 => (if (t149 ++ t150).size + t151.size ≤ 9223372036854775807 then (if ((t149 ++ t150) ++ t151).size + (rest_.extract 0 ((ji12) : Int).toNat).size ≤ 9223372036854775807 then (if 0 ≤ (wrap64 (44 - ((rest_.extract 0 ((ji12) : Int).toNat).size : Int))) then (if (wrap64 (44 - ((rest_.extract 0 ((ji12) : Int).toNat).size : Int)) : Int).toNat ≤ 281474976710656 then ((some (List.replicate (wrap64 (44 - ((rest_.extract 0 ((ji12) : Int).toNat).size : Int)) : Int).toNat 0 : List Int)).bind fun y152 => (if (((t149 ++ t150) ++ t151) ++ (rest_.extract 0 ((ji12) : Int).toNat)).size + (strOfNums y152).size ≤ 9223372036854775807 then ((custodyref24_put.f k2 a0 8).bind fun t155 => (if ((((t149 ++ t150) ++ t151) ++ (rest_.extract 0 ((ji12) : Int).toNat)) ++ (strOfNums y152)).size + t155.size ≤ 9223372036854775807 then (if x6_2.length < 8796093022208 then (custodyref24_Pack.l0 k2 a0 a1 (x6_2 ++ [((((t149 ++ t150) ++ t151) ++ (rest_.extract 0 ((ji12) : Int).toNat)) ++ (strOfNums y152)) ++ t155]) (wrap64 (x7_2 + 1))) else (none)) else (none))) else (none))) else (none)) else (none)) else (none)) else (none))) else (none)))) else (none)) else (none)) = some (r1, r2) := by first | (rw [hji12] at H; exact H) | (simp only [hji12] at H ⊢; exact H)
          (try rw [hji12] at A7)
          have hji12_ : (if (rest_.size : Int) < 44 then (rest_.size : Int) else 44) = ji12 := hji12
          by_cases c13 : 0 ≤ (ji12)
          ·rw [if_pos c13] at H
           have c13b0 := eq_true c13
           have c13b1 : decide (0 ≤ (ji12)) = true := decide_eq_true c13
           clear c13
           by_cases c14 : (ji12) ≤ (rest_.size : Int)
           ·rw [if_pos c14] at H
            have c14b0 := eq_true c14
            have c14b1 : decide ((ji12) ≤ (rest_.size : Int)) = true := decide_eq_true c14
            clear c14
            obtain ⟨text_, htext_⟩ : ∃ r_ : ByteArray, (rest_.extract 0 ((ji12) : Int).toNat) = r_ := ⟨_, rfl⟩
            rw [htext_] at H
            replace H := Option.bind_eq_some_iff.mp H
            obtain ⟨t149, A150, H⟩ := H
            replace H : ((custodyref24_put.f k2 x7_2 2).bind fun t150 => (if t149.size + t150.size ≤ 9223372036854775807 then ((custodyref24_put.f k2 (rest_.size : Int) 2).bind fun t151 => (if (t149 ++ t150).size + t151.size ≤ 9223372036854775807 then (if ((t149 ++ t150) ++ t151).size + text_.size ≤ 9223372036854775807 then (if 0 ≤ (wrap64 (44 - (text_.size : Int))) then (if (wrap64 (44 - (text_.size : Int)) : Int).toNat ≤ 281474976710656 then ((some (List.replicate (wrap64 (44 - (text_.size : Int)) : Int).toNat 0 : List Int)).bind fun y152 => (if (((t149 ++ t150) ++ t151) ++ text_).size + (strOfNums y152).size ≤ 9223372036854775807 then ((custodyref24_put.f k2 a0 8).bind fun t155 => (if ((((t149 ++ t150) ++ t151) ++ text_) ++ (strOfNums y152)).size + t155.size ≤ 9223372036854775807 then (if x6_2.length < 8796093022208 then (custodyref24_Pack.l0 k2 a0 a1 (x6_2 ++ [((((t149 ++ t150) ++ t151) ++ text_) ++ (strOfNums y152)) ++ t155]) (wrap64 (x7_2 + 1))) else (none)) else (none))) else (none))) else (none)) else (none)) else (none)) else (none))) else (none))) = some (r1, r2) := H
            have A15 := Aside0.mk A150
            clear A150
            replace H := Option.bind_eq_some_iff.mp H
            obtain ⟨t150, A160, H⟩ := H
            replace H : (if t149.size + t150.size ≤ 9223372036854775807 then ((custodyref24_put.f k2 (rest_.size : Int) 2).bind fun t151 => (if (t149 ++ t150).size + t151.size ≤ 9223372036854775807 then (if ((t149 ++ t150) ++ t151).size + text_.size ≤ 9223372036854775807 then (if 0 ≤ (wrap64 (44 - (text_.size : Int))) then (if (wrap64 (44 - (text_.size : Int)) : Int).toNat ≤ 281474976710656 then ((some (List.replicate (wrap64 (44 - (text_.size : Int)) : Int).toNat 0 : List Int)).bind fun y152 => (if (((t149 ++ t150) ++ t151) ++ text_).size + (strOfNums y152).size ≤ 9223372036854775807 then ((custodyref24_put.f k2 a0 8).bind fun t155 => (if ((((t149 ++ t150) ++ t151) ++ text_) ++ (strOfNums y152)).size + t155.size ≤ 9223372036854775807 then (if x6_2.length < 8796093022208 then (custodyref24_Pack.l0 k2 a0 a1 (x6_2 ++ [((((t149 ++ t150) ++ t151) ++ text_) ++ (strOfNums y152)) ++ t155]) (wrap64 (x7_2 + 1))) else (none)) else (none))) else (none))) else (none)) else (none)) else (none)) else (none))) else (none)) = some (r1, r2) := H
            have A16 := Aside0.mk A160
            clear A160
            by_cases c17 : t149.size + t150.size ≤ 9223372036854775807
            ·rw [if_pos c17] at H
             have c17b0 := eq_true c17
             have c17b1 : decide (t149.size + t150.size ≤ 9223372036854775807) = true := decide_eq_true c17
             try have c17b2 : (9223372036854775807 < t149.size + t150.size) = False := eq_false (Nat.not_lt.2 c17)
             replace H := Option.bind_eq_some_iff.mp H
             obtain ⟨t151, A180, H⟩ := H
             replace H : (if (t149 ++ t150).size + t151.size ≤ 9223372036854775807 then (if ((t149 ++ t150) ++ t151).size + text_.size ≤ 9223372036854775807 then (if 0 ≤ (wrap64 (44 - (text_.size : Int))) then (if (wrap64 (44 - (text_.size : Int)) : Int).toNat ≤ 281474976710656 then ((some (List.replicate (wrap64 (44 - (text_.size : Int)) : Int).toNat 0 : List Int)).bind fun y152 => (if (((t149 ++ t150) ++ t151) ++ text_).size + (strOfNums y152).size ≤ 9223372036854775807 then ((custodyref24_put.f k2 a0 8).bind fun t155 => (if ((((t149 ++ t150) ++ t151) ++ text_) ++ (strOfNums y152)).size + t155.size ≤ 9223372036854775807 then (if x6_2.length < 8796093022208 then (custodyref24_Pack.l0 k2 a0 a1 (x6_2 ++ [((((t149 ++ t150) ++ t151) ++ text_) ++ (strOfNums y152)) ++ t155]) (wrap64 (x7_2 + 1))) else (none)) else (none))) else (none))) else (none)) else (none)) else (none)) else (none)) = some (r1, r2) := H
             have A18 := Aside0.mk A180
             clear A180
             by_cases c19 : (t149 ++ t150).size + t151.size ≤ 9223372036854775807
             ·rw [if_pos c19] at H
              have c19b0 := eq_true c19
              have c19b1 : decide ((t149 ++ t150).size + t151.size ≤ 9223372036854775807) = true := decide_eq_true c19
              try have c19b2 : (9223372036854775807 < (t149 ++ t150).size + t151.size) = False := eq_false (Nat.not_lt.2 c19)
              have c19n : (9223372036854775807 < t149.size + t150.size + t151.size) = False := by have z_ := c19; simp only [ByteArray.size_append] at z_; exact eq_false (Nat.not_lt.2 z_)
              by_cases c20 : ((t149 ++ t150) ++ t151).size + text_.size ≤ 9223372036854775807
              ·rw [if_pos c20] at H
               have c20b0 := eq_true c20
               have c20b1 : decide (((t149 ++ t150) ++ t151).size + text_.size ≤ 9223372036854775807) = true := decide_eq_true c20
               try have c20b2 : (9223372036854775807 < ((t149 ++ t150) ++ t151).size + text_.size) = False := eq_false (Nat.not_lt.2 c20)
               have c20n : (9223372036854775807 < t149.size + t150.size + t151.size + text_.size) = False := by have z_ := c20; simp only [ByteArray.size_append] at z_; exact eq_false (Nat.not_lt.2 z_)
               obtain ⟨ji21, hji21⟩ : ∃ j_ : Int, (wrap64 (44 - (text_.size : Int))) = j_ := ⟨_, rfl⟩
               replace H : (if 0 ≤ (ji21) then (if (ji21 : Int).toNat ≤ 281474976710656 then ((some (List.replicate (ji21 : Int).toNat 0 : List Int)).bind fun y152 => (if (((t149 ++ t150) ++ t151) ++ text_).size + (strOfNums y152).size ≤ 9223372036854775807 then ((custodyref24_put.f k2 a0 8).bind fun t155 => (if ((((t149 ++ t150) ++ t151) ++ text_) ++ (strOfNums y152)).size + t155.size ≤ 9223372036854775807 then (if x6_2.length < 8796093022208 then (custodyref24_Pack.l0 k2 a0 a1 (x6_2 ++ [((((t149 ++ t150) ++ t151) ++ text_) ++ (strOfNums y152)) ++ t155]) (wrap64 (x7_2 + 1))) else (none)) else (none))) else (none))) else (none)) else (none)) = some (r1, r2) := by first | (rw [hji21] at H; exact H) | (simp only [hji21] at H ⊢; exact H)
               (try rw [hji21] at A7)
               (try rw [hji21] at A15)
               (try rw [hji21] at A16)
               (try rw [hji21] at A18)
               have hji21w : (IntKind.i64.wrap (44 - (text_.size : Int))) = ji21 := (i64_w _).trans hji21
               by_cases c22 : 0 ≤ (ji21)
               ·rw [if_pos c22] at H
                have c22b0 := eq_true c22
                have c22b1 : decide (0 ≤ (ji21)) = true := decide_eq_true c22
                clear c22
                by_cases c23 : (ji21 : Int).toNat ≤ 281474976710656
                ·rw [if_pos c23] at H
                 have c23b0 := eq_true c23
                 have c23b1 : decide ((ji21 : Int).toNat ≤ 281474976710656) = true := decide_eq_true c23
                 clear c23
                 obtain ⟨y152, hy152⟩ : ∃ y_ : List Int, y_ = (List.replicate (ji21 : Int).toNat 0) := ⟨_, rfl⟩
                 replace H : (if (((t149 ++ t150) ++ t151) ++ text_).size + (strOfNums y152).size ≤ 9223372036854775807 then ((custodyref24_put.f k2 a0 8).bind fun t155 => (if ((((t149 ++ t150) ++ t151) ++ text_) ++ (strOfNums y152)).size + t155.size ≤ 9223372036854775807 then (if x6_2.length < 8796093022208 then (custodyref24_Pack.l0 k2 a0 a1 (x6_2 ++ [((((t149 ++ t150) ++ t151) ++ text_) ++ (strOfNums y152)) ++ t155]) (wrap64 (x7_2 + 1))) else (none)) else (none))) else (none)) = some (r1, r2) := by first | (rw [hy152]; with_reducible exact H) | (have H2_ := (Option.bind_some _ _).symm.trans H; rw [hy152]; with_reducible exact H2_) | (have H2_ := (Option.bind_some _ _).symm.trans H; with_reducible exact H2_) | with_reducible exact H | (rw [hy152]; exact H) | exact H
                 have Ny152 := Aside0.mk hy152
                 clear hy152
                 by_cases c24 : (((t149 ++ t150) ++ t151) ++ text_).size + (strOfNums y152).size ≤ 9223372036854775807
                 ·rw [if_pos c24] at H
                  have c24b0 := eq_true c24
                  have c24b1 : decide ((((t149 ++ t150) ++ t151) ++ text_).size + (strOfNums y152).size ≤ 9223372036854775807) = true := decide_eq_true c24
                  try have c24b2 : (9223372036854775807 < (((t149 ++ t150) ++ t151) ++ text_).size + (strOfNums y152).size) = False := eq_false (Nat.not_lt.2 c24)
                  have c24n : (9223372036854775807 < t149.size + t150.size + t151.size + text_.size + (strOfNums y152).size) = False := by have z_ := c24; simp only [ByteArray.size_append] at z_; exact eq_false (Nat.not_lt.2 z_)
                  replace H := Option.bind_eq_some_iff.mp H
                  obtain ⟨t155, A250, H⟩ := H
                  replace H : (if ((((t149 ++ t150) ++ t151) ++ text_) ++ (strOfNums y152)).size + t155.size ≤ 9223372036854775807 then (if x6_2.length < 8796093022208 then (custodyref24_Pack.l0 k2 a0 a1 (x6_2 ++ [((((t149 ++ t150) ++ t151) ++ text_) ++ (strOfNums y152)) ++ t155]) (wrap64 (x7_2 + 1))) else (none)) else (none)) = some (r1, r2) := H
                  have A25 := Aside0.mk A250
                  clear A250
                  by_cases c26 : ((((t149 ++ t150) ++ t151) ++ text_) ++ (strOfNums y152)).size + t155.size ≤ 9223372036854775807
                  ·rw [if_pos c26] at H
                   have c26b0 := eq_true c26
                   have c26b1 : decide (((((t149 ++ t150) ++ t151) ++ text_) ++ (strOfNums y152)).size + t155.size ≤ 9223372036854775807) = true := decide_eq_true c26
                   try have c26b2 : (9223372036854775807 < ((((t149 ++ t150) ++ t151) ++ text_) ++ (strOfNums y152)).size + t155.size) = False := eq_false (Nat.not_lt.2 c26)
                   have c26n : (9223372036854775807 < t149.size + t150.size + t151.size + text_.size + (strOfNums y152).size + t155.size) = False := by have z_ := c26; simp only [ByteArray.size_append] at z_; exact eq_false (Nat.not_lt.2 z_)
                   by_cases c27 : x6_2.length < 8796093022208
                   ·rw [if_pos c27] at H
                    have LMc27 := Aside0.mk c27
                    clear c27
                    obtain ⟨y156, hy156⟩ : ∃ y_ : List ByteArray, y_ = (x6_2 ++ [((((t149 ++ t150) ++ t151) ++ text_) ++ (strOfNums y152)) ++ t155]) := ⟨_, rfl⟩
                    replace H : (custodyref24_Pack.l0 k2 a0 a1 y156 (wrap64 (x7_2 + 1))) = some (r1, r2) := by first | (rw [hy156]; with_reducible exact H) | (have H2_ := (Option.bind_some _ _).symm.trans H; rw [hy156]; with_reducible exact H2_) | (have H2_ := (Option.bind_some _ _).symm.trans H; with_reducible exact H2_) | with_reducible exact H | (rw [hy156]; exact H) | exact H
                    have Ny156 := Aside0.mk hy156
                    clear hy156
                    have H' := Aside0.mk H
                    clear H
                    try go_wp2_with (first | ((with_reducible refine gate_callee (f := 15) rfl ?_); refine goesL_ (some 23) rfl rfl Tryd.func15 (by kernel_rfl) rfl #[.int .i64 (a1.size : Int)] rfl (by (try simp only [List.map_toArray, List.map_cons, List.map_nil]); first | done | rfl | (simp only [List.length_drop, List.length_take]; rfl)) ?_; (with_reducible refine (custodyref24_Count.calls (a1.size : Int) t148 _ A7.out).mono ?_); rintro e w28 ⟨rfl, hb⟩; refine ⟨_, rfl, ?_⟩; have n0_ := Aside0.mk (Kd.R_below (by (with_reducible repeat (first | apply Kd.R_alloc | apply Kd.R_drewN | apply Kd.R_drew)); exact HO_6.out) hb); have n1_ := Aside0.mk (below_step (by repeat (first | (with_reducible first | exact HB.out | apply below_alloc | apply pw_below_drewN | apply below_drew1) | exact HB.out)) hb); clear HO_6; clear HB; have HO_6 := n0_; have HB := n1_; clear n0_ n1_; (try clear hb); (try clear hb2); (try clear hk); (try clear hi)))
                    have n0_ := Aside0.mk (Kd.R_drew HO_6.out)
                    have n1_ := Aside0.mk (below_drew1 HB.out)
                    clear HO_6
                    clear HB
                    have HO_6 := n0_
                    have HB := n1_
                    clear n0_ n1_
                    refine start_ (n := 21) (S := fun w' => True) (ds := []) #[false, false, false, false, false, false, false, false, false, false, false, false, false, false, false, false, false, false, false, false, false] (by kernel_rfl) rfl rfl trivial (fun hHeld => ?_); refine with_tabW custodyref24_Pack.tab11 custodyref24_Pack.bits11 (fun HT_ HW_ => ?_)
                    generalize w28.drew = w29 at HO_6 HB hHeld ⊢
                    refine pure_ (i := 0) (N := some 36) (v := ?_) (a' := ?_) #[true, false, false, false, false, false, false, false, false, false, false, false, false, false, false, false, false, false, false, false, false] rfl rfl (any_of HT_.out (by kernel_rfl)) (fun _ _ _ h => h) (Or.inl ⟨by rfl, ?_⟩) ?_ ?_
                    rotate_left
                    ·intro w'
                     go_simp
                     with_reducible rfl
                    rotate_left
                    ·simp only [Act.put, List.setIfInBounds_toArray, List.set_cons_zero, List.set_cons_succ, i64_w, i32_w]
                     rfl
                    refine pure_ (i := 2) (N := some 38) (v := ?_) (a' := ?_) #[true, false, true, false, false, false, false, false, false, false, false, false, false, false, false, false, false, false, false, false, false] rfl rfl (any_of HT_.out (by kernel_rfl)) (fun _ _ _ h => h) (Or.inl ⟨by rfl, ?_⟩) ?_ ?_
                    rotate_left
                    ·intro w'
                     go_simp
                     with_reducible rfl
                    rotate_left
                    ·simp only [Act.put, List.setIfInBounds_toArray, List.set_cons_zero, List.set_cons_succ, i64_w, i32_w]
                     rfl
                    refine pure_ (i := 5) (N := some 41) (v := ?_) (a' := ?_) #[true, false, true, false, false, true, false, false, false, false, false, false, false, false, false, false, false, false, false, false, false] rfl rfl (any_of HT_.out (by kernel_rfl)) (fun _ _ _ h => h) (Or.inl ⟨by rfl, ?_⟩) ?_ ?_
                    rotate_left
                    ·intro w'
                     go_simp
                     with_reducible rfl
                    rotate_left
                    ·simp only [Act.put, List.setIfInBounds_toArray, List.set_cons_zero, List.set_cons_succ, i64_w, i32_w]
                     rfl
                    refine pure_ (i := 6) (N := some 42) (v := ?_) (a' := ?_) #[true, false, true, false, false, true, true, false, false, false, false, false, false, false, false, false, false, false, false, false, false] rfl rfl (any_of HT_.out (by kernel_rfl)) (fun _ _ _ h => h) (Or.inl ⟨by rfl, ?_⟩) ?_ ?_
                    rotate_left
                    ·intro w'
                     go_simp
                     with_reducible rfl
                    rotate_left
                    ·simp only [Act.put, List.setIfInBounds_toArray, List.set_cons_zero, List.set_cons_succ, i64_w, i32_w]
                     rfl
                    refine pure_ (i := 9) (N := some 45) (v := ?_) (a' := ?_) #[true, false, true, false, false, true, true, false, false, true, false, false, false, false, false, false, false, false, false, false, false] rfl rfl (any_of HT_.out (by kernel_rfl)) (fun _ _ _ h => h) (Or.inl ⟨by rfl, ?_⟩) ?_ ?_
                    rotate_left
                    ·intro w'
                     go_simp
                     with_reducible rfl
                    rotate_left
                    ·simp only [Act.put, List.setIfInBounds_toArray, List.set_cons_zero, List.set_cons_succ, i64_w, i32_w]
                     rfl
                    refine pure_ (i := 11) (N := some 47) (v := ?_) (a' := ?_) #[true, false, true, false, false, true, true, false, false, true, false, true, false, false, false, false, false, false, false, false, false] rfl rfl (any_of HT_.out (by kernel_rfl)) (fun _ _ _ h => h) (Or.inl ⟨by rfl, ?_⟩) ?_ ?_
                    rotate_left
                    ·intro w'
                     go_simp
                     with_reducible rfl
                    rotate_left
                    ·simp only [Act.put, List.setIfInBounds_toArray, List.set_cons_zero, List.set_cons_succ, i64_w, i32_w]
                     rfl
                    refine pure_ (i := 12) (N := some 48) (v := ?_) (a' := ?_) #[true, false, true, false, false, true, true, false, false, true, false, true, true, false, false, false, false, false, false, false, false] rfl rfl (any_of HT_.out (by kernel_rfl)) (fun _ _ _ h => h) (Or.inl ⟨by rfl, ?_⟩) ?_ ?_
                    rotate_left
                    ·intro w'
                     go_simp
                     with_reducible rfl
                    rotate_left
                    ·simp only [Act.put, List.setIfInBounds_toArray, List.set_cons_zero, List.set_cons_succ, i64_w, i32_w]
                     rfl
                    refine pure_ (i := 13) (N := some 49) (v := ?_) (a' := ?_) #[true, false, true, false, false, true, true, false, false, true, false, true, true, true, false, false, false, false, false, false, false] rfl rfl (any_of HT_.out (by kernel_rfl)) (fun _ _ _ h => h) (Or.inl ⟨by rfl, ?_⟩) ?_ ?_
                    rotate_left
                    ·intro w'
                     go_simp
                     with_reducible rfl
                    rotate_left
                    ·simp only [Act.put, List.setIfInBounds_toArray, List.set_cons_zero, List.set_cons_succ, i64_w, i32_w]
                     rfl
                    refine pure_ (i := 17) (N := some 53) (v := ?_) (a' := ?_) #[true, false, true, false, false, true, true, false, false, true, false, true, true, true, false, false, false, true, false, false, false] rfl rfl (any_of HT_.out (by kernel_rfl)) (fun _ _ _ h => h) (Or.inl ⟨by rfl, ?_⟩) ?_ ?_
                    rotate_left
                    ·intro w'
                     go_simp
                     with_reducible rfl
                    rotate_left
                    ·simp only [Act.put, List.setIfInBounds_toArray, List.set_cons_zero, List.set_cons_succ, i64_w, i32_w]
                     rfl
                    refine join_ (σ := Value) 2 #[true, true, true, true, true, true, true, true, true, true, true, true, true, true, true, true, true, true, true, false, false] (fun s_ => [(37, .string t149), (39, .string t150), (43, .string t151), (50, s_), (51, .string (strOfNums y152)), (54, .string t155), (40, .string (t149 ++ t150)), (44, .string ((t149 ++ t150) ++ t151)), (46, .string (((t149 ++ t150) ++ t151) ++ text_)), (52, .string ((((t149 ++ t150) ++ t151) ++ text_) ++ (strOfNums y152)))]) (fun s_ w' => (Kd.R (Kd.int .u8) 5 w' w.heap.size (fun _ => True) s_ y152) ∧ (Kd.R Kd.string 9 w' w.heap.size (fun _ => True) u6 x6_2) ∧ (Below w.heap.size w w')) ?_ ?_
                    rotate_left
                    ·intro hJ1_3_7_14_15_18
                     refine join_ (σ := Value) 3 #[true, true, true, true, true, true, true, true, true, true, true, true, true, true, true, true, true, true, false, false, false] (fun s_ => [(37, .string t149), (39, .string t150), (43, .string t151), (50, s_), (51, .string (strOfNums y152)), (40, .string (t149 ++ t150)), (44, .string ((t149 ++ t150) ++ t151)), (46, .string (((t149 ++ t150) ++ t151) ++ text_)), (52, .string ((((t149 ++ t150) ++ t151) ++ text_) ++ (strOfNums y152)))]) (fun s_ w' => (Kd.R (Kd.int .u8) 5 w' w.heap.size (fun _ => True) s_ y152) ∧ (Kd.R Kd.string 9 w' w.heap.size (fun _ => True) u6 x6_2) ∧ (Below w.heap.size w w')) ?_ ?_
                     rotate_left
                     ·intro hJ1_3_7_14_15
                      refine join_ (σ := Value) 4 #[true, true, true, true, true, true, true, true, true, true, true, true, true, true, true, false, false, true, true, false, false] (fun s_ => [(37, .string t149), (39, .string t150), (43, .string t151), (50, s_), (54, .string t155), (40, .string (t149 ++ t150)), (44, .string ((t149 ++ t150) ++ t151)), (46, .string (((t149 ++ t150) ++ t151) ++ text_))]) (fun s_ w' => (Kd.R (Kd.int .u8) 5 w' w.heap.size (fun _ => True) s_ y152) ∧ (Kd.R Kd.string 9 w' w.heap.size (fun _ => True) u6 x6_2) ∧ (Below w.heap.size w w')) ?_ ?_
                      rotate_left
                      ·intro hJ1_3_7_14_18
                       refine join_ (σ := Value) 5 #[true, true, true, true, true, true, true, true, true, true, true, true, true, true, true, false, false, true, false, false, false] (fun s_ => [(37, .string t149), (39, .string t150), (43, .string t151), (50, s_), (40, .string (t149 ++ t150)), (44, .string ((t149 ++ t150) ++ t151)), (46, .string (((t149 ++ t150) ++ t151) ++ text_))]) (fun s_ w' => (Kd.R (Kd.int .u8) 5 w' w.heap.size (fun _ => True) s_ y152) ∧ (Kd.R Kd.string 9 w' w.heap.size (fun _ => True) u6 x6_2) ∧ (Below w.heap.size w w')) ?_ ?_
                       rotate_left
                       ·intro hJ1_3_7_14
                        refine join_ (σ := Unit) 5 #[true, true, true, true, true, true, true, true, true, true, true, true, true, true, false, false, false, true, true, false, false] (fun s_ => [(37, .string t149), (39, .string t150), (43, .string t151), (54, .string t155), (40, .string (t149 ++ t150)), (44, .string ((t149 ++ t150) ++ t151)), (46, .string (((t149 ++ t150) ++ t151) ++ text_))]) (fun s_ w' => (Kd.R Kd.string 9 w' w.heap.size (fun _ => True) u6 x6_2) ∧ (Below w.heap.size w w')) ?_ ?_
                        rotate_left
                        ·intro hJ1_3_7_18
                         refine join_ (σ := Value) 7 #[true, true, true, true, true, true, true, false, false, true, false, true, true, true, true, true, false, true, false, false, false] (fun s_ => [(37, .string t149), (39, .string t150), (50, s_), (51, .string (strOfNums y152)), (40, .string (t149 ++ t150))]) (fun s_ w' => (Kd.R (Kd.int .u8) 5 w' w.heap.size (fun _ => True) s_ y152) ∧ (Kd.R Kd.string 9 w' w.heap.size (fun _ => True) u6 x6_2) ∧ (Below w.heap.size w w')) ?_ ?_
                         rotate_left
                         ·intro hJ1_3_14_15
                          refine join_ (σ := Unit) 6 #[true, true, true, true, true, true, true, true, true, true, true, true, true, true, false, false, false, true, false, false, false] (fun s_ => [(37, .string t149), (39, .string t150), (43, .string t151), (40, .string (t149 ++ t150)), (44, .string ((t149 ++ t150) ++ t151)), (46, .string (((t149 ++ t150) ++ t151) ++ text_))]) (fun s_ w' => (Kd.R Kd.string 9 w' w.heap.size (fun _ => True) u6 x6_2) ∧ (Below w.heap.size w w')) ?_ ?_
                          rotate_left
                          ·intro hJ1_3_7
                           refine join_ (σ := Value) 8 #[true, true, true, true, true, true, true, false, false, true, false, true, true, true, true, false, false, true, false, false, false] (fun s_ => [(37, .string t149), (39, .string t150), (50, s_), (40, .string (t149 ++ t150))]) (fun s_ w' => (Kd.R (Kd.int .u8) 5 w' w.heap.size (fun _ => True) s_ y152) ∧ (Kd.R Kd.string 9 w' w.heap.size (fun _ => True) u6 x6_2) ∧ (Below w.heap.size w w')) ?_ ?_
                           rotate_left
                           ·intro hJ1_3_14
                            refine join_ (σ := Value) 9 #[true, true, true, false, false, true, true, false, false, true, false, true, true, true, true, true, false, true, false, false, false] (fun s_ => [(37, .string t149), (50, s_), (51, .string (strOfNums y152))]) (fun s_ w' => (Kd.R (Kd.int .u8) 5 w' w.heap.size (fun _ => True) s_ y152) ∧ (Kd.R Kd.string 9 w' w.heap.size (fun _ => True) u6 x6_2) ∧ (Below w.heap.size w w')) ?_ ?_
                            rotate_left
                            ·intro hJ1_14_15
                             refine join_ (σ := Unit) 9 #[true, true, true, true, true, true, true, false, false, true, false, true, true, true, false, false, false, true, false, false, false] (fun s_ => [(37, .string t149), (39, .string t150), (40, .string (t149 ++ t150))]) (fun s_ w' => (Kd.R Kd.string 9 w' w.heap.size (fun _ => True) u6 x6_2) ∧ (Below w.heap.size w w')) ?_ ?_
                             rotate_left
                             ·intro hJ1_3
                              refine join_ (σ := Value) 10 #[true, true, true, false, false, true, true, false, false, true, false, true, true, true, true, false, false, true, false, false, false] (fun s_ => [(37, .string t149), (50, s_)]) (fun s_ w' => (Kd.R (Kd.int .u8) 5 w' w.heap.size (fun _ => True) s_ y152) ∧ (Kd.R Kd.string 9 w' w.heap.size (fun _ => True) u6 x6_2) ∧ (Below w.heap.size w w')) ?_ ?_
                              rotate_left
                              ·intro hJ1_14
                               refine join_ (σ := Value) 10 #[true, false, true, false, false, true, true, false, false, true, false, true, true, true, true, true, false, true, false, false, false] (fun s_ => [(50, s_), (51, .string (strOfNums y152))]) (fun s_ w' => (Kd.R (Kd.int .u8) 5 w' w.heap.size (fun _ => True) s_ y152) ∧ (Kd.R Kd.string 9 w' w.heap.size (fun _ => True) u6 x6_2) ∧ (Below w.heap.size w w')) ?_ ?_
                               rotate_left
                               ·intro hJ14_15
                                refine join_ (σ := Unit) 11 #[true, true, true, false, false, true, true, false, false, true, false, true, true, true, false, false, false, true, false, false, false] (fun s_ => [(37, .string t149)]) (fun s_ w' => (Kd.R Kd.string 9 w' w.heap.size (fun _ => True) u6 x6_2) ∧ (Below w.heap.size w w')) ?_ ?_
                                rotate_left
                                ·intro hJ1
                                 refine join_ (σ := Value) 11 #[true, false, true, false, false, true, true, false, false, true, false, true, true, true, true, false, false, true, false, false, false] (fun s_ => [(50, s_)]) (fun s_ w' => (Kd.R (Kd.int .u8) 5 w' w.heap.size (fun _ => True) s_ y152) ∧ (Kd.R Kd.string 9 w' w.heap.size (fun _ => True) u6 x6_2) ∧ (Below w.heap.size w w')) ?_ ?_
                                 rotate_left
                                 ·intro hJ14
                                  refine two_ (i := 1) (j := 14) (Ni := some 37) (Nj := some 50) #[true, true, true, false, false, true, true, false, false, true, false, true, true, true, false, false, false, true, false, false, false] #[true, false, true, false, false, true, true, false, false, true, false, true, true, true, true, false, false, true, false, false, false] rfl rfl rfl rfl (two_of HT_.out (by kernel_rfl)) (by decide) (by decide) (fun K hK => ?_) (fun K hK => ?_)
                                  ·skip
                                   refine goes_ Tryd.func21 (by kernel_rfl) rfl #[.int .i64 a0, .int .i64 8] (by rfl) rfl rfl (by (try simp only [List.map_toArray, List.map_cons, List.map_nil]); first | done | rfl | (simp only [List.length_drop, List.length_take]; rfl)) ?_
                                   with_reducible refine (custodyref24_put.calls k2 a0 8 t149 _ A15.out).mono ?_
                                   rintro e w30 ⟨rfl, hb⟩
                                   refine ⟨_, rfl, ?_⟩
                                   have n0_ := Aside0.mk (Kd.R_below (by (with_reducible repeat (first | apply Kd.R_alloc | apply Kd.R_drewN | apply Kd.R_drew)); exact HO_6.out) hb)
                                   have n1_ := Aside0.mk (below_step (by repeat (first | (with_reducible first | exact HB.out | apply below_alloc | apply pw_below_drewN | apply below_drew1) | exact HB.out)) hb)
                                   clear HO_6
                                   clear HB
                                   have HO_6 := n0_
                                   have HB := n1_
                                   clear n0_ n1_
                                   (try clear hb)
                                   (try clear hb2)
                                   (try clear hk)
                                   (try clear hi)
                                   refine hK.out _ _ trivial (fun hHeld => ?_)
                                   clear hK K
                                   refine norm_ (a' := ?_) ?_ ?_
                                   rotate_left
                                   ·show Act.put _ (some 37) _ = _
                                    simp only [Act.put, List.setIfInBounds_toArray, List.set_cons_zero, List.set_cons_succ, i64_w, i32_w]
                                    rfl
                                   exact norm_ (by first | (simp only [putAll, Act.put, List.setIfInBounds_toArray, List.set_cons_zero, List.set_cons_succ]; done) | (simp only [putAll, Act.put, List.setIfInBounds_toArray, List.set_cons_zero, List.set_cons_succ]; rfl)) (hJ1 () _ ⟨(by (with_reducible repeat (first | apply Kd.R_alloc | apply Kd.R_drewN | apply Kd.R_drew)); exact HO_6.out), (by repeat (first | (with_reducible first | exact HB.out | apply below_alloc | apply pw_below_drewN | apply below_drew1) | exact HB.out))⟩)
                                  ·skip
                                   refine Kd.R_make_step (Kd.int .u8) _ 5 (by rfl) (N := 50) rfl 42 _ _ rfl ji21 rfl rfl Tryd.underlying42 (.int .u8 0) 1 info5 rfl (by decide) (by omega) 0 (ok := fun _ => True) (okp := fun _ => True) rfl (fun _ hk => hk) trivial (of_decide_eq_true (by first | (with_reducible assumption) | assumption)) (Nat.le_trans (Nat.mul_le_mul_right _ (of_decide_eq_true (by first | (with_reducible assumption) | assumption) : ji21.toNat ≤ 281474976710656)) (by omega)) (Below.refl _ _) (Nat.le_refl _) ?_
                                   intro v153 w30 ho31 hb hg_ hnew_
                                   clear hg_ hnew_
                                   (first | rw [← Ny152.out] at ho31 | (simp only [Int.reduceToNat] at ho31; rw [← Ny152.out] at ho31))
                                   have n0_ := Aside0.mk (Kd.R_below (by (with_reducible repeat (first | apply Kd.R_alloc | apply Kd.R_drewN | apply Kd.R_drew)); exact HO_6.out) hb)
                                   have n1_ := Aside0.mk (Kd.R_lower ho31 (below_size (by repeat (first | (with_reducible first | exact HB.out | apply below_alloc | apply pw_below_drewN | apply below_drew1) | exact HB.out))))
                                   have n2_ := Aside0.mk (below_step (by repeat (first | (with_reducible first | exact HB.out | apply below_alloc | apply pw_below_drewN | apply below_drew1) | exact HB.out)) hb)
                                   clear HO_6
                                   clear HB
                                   have HO_6 := n0_
                                   have HO154 := n1_
                                   have HB := n2_
                                   clear n0_ n1_ n2_
                                   clear hb ho31
                                   refine hK.out _ _ trivial (fun hHeld => ?_)
                                   clear hK K
                                   refine norm_ (a' := ?_) ?_ ?_
                                   rotate_left
                                   ·show Act.put _ (some 50) _ = _
                                    simp only [Act.put, List.setIfInBounds_toArray, List.set_cons_zero, List.set_cons_succ, i64_w, i32_w]
                                    rfl
                                   exact norm_ (by first | (simp only [putAll, Act.put, List.setIfInBounds_toArray, List.set_cons_zero, List.set_cons_succ]; done) | (simp only [putAll, Act.put, List.setIfInBounds_toArray, List.set_cons_zero, List.set_cons_succ]; rfl)) (hJ14 (v153) _ ⟨(by (with_reducible repeat (first | apply Kd.R_alloc | apply Kd.R_drewN | apply Kd.R_drew)); exact HO154.out), (by (with_reducible repeat (first | apply Kd.R_alloc | apply Kd.R_drewN | apply Kd.R_drew)); exact HO_6.out), (by repeat (first | (with_reducible first | exact HB.out | apply below_alloc | apply pw_below_drewN | apply below_drew1) | exact HB.out))⟩)
                                 ·skip
                                  rintro v153 w32 ⟨h0_, h1_, h2_⟩
                                  have n0_ : Aside0 (Kd.R (Kd.int .u8) 5 w32 w.heap.size (fun _ => True) v153 y152) := ⟨h0_⟩
                                  have n1_ : Aside0 (Kd.R Kd.string 9 w32 w.heap.size (fun _ => True) u6 x6_2) := ⟨h1_⟩
                                  have n2_ : Aside0 (Below w.heap.size w w32) := ⟨h2_⟩
                                  clear HO_6
                                  clear HB
                                  clear h0_ h1_ h2_
                                  have HO154 := n0_
                                  have HO_6 := n1_
                                  have HB := n2_
                                  clear n0_ n1_ n2_
                                  have hHeld := trivial
                                  refine norm_ (a' := ?_) ?_ ?_
                                  rotate_left
                                  ·simp only [putAll, Act.put, List.setIfInBounds_toArray, List.set_cons_zero, List.set_cons_succ]
                                   rfl
                                  refine two_ (i := 1) (j := 15) (Ni := some 37) (Nj := some 51) #[true, true, true, false, false, true, true, false, false, true, false, true, true, true, true, false, false, true, false, false, false] #[true, false, true, false, false, true, true, false, false, true, false, true, true, true, true, true, false, true, false, false, false] rfl rfl rfl rfl (two_of HT_.out (by kernel_rfl)) (by decide) (by decide) (fun K hK => ?_) (fun K hK => ?_)
                                  ·skip
                                   refine goes_ Tryd.func21 (by kernel_rfl) rfl #[.int .i64 a0, .int .i64 8] (by rfl) rfl rfl (by (try simp only [List.map_toArray, List.map_cons, List.map_nil]); first | done | rfl | (simp only [List.length_drop, List.length_take]; rfl)) ?_
                                   with_reducible refine (custodyref24_put.calls k2 a0 8 t149 _ A15.out).mono ?_
                                   rintro e w33 ⟨rfl, hb⟩
                                   refine ⟨_, rfl, ?_⟩
                                   have n0_ := Aside0.mk (Kd.R_below (by (with_reducible repeat (first | apply Kd.R_alloc | apply Kd.R_drewN | apply Kd.R_drew)); exact HO_6.out) hb)
                                   have n1_ := Aside0.mk (Kd.R_below (by (with_reducible repeat (first | apply Kd.R_alloc | apply Kd.R_drewN | apply Kd.R_drew)); exact HO154.out) hb)
                                   have n2_ := Aside0.mk (below_step (by repeat (first | (with_reducible first | exact HB.out | apply below_alloc | apply pw_below_drewN | apply below_drew1) | exact HB.out)) hb)
                                   clear HO_6
                                   clear HO154
                                   clear HB
                                   have HO_6 := n0_
                                   have HO154 := n1_
                                   have HB := n2_
                                   clear n0_ n1_ n2_
                                   (try clear hb)
                                   (try clear hb2)
                                   (try clear hk)
                                   (try clear hi)
                                   refine hK.out _ _ trivial (fun hHeld => ?_)
                                   clear hK K
                                   refine norm_ (a' := ?_) ?_ ?_
                                   rotate_left
                                   ·show Act.put _ (some 37) _ = _
                                    simp only [Act.put, List.setIfInBounds_toArray, List.set_cons_zero, List.set_cons_succ, i64_w, i32_w]
                                    rfl
                                   exact norm_ (by first | (simp only [putAll, Act.put, List.setIfInBounds_toArray, List.set_cons_zero, List.set_cons_succ]; done) | (simp only [putAll, Act.put, List.setIfInBounds_toArray, List.set_cons_zero, List.set_cons_succ]; rfl)) (hJ1_14 (v153) _ ⟨(by (with_reducible repeat (first | apply Kd.R_alloc | apply Kd.R_drewN | apply Kd.R_drew)); exact HO154.out), (by (with_reducible repeat (first | apply Kd.R_alloc | apply Kd.R_drewN | apply Kd.R_drew)); exact HO_6.out), (by repeat (first | (with_reducible first | exact HB.out | apply below_alloc | apply pw_below_drewN | apply below_drew1) | exact HB.out))⟩)
                                  ·skip
                                   have hcv33 := own_string (P := Tryd.prog) Tryd.underlying42 Tryd.underlying5 Tryd.underlying9 (Kd.own_of_R HO154.out)
                                   refine value_ (w1 := ?_) (v := ?_) (by rfl) rfl ?_ ?_
                                   rotate_left 2
                                   ·go_simp
                                    constructor
                                    ·rfl
                                    ·rfl
                                   clear hcv33
                                   refine hK.out _ _ trivial (fun hHeld => ?_)
                                   clear hK K
                                   refine norm_ (a' := ?_) ?_ ?_
                                   rotate_left
                                   ·show Act.put _ (some 51) _ = _
                                    simp only [Act.put, List.setIfInBounds_toArray, List.set_cons_zero, List.set_cons_succ, i64_w, i32_w]
                                    rfl
                                   exact norm_ (by first | (simp only [putAll, Act.put, List.setIfInBounds_toArray, List.set_cons_zero, List.set_cons_succ]; done) | (simp only [putAll, Act.put, List.setIfInBounds_toArray, List.set_cons_zero, List.set_cons_succ]; rfl)) (hJ14_15 (v153) _ ⟨(by (with_reducible repeat (first | apply Kd.R_alloc | apply Kd.R_drewN | apply Kd.R_drew)); exact HO154.out), (by (with_reducible repeat (first | apply Kd.R_alloc | apply Kd.R_drewN | apply Kd.R_drew)); exact HO_6.out), (by repeat (first | (with_reducible first | exact HB.out | apply below_alloc | apply pw_below_drewN | apply below_drew1) | exact HB.out))⟩)
                                ·skip
                                 rintro _ w31 ⟨h0_, h1_⟩
                                 have n0_ : Aside0 (Kd.R Kd.string 9 w31 w.heap.size (fun _ => True) u6 x6_2) := ⟨h0_⟩
                                 have n1_ : Aside0 (Below w.heap.size w w31) := ⟨h1_⟩
                                 clear HO_6
                                 clear HB
                                 clear h0_ h1_
                                 have HO_6 := n0_
                                 have HB := n1_
                                 clear n0_ n1_
                                 have hHeld := trivial
                                 refine norm_ (a' := ?_) ?_ ?_
                                 rotate_left
                                 ·simp only [putAll, Act.put, List.setIfInBounds_toArray, List.set_cons_zero, List.set_cons_succ]
                                  rfl
                                 refine two_ (i := 3) (j := 14) (Ni := some 39) (Nj := some 50) #[true, true, true, true, false, true, true, false, false, true, false, true, true, true, false, false, false, true, false, false, false] #[true, true, true, false, false, true, true, false, false, true, false, true, true, true, true, false, false, true, false, false, false] rfl rfl rfl rfl (two_of HT_.out (by kernel_rfl)) (by decide) (by decide) (fun K hK => ?_) (fun K hK => ?_)
                                 ·skip
                                  refine goes_ Tryd.func21 (by kernel_rfl) rfl #[.int .i64 x7_2, .int .i64 2] (by rfl) rfl rfl (by (try simp only [List.map_toArray, List.map_cons, List.map_nil]); first | done | rfl | (simp only [List.length_drop, List.length_take]; rfl)) ?_
                                  with_reducible refine (custodyref24_put.calls k2 x7_2 2 t150 _ A16.out).mono ?_
                                  rintro e w32 ⟨rfl, hb⟩
                                  refine ⟨_, rfl, ?_⟩
                                  have n0_ := Aside0.mk (Kd.R_below (by (with_reducible repeat (first | apply Kd.R_alloc | apply Kd.R_drewN | apply Kd.R_drew)); exact HO_6.out) hb)
                                  have n1_ := Aside0.mk (below_step (by repeat (first | (with_reducible first | exact HB.out | apply below_alloc | apply pw_below_drewN | apply below_drew1) | exact HB.out)) hb)
                                  clear HO_6
                                  clear HB
                                  have HO_6 := n0_
                                  have HB := n1_
                                  clear n0_ n1_
                                  (try clear hb)
                                  (try clear hb2)
                                  (try clear hk)
                                  (try clear hi)
                                  refine hK.out _ _ trivial (fun hHeld => ?_)
                                  clear hK K
                                  refine norm_ (a' := ?_) ?_ ?_
                                  rotate_left
                                  ·show Act.put _ (some 39) _ = _
                                   simp only [Act.put, List.setIfInBounds_toArray, List.set_cons_zero, List.set_cons_succ, i64_w, i32_w]
                                   rfl
                                  refine pure_ (i := 4) (N := some 40) (v := ?_) (a' := ?_) #[true, true, true, true, true, true, true, false, false, true, false, true, true, true, false, false, false, true, false, false, false] rfl rfl (any_of HT_.out (by kernel_rfl)) (fun _ _ _ h => h) (Or.inl ⟨by rfl, ?_⟩) ?_ ?_
                                  rotate_left
                                  ·intro w'
                                   go_simp
                                   with_reducible rfl
                                  rotate_left
                                  ·simp only [Act.put, List.setIfInBounds_toArray, List.set_cons_zero, List.set_cons_succ, i64_w, i32_w]
                                   rfl
                                  exact norm_ (by first | (simp only [putAll, Act.put, List.setIfInBounds_toArray, List.set_cons_zero, List.set_cons_succ]; done) | (simp only [putAll, Act.put, List.setIfInBounds_toArray, List.set_cons_zero, List.set_cons_succ]; rfl)) (hJ1_3 () _ ⟨(by (with_reducible repeat (first | apply Kd.R_alloc | apply Kd.R_drewN | apply Kd.R_drew)); exact HO_6.out), (by repeat (first | (with_reducible first | exact HB.out | apply below_alloc | apply pw_below_drewN | apply below_drew1) | exact HB.out))⟩)
                                 ·skip
                                  refine Kd.R_make_step (Kd.int .u8) _ 5 (by rfl) (N := 50) rfl 42 _ _ rfl ji21 rfl rfl Tryd.underlying42 (.int .u8 0) 1 info5 rfl (by decide) (by omega) 0 (ok := fun _ => True) (okp := fun _ => True) rfl (fun _ hk => hk) trivial (of_decide_eq_true (by first | (with_reducible assumption) | assumption)) (Nat.le_trans (Nat.mul_le_mul_right _ (of_decide_eq_true (by first | (with_reducible assumption) | assumption) : ji21.toNat ≤ 281474976710656)) (by omega)) (Below.refl _ _) (Nat.le_refl _) ?_
                                  intro v153 w32 ho33 hb hg_ hnew_
                                  clear hg_ hnew_
                                  (first | rw [← Ny152.out] at ho33 | (simp only [Int.reduceToNat] at ho33; rw [← Ny152.out] at ho33))
                                  have n0_ := Aside0.mk (Kd.R_below (by (with_reducible repeat (first | apply Kd.R_alloc | apply Kd.R_drewN | apply Kd.R_drew)); exact HO_6.out) hb)
                                  have n1_ := Aside0.mk (Kd.R_lower ho33 (below_size (by repeat (first | (with_reducible first | exact HB.out | apply below_alloc | apply pw_below_drewN | apply below_drew1) | exact HB.out))))
                                  have n2_ := Aside0.mk (below_step (by repeat (first | (with_reducible first | exact HB.out | apply below_alloc | apply pw_below_drewN | apply below_drew1) | exact HB.out)) hb)
                                  clear HO_6
                                  clear HB
                                  have HO_6 := n0_
                                  have HO154 := n1_
                                  have HB := n2_
                                  clear n0_ n1_ n2_
                                  clear hb ho33
                                  refine hK.out _ _ trivial (fun hHeld => ?_)
                                  clear hK K
                                  refine norm_ (a' := ?_) ?_ ?_
                                  rotate_left
                                  ·show Act.put _ (some 50) _ = _
                                   simp only [Act.put, List.setIfInBounds_toArray, List.set_cons_zero, List.set_cons_succ, i64_w, i32_w]
                                   rfl
                                  exact norm_ (by first | (simp only [putAll, Act.put, List.setIfInBounds_toArray, List.set_cons_zero, List.set_cons_succ]; done) | (simp only [putAll, Act.put, List.setIfInBounds_toArray, List.set_cons_zero, List.set_cons_succ]; rfl)) (hJ1_14 (v153) _ ⟨(by (with_reducible repeat (first | apply Kd.R_alloc | apply Kd.R_drewN | apply Kd.R_drew)); exact HO154.out), (by (with_reducible repeat (first | apply Kd.R_alloc | apply Kd.R_drewN | apply Kd.R_drew)); exact HO_6.out), (by repeat (first | (with_reducible first | exact HB.out | apply below_alloc | apply pw_below_drewN | apply below_drew1) | exact HB.out))⟩)
                               ·skip
                                rintro v153 w33 ⟨h0_, h1_, h2_⟩
                                have n0_ : Aside0 (Kd.R (Kd.int .u8) 5 w33 w.heap.size (fun _ => True) v153 y152) := ⟨h0_⟩
                                have n1_ : Aside0 (Kd.R Kd.string 9 w33 w.heap.size (fun _ => True) u6 x6_2) := ⟨h1_⟩
                                have n2_ : Aside0 (Below w.heap.size w w33) := ⟨h2_⟩
                                clear HO_6
                                clear HB
                                clear h0_ h1_ h2_
                                have HO154 := n0_
                                have HO_6 := n1_
                                have HB := n2_
                                clear n0_ n1_ n2_
                                have hHeld := trivial
                                refine norm_ (a' := ?_) ?_ ?_
                                rotate_left
                                ·simp only [putAll, Act.put, List.setIfInBounds_toArray, List.set_cons_zero, List.set_cons_succ]
                                 rfl
                                refine one_ (i := 1) (N := some 37) #[true, true, true, false, false, true, true, false, false, true, false, true, true, true, true, true, false, true, false, false, false] rfl rfl (one_of HT_.out (by kernel_rfl)) (by decide) (fun K hK => ?_)
                                refine goes_ Tryd.func21 (by kernel_rfl) rfl #[.int .i64 a0, .int .i64 8] (by rfl) rfl rfl (by (try simp only [List.map_toArray, List.map_cons, List.map_nil]); first | done | rfl | (simp only [List.length_drop, List.length_take]; rfl)) ?_
                                with_reducible refine (custodyref24_put.calls k2 a0 8 t149 _ A15.out).mono ?_
                                rintro e w34 ⟨rfl, hb⟩
                                refine ⟨_, rfl, ?_⟩
                                have n0_ := Aside0.mk (Kd.R_below (by (with_reducible repeat (first | apply Kd.R_alloc | apply Kd.R_drewN | apply Kd.R_drew)); exact HO_6.out) hb)
                                have n1_ := Aside0.mk (Kd.R_below (by (with_reducible repeat (first | apply Kd.R_alloc | apply Kd.R_drewN | apply Kd.R_drew)); exact HO154.out) hb)
                                have n2_ := Aside0.mk (below_step (by repeat (first | (with_reducible first | exact HB.out | apply below_alloc | apply pw_below_drewN | apply below_drew1) | exact HB.out)) hb)
                                clear HO_6
                                clear HO154
                                clear HB
                                have HO_6 := n0_
                                have HO154 := n1_
                                have HB := n2_
                                clear n0_ n1_ n2_
                                (try clear hb)
                                (try clear hb2)
                                (try clear hk)
                                (try clear hi)
                                refine hK.out _ _ trivial (fun hHeld => ?_)
                                clear hK K
                                refine norm_ (a' := ?_) ?_ ?_
                                rotate_left
                                ·show Act.put _ (some 37) _ = _
                                 simp only [Act.put, List.setIfInBounds_toArray, List.set_cons_zero, List.set_cons_succ, i64_w, i32_w]
                                 rfl
                                exact norm_ (by first | (simp only [putAll, Act.put, List.setIfInBounds_toArray, List.set_cons_zero, List.set_cons_succ]; done) | (simp only [putAll, Act.put, List.setIfInBounds_toArray, List.set_cons_zero, List.set_cons_succ]; rfl)) (hJ1_14_15 (v153) _ ⟨(by (with_reducible repeat (first | apply Kd.R_alloc | apply Kd.R_drewN | apply Kd.R_drew)); exact HO154.out), (by (with_reducible repeat (first | apply Kd.R_alloc | apply Kd.R_drewN | apply Kd.R_drew)); exact HO_6.out), (by repeat (first | (with_reducible first | exact HB.out | apply below_alloc | apply pw_below_drewN | apply below_drew1) | exact HB.out))⟩)
                              ·skip
                               rintro v153 w33 ⟨h0_, h1_, h2_⟩
                               have n0_ : Aside0 (Kd.R (Kd.int .u8) 5 w33 w.heap.size (fun _ => True) v153 y152) := ⟨h0_⟩
                               have n1_ : Aside0 (Kd.R Kd.string 9 w33 w.heap.size (fun _ => True) u6 x6_2) := ⟨h1_⟩
                               have n2_ : Aside0 (Below w.heap.size w w33) := ⟨h2_⟩
                               clear HO_6
                               clear HB
                               clear h0_ h1_ h2_
                               have HO154 := n0_
                               have HO_6 := n1_
                               have HB := n2_
                               clear n0_ n1_ n2_
                               have hHeld := trivial
                               refine norm_ (a' := ?_) ?_ ?_
                               rotate_left
                               ·simp only [putAll, Act.put, List.setIfInBounds_toArray, List.set_cons_zero, List.set_cons_succ]
                                rfl
                               refine two_ (i := 3) (j := 15) (Ni := some 39) (Nj := some 51) #[true, true, true, true, false, true, true, false, false, true, false, true, true, true, true, false, false, true, false, false, false] #[true, true, true, false, false, true, true, false, false, true, false, true, true, true, true, true, false, true, false, false, false] rfl rfl rfl rfl (two_of HT_.out (by kernel_rfl)) (by decide) (by decide) (fun K hK => ?_) (fun K hK => ?_)
                               ·skip
                                refine goes_ Tryd.func21 (by kernel_rfl) rfl #[.int .i64 x7_2, .int .i64 2] (by rfl) rfl rfl (by (try simp only [List.map_toArray, List.map_cons, List.map_nil]); first | done | rfl | (simp only [List.length_drop, List.length_take]; rfl)) ?_
                                with_reducible refine (custodyref24_put.calls k2 x7_2 2 t150 _ A16.out).mono ?_
                                rintro e w34 ⟨rfl, hb⟩
                                refine ⟨_, rfl, ?_⟩
                                have n0_ := Aside0.mk (Kd.R_below (by (with_reducible repeat (first | apply Kd.R_alloc | apply Kd.R_drewN | apply Kd.R_drew)); exact HO_6.out) hb)
                                have n1_ := Aside0.mk (Kd.R_below (by (with_reducible repeat (first | apply Kd.R_alloc | apply Kd.R_drewN | apply Kd.R_drew)); exact HO154.out) hb)
                                have n2_ := Aside0.mk (below_step (by repeat (first | (with_reducible first | exact HB.out | apply below_alloc | apply pw_below_drewN | apply below_drew1) | exact HB.out)) hb)
                                clear HO_6
                                clear HO154
                                clear HB
                                have HO_6 := n0_
                                have HO154 := n1_
                                have HB := n2_
                                clear n0_ n1_ n2_
                                (try clear hb)
                                (try clear hb2)
                                (try clear hk)
                                (try clear hi)
                                refine hK.out _ _ trivial (fun hHeld => ?_)
                                clear hK K
                                refine norm_ (a' := ?_) ?_ ?_
                                rotate_left
                                ·show Act.put _ (some 39) _ = _
                                 simp only [Act.put, List.setIfInBounds_toArray, List.set_cons_zero, List.set_cons_succ, i64_w, i32_w]
                                 rfl
                                refine pure_ (i := 4) (N := some 40) (v := ?_) (a' := ?_) #[true, true, true, true, true, true, true, false, false, true, false, true, true, true, true, false, false, true, false, false, false] rfl rfl (any_of HT_.out (by kernel_rfl)) (fun _ _ _ h => h) (Or.inl ⟨by rfl, ?_⟩) ?_ ?_
                                rotate_left
                                ·intro w'
                                 go_simp
                                 with_reducible rfl
                                rotate_left
                                ·simp only [Act.put, List.setIfInBounds_toArray, List.set_cons_zero, List.set_cons_succ, i64_w, i32_w]
                                 rfl
                                exact norm_ (by first | (simp only [putAll, Act.put, List.setIfInBounds_toArray, List.set_cons_zero, List.set_cons_succ]; done) | (simp only [putAll, Act.put, List.setIfInBounds_toArray, List.set_cons_zero, List.set_cons_succ]; rfl)) (hJ1_3_14 (v153) _ ⟨(by (with_reducible repeat (first | apply Kd.R_alloc | apply Kd.R_drewN | apply Kd.R_drew)); exact HO154.out), (by (with_reducible repeat (first | apply Kd.R_alloc | apply Kd.R_drewN | apply Kd.R_drew)); exact HO_6.out), (by repeat (first | (with_reducible first | exact HB.out | apply below_alloc | apply pw_below_drewN | apply below_drew1) | exact HB.out))⟩)
                               ·skip
                                have hcv34 := own_string (P := Tryd.prog) Tryd.underlying42 Tryd.underlying5 Tryd.underlying9 (Kd.own_of_R HO154.out)
                                refine value_ (w1 := ?_) (v := ?_) (by rfl) rfl ?_ ?_
                                rotate_left 2
                                ·go_simp
                                 constructor
                                 ·rfl
                                 ·rfl
                                clear hcv34
                                refine hK.out _ _ trivial (fun hHeld => ?_)
                                clear hK K
                                refine norm_ (a' := ?_) ?_ ?_
                                rotate_left
                                ·show Act.put _ (some 51) _ = _
                                 simp only [Act.put, List.setIfInBounds_toArray, List.set_cons_zero, List.set_cons_succ, i64_w, i32_w]
                                 rfl
                                exact norm_ (by first | (simp only [putAll, Act.put, List.setIfInBounds_toArray, List.set_cons_zero, List.set_cons_succ]; done) | (simp only [putAll, Act.put, List.setIfInBounds_toArray, List.set_cons_zero, List.set_cons_succ]; rfl)) (hJ1_14_15 (v153) _ ⟨(by (with_reducible repeat (first | apply Kd.R_alloc | apply Kd.R_drewN | apply Kd.R_drew)); exact HO154.out), (by (with_reducible repeat (first | apply Kd.R_alloc | apply Kd.R_drewN | apply Kd.R_drew)); exact HO_6.out), (by repeat (first | (with_reducible first | exact HB.out | apply below_alloc | apply pw_below_drewN | apply below_drew1) | exact HB.out))⟩)
                             ·skip
                              rintro _ w32 ⟨h0_, h1_⟩
                              have n0_ : Aside0 (Kd.R Kd.string 9 w32 w.heap.size (fun _ => True) u6 x6_2) := ⟨h0_⟩
                              have n1_ : Aside0 (Below w.heap.size w w32) := ⟨h1_⟩
                              clear HO_6
                              clear HB
                              clear h0_ h1_
                              have HO_6 := n0_
                              have HB := n1_
                              clear n0_ n1_
                              have hHeld := trivial
                              refine norm_ (a' := ?_) ?_ ?_
                              rotate_left
                              ·simp only [putAll, Act.put, List.setIfInBounds_toArray, List.set_cons_zero, List.set_cons_succ]
                               rfl
                              refine two_ (i := 7) (j := 14) (Ni := some 43) (Nj := some 50) #[true, true, true, true, true, true, true, true, false, true, false, true, true, true, false, false, false, true, false, false, false] #[true, true, true, true, true, true, true, false, false, true, false, true, true, true, true, false, false, true, false, false, false] rfl rfl rfl rfl (two_of HT_.out (by kernel_rfl)) (by decide) (by decide) (fun K hK => ?_) (fun K hK => ?_)
                              ·skip
                               refine goes_ Tryd.func21 (by kernel_rfl) rfl #[.int .i64 (rest_.size : Int), .int .i64 2] (by rfl) rfl rfl (by (try simp only [List.map_toArray, List.map_cons, List.map_nil]); first | done | (simp only [hji9]; rfl) | rfl | (simp only [List.length_drop, List.length_take]; rfl)) ?_
                               with_reducible refine (custodyref24_put.calls k2 (rest_.size : Int) 2 t151 _ A18.out).mono ?_
                               rintro e w33 ⟨rfl, hb⟩
                               refine ⟨_, rfl, ?_⟩
                               have n0_ := Aside0.mk (Kd.R_below (by (with_reducible repeat (first | apply Kd.R_alloc | apply Kd.R_drewN | apply Kd.R_drew)); exact HO_6.out) hb)
                               have n1_ := Aside0.mk (below_step (by repeat (first | (with_reducible first | exact HB.out | apply below_alloc | apply pw_below_drewN | apply below_drew1) | exact HB.out)) hb)
                               clear HO_6
                               clear HB
                               have HO_6 := n0_
                               have HB := n1_
                               clear n0_ n1_
                               (try clear hb)
                               (try clear hb2)
                               (try clear hk)
                               (try clear hi)
                               refine hK.out _ _ trivial (fun hHeld => ?_)
                               clear hK K
                               refine norm_ (a' := ?_) ?_ ?_
                               rotate_left
                               ·show Act.put _ (some 43) _ = _
                                simp only [Act.put, List.setIfInBounds_toArray, List.set_cons_zero, List.set_cons_succ, i64_w, i32_w]
                                rfl
                               refine pure_ (i := 8) (N := some 44) (v := ?_) (a' := ?_) #[true, true, true, true, true, true, true, true, true, true, false, true, true, true, false, false, false, true, false, false, false] rfl rfl (any_of HT_.out (by kernel_rfl)) (fun _ _ _ h => h) (Or.inl ⟨by rfl, ?_⟩) ?_ ?_
                               rotate_left
                               ·intro w'
                                go_simp
                                with_reducible rfl
                               rotate_left
                               ·simp only [Act.put, List.setIfInBounds_toArray, List.set_cons_zero, List.set_cons_succ, i64_w, i32_w]
                                rfl
                               refine pure_ (i := 10) (N := some 46) (v := ?_) (a' := ?_) #[true, true, true, true, true, true, true, true, true, true, true, true, true, true, false, false, false, true, false, false, false] rfl rfl (any_of HT_.out (by kernel_rfl)) (fun _ _ _ h => h) (Or.inl ⟨by rfl, ?_⟩) ?_ ?_
                               rotate_left
                               ·intro w'
                                go_simp
                                with_reducible rfl
                               rotate_left
                               ·simp only [Act.put, List.setIfInBounds_toArray, List.set_cons_zero, List.set_cons_succ, i64_w, i32_w]
                                rfl
                               exact norm_ (by first | (simp only [putAll, Act.put, List.setIfInBounds_toArray, List.set_cons_zero, List.set_cons_succ]; done) | (simp only [putAll, Act.put, List.setIfInBounds_toArray, List.set_cons_zero, List.set_cons_succ]; rfl)) (hJ1_3_7 () _ ⟨(by (with_reducible repeat (first | apply Kd.R_alloc | apply Kd.R_drewN | apply Kd.R_drew)); exact HO_6.out), (by repeat (first | (with_reducible first | exact HB.out | apply below_alloc | apply pw_below_drewN | apply below_drew1) | exact HB.out))⟩)
                              ·skip
                               refine Kd.R_make_step (Kd.int .u8) _ 5 (by rfl) (N := 50) rfl 42 _ _ rfl ji21 rfl rfl Tryd.underlying42 (.int .u8 0) 1 info5 rfl (by decide) (by omega) 0 (ok := fun _ => True) (okp := fun _ => True) rfl (fun _ hk => hk) trivial (of_decide_eq_true (by first | (with_reducible assumption) | assumption)) (Nat.le_trans (Nat.mul_le_mul_right _ (of_decide_eq_true (by first | (with_reducible assumption) | assumption) : ji21.toNat ≤ 281474976710656)) (by omega)) (Below.refl _ _) (Nat.le_refl _) ?_
                               intro v153 w33 ho34 hb hg_ hnew_
                               clear hg_ hnew_
                               (first | rw [← Ny152.out] at ho34 | (simp only [Int.reduceToNat] at ho34; rw [← Ny152.out] at ho34))
                               have n0_ := Aside0.mk (Kd.R_below (by (with_reducible repeat (first | apply Kd.R_alloc | apply Kd.R_drewN | apply Kd.R_drew)); exact HO_6.out) hb)
                               have n1_ := Aside0.mk (Kd.R_lower ho34 (below_size (by repeat (first | (with_reducible first | exact HB.out | apply below_alloc | apply pw_below_drewN | apply below_drew1) | exact HB.out))))
                               have n2_ := Aside0.mk (below_step (by repeat (first | (with_reducible first | exact HB.out | apply below_alloc | apply pw_below_drewN | apply below_drew1) | exact HB.out)) hb)
                               clear HO_6
                               clear HB
                               have HO_6 := n0_
                               have HO154 := n1_
                               have HB := n2_
                               clear n0_ n1_ n2_
                               clear hb ho34
                               refine hK.out _ _ trivial (fun hHeld => ?_)
                               clear hK K
                               refine norm_ (a' := ?_) ?_ ?_
                               rotate_left
                               ·show Act.put _ (some 50) _ = _
                                simp only [Act.put, List.setIfInBounds_toArray, List.set_cons_zero, List.set_cons_succ, i64_w, i32_w]
                                rfl
                               exact norm_ (by first | (simp only [putAll, Act.put, List.setIfInBounds_toArray, List.set_cons_zero, List.set_cons_succ]; done) | (simp only [putAll, Act.put, List.setIfInBounds_toArray, List.set_cons_zero, List.set_cons_succ]; rfl)) (hJ1_3_14 (v153) _ ⟨(by (with_reducible repeat (first | apply Kd.R_alloc | apply Kd.R_drewN | apply Kd.R_drew)); exact HO154.out), (by (with_reducible repeat (first | apply Kd.R_alloc | apply Kd.R_drewN | apply Kd.R_drew)); exact HO_6.out), (by repeat (first | (with_reducible first | exact HB.out | apply below_alloc | apply pw_below_drewN | apply below_drew1) | exact HB.out))⟩)
                            ·skip
                             rintro v153 w34 ⟨h0_, h1_, h2_⟩
                             have n0_ : Aside0 (Kd.R (Kd.int .u8) 5 w34 w.heap.size (fun _ => True) v153 y152) := ⟨h0_⟩
                             have n1_ : Aside0 (Kd.R Kd.string 9 w34 w.heap.size (fun _ => True) u6 x6_2) := ⟨h1_⟩
                             have n2_ : Aside0 (Below w.heap.size w w34) := ⟨h2_⟩
                             clear HO_6
                             clear HB
                             clear h0_ h1_ h2_
                             have HO154 := n0_
                             have HO_6 := n1_
                             have HB := n2_
                             clear n0_ n1_ n2_
                             have hHeld := trivial
                             refine norm_ (a' := ?_) ?_ ?_
                             rotate_left
                             ·simp only [putAll, Act.put, List.setIfInBounds_toArray, List.set_cons_zero, List.set_cons_succ]
                              rfl
                             refine one_ (i := 3) (N := some 39) #[true, true, true, true, false, true, true, false, false, true, false, true, true, true, true, true, false, true, false, false, false] rfl rfl (one_of HT_.out (by kernel_rfl)) (by decide) (fun K hK => ?_)
                             refine goes_ Tryd.func21 (by kernel_rfl) rfl #[.int .i64 x7_2, .int .i64 2] (by rfl) rfl rfl (by (try simp only [List.map_toArray, List.map_cons, List.map_nil]); first | done | rfl | (simp only [List.length_drop, List.length_take]; rfl)) ?_
                             with_reducible refine (custodyref24_put.calls k2 x7_2 2 t150 _ A16.out).mono ?_
                             rintro e w35 ⟨rfl, hb⟩
                             refine ⟨_, rfl, ?_⟩
                             have n0_ := Aside0.mk (Kd.R_below (by (with_reducible repeat (first | apply Kd.R_alloc | apply Kd.R_drewN | apply Kd.R_drew)); exact HO_6.out) hb)
                             have n1_ := Aside0.mk (Kd.R_below (by (with_reducible repeat (first | apply Kd.R_alloc | apply Kd.R_drewN | apply Kd.R_drew)); exact HO154.out) hb)
                             have n2_ := Aside0.mk (below_step (by repeat (first | (with_reducible first | exact HB.out | apply below_alloc | apply pw_below_drewN | apply below_drew1) | exact HB.out)) hb)
                             clear HO_6
                             clear HO154
                             clear HB
                             have HO_6 := n0_
                             have HO154 := n1_
                             have HB := n2_
                             clear n0_ n1_ n2_
                             (try clear hb)
                             (try clear hb2)
                             (try clear hk)
                             (try clear hi)
                             refine hK.out _ _ trivial (fun hHeld => ?_)
                             clear hK K
                             refine norm_ (a' := ?_) ?_ ?_
                             rotate_left
                             ·show Act.put _ (some 39) _ = _
                              simp only [Act.put, List.setIfInBounds_toArray, List.set_cons_zero, List.set_cons_succ, i64_w, i32_w]
                              rfl
                             refine pure_ (i := 4) (N := some 40) (v := ?_) (a' := ?_) #[true, true, true, true, true, true, true, false, false, true, false, true, true, true, true, true, false, true, false, false, false] rfl rfl (any_of HT_.out (by kernel_rfl)) (fun _ _ _ h => h) (Or.inl ⟨by rfl, ?_⟩) ?_ ?_
                             rotate_left
                             ·intro w'
                              go_simp
                              with_reducible rfl
                             rotate_left
                             ·simp only [Act.put, List.setIfInBounds_toArray, List.set_cons_zero, List.set_cons_succ, i64_w, i32_w]
                              rfl
                             exact norm_ (by first | (simp only [putAll, Act.put, List.setIfInBounds_toArray, List.set_cons_zero, List.set_cons_succ]; done) | (simp only [putAll, Act.put, List.setIfInBounds_toArray, List.set_cons_zero, List.set_cons_succ]; rfl)) (hJ1_3_14_15 (v153) _ ⟨(by (with_reducible repeat (first | apply Kd.R_alloc | apply Kd.R_drewN | apply Kd.R_drew)); exact HO154.out), (by (with_reducible repeat (first | apply Kd.R_alloc | apply Kd.R_drewN | apply Kd.R_drew)); exact HO_6.out), (by repeat (first | (with_reducible first | exact HB.out | apply below_alloc | apply pw_below_drewN | apply below_drew1) | exact HB.out))⟩)
                           ·skip
                            rintro v153 w34 ⟨h0_, h1_, h2_⟩
                            have n0_ : Aside0 (Kd.R (Kd.int .u8) 5 w34 w.heap.size (fun _ => True) v153 y152) := ⟨h0_⟩
                            have n1_ : Aside0 (Kd.R Kd.string 9 w34 w.heap.size (fun _ => True) u6 x6_2) := ⟨h1_⟩
                            have n2_ : Aside0 (Below w.heap.size w w34) := ⟨h2_⟩
                            clear HO_6
                            clear HB
                            clear h0_ h1_ h2_
                            have HO154 := n0_
                            have HO_6 := n1_
                            have HB := n2_
                            clear n0_ n1_ n2_
                            have hHeld := trivial
                            refine norm_ (a' := ?_) ?_ ?_
                            rotate_left
                            ·simp only [putAll, Act.put, List.setIfInBounds_toArray, List.set_cons_zero, List.set_cons_succ]
                             rfl
                            refine two_ (i := 7) (j := 15) (Ni := some 43) (Nj := some 51) #[true, true, true, true, true, true, true, true, false, true, false, true, true, true, true, false, false, true, false, false, false] #[true, true, true, true, true, true, true, false, false, true, false, true, true, true, true, true, false, true, false, false, false] rfl rfl rfl rfl (two_of HT_.out (by kernel_rfl)) (by decide) (by decide) (fun K hK => ?_) (fun K hK => ?_)
                            ·skip
                             refine goes_ Tryd.func21 (by kernel_rfl) rfl #[.int .i64 (rest_.size : Int), .int .i64 2] (by rfl) rfl rfl (by (try simp only [List.map_toArray, List.map_cons, List.map_nil]); first | done | (simp only [hji9]; rfl) | rfl | (simp only [List.length_drop, List.length_take]; rfl)) ?_
                             with_reducible refine (custodyref24_put.calls k2 (rest_.size : Int) 2 t151 _ A18.out).mono ?_
                             rintro e w35 ⟨rfl, hb⟩
                             refine ⟨_, rfl, ?_⟩
                             have n0_ := Aside0.mk (Kd.R_below (by (with_reducible repeat (first | apply Kd.R_alloc | apply Kd.R_drewN | apply Kd.R_drew)); exact HO_6.out) hb)
                             have n1_ := Aside0.mk (Kd.R_below (by (with_reducible repeat (first | apply Kd.R_alloc | apply Kd.R_drewN | apply Kd.R_drew)); exact HO154.out) hb)
                             have n2_ := Aside0.mk (below_step (by repeat (first | (with_reducible first | exact HB.out | apply below_alloc | apply pw_below_drewN | apply below_drew1) | exact HB.out)) hb)
                             clear HO_6
                             clear HO154
                             clear HB
                             have HO_6 := n0_
                             have HO154 := n1_
                             have HB := n2_
                             clear n0_ n1_ n2_
                             (try clear hb)
                             (try clear hb2)
                             (try clear hk)
                             (try clear hi)
                             refine hK.out _ _ trivial (fun hHeld => ?_)
                             clear hK K
                             refine norm_ (a' := ?_) ?_ ?_
                             rotate_left
                             ·show Act.put _ (some 43) _ = _
                              simp only [Act.put, List.setIfInBounds_toArray, List.set_cons_zero, List.set_cons_succ, i64_w, i32_w]
                              rfl
                             refine pure_ (i := 8) (N := some 44) (v := ?_) (a' := ?_) #[true, true, true, true, true, true, true, true, true, true, false, true, true, true, true, false, false, true, false, false, false] rfl rfl (any_of HT_.out (by kernel_rfl)) (fun _ _ _ h => h) (Or.inl ⟨by rfl, ?_⟩) ?_ ?_
                             rotate_left
                             ·intro w'
                              go_simp
                              with_reducible rfl
                             rotate_left
                             ·simp only [Act.put, List.setIfInBounds_toArray, List.set_cons_zero, List.set_cons_succ, i64_w, i32_w]
                              rfl
                             refine pure_ (i := 10) (N := some 46) (v := ?_) (a' := ?_) #[true, true, true, true, true, true, true, true, true, true, true, true, true, true, true, false, false, true, false, false, false] rfl rfl (any_of HT_.out (by kernel_rfl)) (fun _ _ _ h => h) (Or.inl ⟨by rfl, ?_⟩) ?_ ?_
                             rotate_left
                             ·intro w'
                              go_simp
                              with_reducible rfl
                             rotate_left
                             ·simp only [Act.put, List.setIfInBounds_toArray, List.set_cons_zero, List.set_cons_succ, i64_w, i32_w]
                              rfl
                             exact norm_ (by first | (simp only [putAll, Act.put, List.setIfInBounds_toArray, List.set_cons_zero, List.set_cons_succ]; done) | (simp only [putAll, Act.put, List.setIfInBounds_toArray, List.set_cons_zero, List.set_cons_succ]; rfl)) (hJ1_3_7_14 (v153) _ ⟨(by (with_reducible repeat (first | apply Kd.R_alloc | apply Kd.R_drewN | apply Kd.R_drew)); exact HO154.out), (by (with_reducible repeat (first | apply Kd.R_alloc | apply Kd.R_drewN | apply Kd.R_drew)); exact HO_6.out), (by repeat (first | (with_reducible first | exact HB.out | apply below_alloc | apply pw_below_drewN | apply below_drew1) | exact HB.out))⟩)
                            ·skip
                             have hcv35 := own_string (P := Tryd.prog) Tryd.underlying42 Tryd.underlying5 Tryd.underlying9 (Kd.own_of_R HO154.out)
                             refine value_ (w1 := ?_) (v := ?_) (by rfl) rfl ?_ ?_
                             rotate_left 2
                             ·go_simp
                              constructor
                              ·rfl
                              ·rfl
                             clear hcv35
                             refine hK.out _ _ trivial (fun hHeld => ?_)
                             clear hK K
                             refine norm_ (a' := ?_) ?_ ?_
                             rotate_left
                             ·show Act.put _ (some 51) _ = _
                              simp only [Act.put, List.setIfInBounds_toArray, List.set_cons_zero, List.set_cons_succ, i64_w, i32_w]
                              rfl
                             exact norm_ (by first | (simp only [putAll, Act.put, List.setIfInBounds_toArray, List.set_cons_zero, List.set_cons_succ]; done) | (simp only [putAll, Act.put, List.setIfInBounds_toArray, List.set_cons_zero, List.set_cons_succ]; rfl)) (hJ1_3_14_15 (v153) _ ⟨(by (with_reducible repeat (first | apply Kd.R_alloc | apply Kd.R_drewN | apply Kd.R_drew)); exact HO154.out), (by (with_reducible repeat (first | apply Kd.R_alloc | apply Kd.R_drewN | apply Kd.R_drew)); exact HO_6.out), (by repeat (first | (with_reducible first | exact HB.out | apply below_alloc | apply pw_below_drewN | apply below_drew1) | exact HB.out))⟩)
                          ·skip
                           rintro _ w33 ⟨h0_, h1_⟩
                           have n0_ : Aside0 (Kd.R Kd.string 9 w33 w.heap.size (fun _ => True) u6 x6_2) := ⟨h0_⟩
                           have n1_ : Aside0 (Below w.heap.size w w33) := ⟨h1_⟩
                           clear HO_6
                           clear HB
                           clear h0_ h1_
                           have HO_6 := n0_
                           have HB := n1_
                           clear n0_ n1_
                           have hHeld := trivial
                           refine norm_ (a' := ?_) ?_ ?_
                           rotate_left
                           ·simp only [putAll, Act.put, List.setIfInBounds_toArray, List.set_cons_zero, List.set_cons_succ]
                            rfl
                           refine two_ (i := 14) (j := 18) (Ni := some 50) (Nj := some 54) #[true, true, true, true, true, true, true, true, true, true, true, true, true, true, true, false, false, true, false, false, false] #[true, true, true, true, true, true, true, true, true, true, true, true, true, true, false, false, false, true, true, false, false] rfl rfl rfl rfl (two_of HT_.out (by kernel_rfl)) (by decide) (by decide) (fun K hK => ?_) (fun K hK => ?_)
                           ·skip
                            refine Kd.R_make_step (Kd.int .u8) _ 5 (by rfl) (N := 50) rfl 42 _ _ rfl ji21 rfl rfl Tryd.underlying42 (.int .u8 0) 1 info5 rfl (by decide) (by omega) 0 (ok := fun _ => True) (okp := fun _ => True) rfl (fun _ hk => hk) trivial (of_decide_eq_true (by first | (with_reducible assumption) | assumption)) (Nat.le_trans (Nat.mul_le_mul_right _ (of_decide_eq_true (by first | (with_reducible assumption) | assumption) : ji21.toNat ≤ 281474976710656)) (by omega)) (Below.refl _ _) (Nat.le_refl _) ?_
                            intro v153 w34 ho35 hb hg_ hnew_
                            clear hg_ hnew_
                            (first | rw [← Ny152.out] at ho35 | (simp only [Int.reduceToNat] at ho35; rw [← Ny152.out] at ho35))
                            have n0_ := Aside0.mk (Kd.R_below (by (with_reducible repeat (first | apply Kd.R_alloc | apply Kd.R_drewN | apply Kd.R_drew)); exact HO_6.out) hb)
                            have n1_ := Aside0.mk (Kd.R_lower ho35 (below_size (by repeat (first | (with_reducible first | exact HB.out | apply below_alloc | apply pw_below_drewN | apply below_drew1) | exact HB.out))))
                            have n2_ := Aside0.mk (below_step (by repeat (first | (with_reducible first | exact HB.out | apply below_alloc | apply pw_below_drewN | apply below_drew1) | exact HB.out)) hb)
                            clear HO_6
                            clear HB
                            have HO_6 := n0_
                            have HO154 := n1_
                            have HB := n2_
                            clear n0_ n1_ n2_
                            clear hb ho35
                            refine hK.out _ _ trivial (fun hHeld => ?_)
                            clear hK K
                            refine norm_ (a' := ?_) ?_ ?_
                            rotate_left
                            ·show Act.put _ (some 50) _ = _
                             simp only [Act.put, List.setIfInBounds_toArray, List.set_cons_zero, List.set_cons_succ, i64_w, i32_w]
                             rfl
                            exact norm_ (by first | (simp only [putAll, Act.put, List.setIfInBounds_toArray, List.set_cons_zero, List.set_cons_succ]; done) | (simp only [putAll, Act.put, List.setIfInBounds_toArray, List.set_cons_zero, List.set_cons_succ]; rfl)) (hJ1_3_7_14 (v153) _ ⟨(by (with_reducible repeat (first | apply Kd.R_alloc | apply Kd.R_drewN | apply Kd.R_drew)); exact HO154.out), (by (with_reducible repeat (first | apply Kd.R_alloc | apply Kd.R_drewN | apply Kd.R_drew)); exact HO_6.out), (by repeat (first | (with_reducible first | exact HB.out | apply below_alloc | apply pw_below_drewN | apply below_drew1) | exact HB.out))⟩)
                           ·skip
                            refine goes_ Tryd.func21 (by kernel_rfl) rfl #[.int .i64 a0, .int .i64 8] (by rfl) rfl rfl (by (try simp only [List.map_toArray, List.map_cons, List.map_nil]); first | done | rfl | (simp only [List.length_drop, List.length_take]; rfl)) ?_
                            with_reducible refine (custodyref24_put.calls k2 a0 8 t155 _ A25.out).mono ?_
                            rintro e w34 ⟨rfl, hb⟩
                            refine ⟨_, rfl, ?_⟩
                            have n0_ := Aside0.mk (Kd.R_below (by (with_reducible repeat (first | apply Kd.R_alloc | apply Kd.R_drewN | apply Kd.R_drew)); exact HO_6.out) hb)
                            have n1_ := Aside0.mk (below_step (by repeat (first | (with_reducible first | exact HB.out | apply below_alloc | apply pw_below_drewN | apply below_drew1) | exact HB.out)) hb)
                            clear HO_6
                            clear HB
                            have HO_6 := n0_
                            have HB := n1_
                            clear n0_ n1_
                            (try clear hb)
                            (try clear hb2)
                            (try clear hk)
                            (try clear hi)
                            refine hK.out _ _ trivial (fun hHeld => ?_)
                            clear hK K
                            refine norm_ (a' := ?_) ?_ ?_
                            rotate_left
                            ·show Act.put _ (some 54) _ = _
                             simp only [Act.put, List.setIfInBounds_toArray, List.set_cons_zero, List.set_cons_succ, i64_w, i32_w]
                             rfl
                            exact norm_ (by first | (simp only [putAll, Act.put, List.setIfInBounds_toArray, List.set_cons_zero, List.set_cons_succ]; done) | (simp only [putAll, Act.put, List.setIfInBounds_toArray, List.set_cons_zero, List.set_cons_succ]; rfl)) (hJ1_3_7_18 () _ ⟨(by (with_reducible repeat (first | apply Kd.R_alloc | apply Kd.R_drewN | apply Kd.R_drew)); exact HO_6.out), (by repeat (first | (with_reducible first | exact HB.out | apply below_alloc | apply pw_below_drewN | apply below_drew1) | exact HB.out))⟩)
                         ·skip
                          rintro v153 w35 ⟨h0_, h1_, h2_⟩
                          have n0_ : Aside0 (Kd.R (Kd.int .u8) 5 w35 w.heap.size (fun _ => True) v153 y152) := ⟨h0_⟩
                          have n1_ : Aside0 (Kd.R Kd.string 9 w35 w.heap.size (fun _ => True) u6 x6_2) := ⟨h1_⟩
                          have n2_ : Aside0 (Below w.heap.size w w35) := ⟨h2_⟩
                          clear HO_6
                          clear HB
                          clear h0_ h1_ h2_
                          have HO154 := n0_
                          have HO_6 := n1_
                          have HB := n2_
                          clear n0_ n1_ n2_
                          have hHeld := trivial
                          refine norm_ (a' := ?_) ?_ ?_
                          rotate_left
                          ·simp only [putAll, Act.put, List.setIfInBounds_toArray, List.set_cons_zero, List.set_cons_succ]
                           rfl
                          refine one_ (i := 7) (N := some 43) #[true, true, true, true, true, true, true, true, false, true, false, true, true, true, true, true, false, true, false, false, false] rfl rfl (one_of HT_.out (by kernel_rfl)) (by decide) (fun K hK => ?_)
                          refine goes_ Tryd.func21 (by kernel_rfl) rfl #[.int .i64 (rest_.size : Int), .int .i64 2] (by rfl) rfl rfl (by (try simp only [List.map_toArray, List.map_cons, List.map_nil]); first | done | (simp only [hji9]; rfl) | rfl | (simp only [List.length_drop, List.length_take]; rfl)) ?_
                          with_reducible refine (custodyref24_put.calls k2 (rest_.size : Int) 2 t151 _ A18.out).mono ?_
                          rintro e w36 ⟨rfl, hb⟩
                          refine ⟨_, rfl, ?_⟩
                          have n0_ := Aside0.mk (Kd.R_below (by (with_reducible repeat (first | apply Kd.R_alloc | apply Kd.R_drewN | apply Kd.R_drew)); exact HO_6.out) hb)
                          have n1_ := Aside0.mk (Kd.R_below (by (with_reducible repeat (first | apply Kd.R_alloc | apply Kd.R_drewN | apply Kd.R_drew)); exact HO154.out) hb)
                          have n2_ := Aside0.mk (below_step (by repeat (first | (with_reducible first | exact HB.out | apply below_alloc | apply pw_below_drewN | apply below_drew1) | exact HB.out)) hb)
                          clear HO_6
                          clear HO154
                          clear HB
                          have HO_6 := n0_
                          have HO154 := n1_
                          have HB := n2_
                          clear n0_ n1_ n2_
                          (try clear hb)
                          (try clear hb2)
                          (try clear hk)
                          (try clear hi)
                          refine hK.out _ _ trivial (fun hHeld => ?_)
                          clear hK K
                          refine norm_ (a' := ?_) ?_ ?_
                          rotate_left
                          ·show Act.put _ (some 43) _ = _
                           simp only [Act.put, List.setIfInBounds_toArray, List.set_cons_zero, List.set_cons_succ, i64_w, i32_w]
                           rfl
                          refine pure_ (i := 8) (N := some 44) (v := ?_) (a' := ?_) #[true, true, true, true, true, true, true, true, true, true, false, true, true, true, true, true, false, true, false, false, false] rfl rfl (any_of HT_.out (by kernel_rfl)) (fun _ _ _ h => h) (Or.inl ⟨by rfl, ?_⟩) ?_ ?_
                          rotate_left
                          ·intro w'
                           go_simp
                           with_reducible rfl
                          rotate_left
                          ·simp only [Act.put, List.setIfInBounds_toArray, List.set_cons_zero, List.set_cons_succ, i64_w, i32_w]
                           rfl
                          refine pure_ (i := 10) (N := some 46) (v := ?_) (a' := ?_) #[true, true, true, true, true, true, true, true, true, true, true, true, true, true, true, true, false, true, false, false, false] rfl rfl (any_of HT_.out (by kernel_rfl)) (fun _ _ _ h => h) (Or.inl ⟨by rfl, ?_⟩) ?_ ?_
                          rotate_left
                          ·intro w'
                           go_simp
                           with_reducible rfl
                          rotate_left
                          ·simp only [Act.put, List.setIfInBounds_toArray, List.set_cons_zero, List.set_cons_succ, i64_w, i32_w]
                           rfl
                          refine pure_ (i := 16) (N := some 52) (v := ?_) (a' := ?_) #[true, true, true, true, true, true, true, true, true, true, true, true, true, true, true, true, true, true, false, false, false] rfl rfl (any_of HT_.out (by kernel_rfl)) (fun _ _ _ h => h) (Or.inl ⟨by rfl, ?_⟩) ?_ ?_
                          rotate_left
                          ·intro w'
                           go_simp
                           with_reducible rfl
                          rotate_left
                          ·simp only [Act.put, List.setIfInBounds_toArray, List.set_cons_zero, List.set_cons_succ, i64_w, i32_w]
                           rfl
                          exact norm_ (by first | (simp only [putAll, Act.put, List.setIfInBounds_toArray, List.set_cons_zero, List.set_cons_succ]; done) | (simp only [putAll, Act.put, List.setIfInBounds_toArray, List.set_cons_zero, List.set_cons_succ]; rfl)) (hJ1_3_7_14_15 (v153) _ ⟨(by (with_reducible repeat (first | apply Kd.R_alloc | apply Kd.R_drewN | apply Kd.R_drew)); exact HO154.out), (by (with_reducible repeat (first | apply Kd.R_alloc | apply Kd.R_drewN | apply Kd.R_drew)); exact HO_6.out), (by repeat (first | (with_reducible first | exact HB.out | apply below_alloc | apply pw_below_drewN | apply below_drew1) | exact HB.out))⟩)
                        ·skip
                         rintro _ w34 ⟨h0_, h1_⟩
                         have n0_ : Aside0 (Kd.R Kd.string 9 w34 w.heap.size (fun _ => True) u6 x6_2) := ⟨h0_⟩
                         have n1_ : Aside0 (Below w.heap.size w w34) := ⟨h1_⟩
                         clear HO_6
                         clear HB
                         clear h0_ h1_
                         have HO_6 := n0_
                         have HB := n1_
                         clear n0_ n1_
                         have hHeld := trivial
                         refine norm_ (a' := ?_) ?_ ?_
                         rotate_left
                         ·simp only [putAll, Act.put, List.setIfInBounds_toArray, List.set_cons_zero, List.set_cons_succ]
                          rfl
                         refine one_ (i := 14) (N := some 50) #[true, true, true, true, true, true, true, true, true, true, true, true, true, true, true, false, false, true, true, false, false] rfl rfl (one_of HT_.out (by kernel_rfl)) (by decide) (fun K hK => ?_)
                         refine Kd.R_make_step (Kd.int .u8) _ 5 (by rfl) (N := 50) rfl 42 _ _ rfl ji21 rfl rfl Tryd.underlying42 (.int .u8 0) 1 info5 rfl (by decide) (by omega) 0 (ok := fun _ => True) (okp := fun _ => True) rfl (fun _ hk => hk) trivial (of_decide_eq_true (by first | (with_reducible assumption) | assumption)) (Nat.le_trans (Nat.mul_le_mul_right _ (of_decide_eq_true (by first | (with_reducible assumption) | assumption) : ji21.toNat ≤ 281474976710656)) (by omega)) (Below.refl _ _) (Nat.le_refl _) ?_
                         intro v153 w35 ho36 hb hg_ hnew_
                         clear hg_ hnew_
                         (first | rw [← Ny152.out] at ho36 | (simp only [Int.reduceToNat] at ho36; rw [← Ny152.out] at ho36))
                         have n0_ := Aside0.mk (Kd.R_below (by (with_reducible repeat (first | apply Kd.R_alloc | apply Kd.R_drewN | apply Kd.R_drew)); exact HO_6.out) hb)
                         have n1_ := Aside0.mk (Kd.R_lower ho36 (below_size (by repeat (first | (with_reducible first | exact HB.out | apply below_alloc | apply pw_below_drewN | apply below_drew1) | exact HB.out))))
                         have n2_ := Aside0.mk (below_step (by repeat (first | (with_reducible first | exact HB.out | apply below_alloc | apply pw_below_drewN | apply below_drew1) | exact HB.out)) hb)
                         clear HO_6
                         clear HB
                         have HO_6 := n0_
                         have HO154 := n1_
                         have HB := n2_
                         clear n0_ n1_ n2_
                         clear hb ho36
                         refine hK.out _ _ trivial (fun hHeld => ?_)
                         clear hK K
                         refine norm_ (a' := ?_) ?_ ?_
                         rotate_left
                         ·show Act.put _ (some 50) _ = _
                          simp only [Act.put, List.setIfInBounds_toArray, List.set_cons_zero, List.set_cons_succ, i64_w, i32_w]
                          rfl
                         exact norm_ (by first | (simp only [putAll, Act.put, List.setIfInBounds_toArray, List.set_cons_zero, List.set_cons_succ]; done) | (simp only [putAll, Act.put, List.setIfInBounds_toArray, List.set_cons_zero, List.set_cons_succ]; rfl)) (hJ1_3_7_14_18 (v153) _ ⟨(by (with_reducible repeat (first | apply Kd.R_alloc | apply Kd.R_drewN | apply Kd.R_drew)); exact HO154.out), (by (with_reducible repeat (first | apply Kd.R_alloc | apply Kd.R_drewN | apply Kd.R_drew)); exact HO_6.out), (by repeat (first | (with_reducible first | exact HB.out | apply below_alloc | apply pw_below_drewN | apply below_drew1) | exact HB.out))⟩)
                       ·skip
                        rintro v153 w35 ⟨h0_, h1_, h2_⟩
                        have n0_ : Aside0 (Kd.R (Kd.int .u8) 5 w35 w.heap.size (fun _ => True) v153 y152) := ⟨h0_⟩
                        have n1_ : Aside0 (Kd.R Kd.string 9 w35 w.heap.size (fun _ => True) u6 x6_2) := ⟨h1_⟩
                        have n2_ : Aside0 (Below w.heap.size w w35) := ⟨h2_⟩
                        clear HO_6
                        clear HB
                        clear h0_ h1_ h2_
                        have HO154 := n0_
                        have HO_6 := n1_
                        have HB := n2_
                        clear n0_ n1_ n2_
                        have hHeld := trivial
                        refine norm_ (a' := ?_) ?_ ?_
                        rotate_left
                        ·simp only [putAll, Act.put, List.setIfInBounds_toArray, List.set_cons_zero, List.set_cons_succ]
                         rfl
                        refine two_ (i := 15) (j := 18) (Ni := some 51) (Nj := some 54) #[true, true, true, true, true, true, true, true, true, true, true, true, true, true, true, true, false, true, false, false, false] #[true, true, true, true, true, true, true, true, true, true, true, true, true, true, true, false, false, true, true, false, false] rfl rfl rfl rfl (two_of HT_.out (by kernel_rfl)) (by decide) (by decide) (fun K hK => ?_) (fun K hK => ?_)
                        ·skip
                         have hcv36 := own_string (P := Tryd.prog) Tryd.underlying42 Tryd.underlying5 Tryd.underlying9 (Kd.own_of_R HO154.out)
                         refine value_ (w1 := ?_) (v := ?_) (by rfl) rfl ?_ ?_
                         rotate_left 2
                         ·go_simp
                          constructor
                          ·rfl
                          ·rfl
                         clear hcv36
                         refine hK.out _ _ trivial (fun hHeld => ?_)
                         clear hK K
                         refine norm_ (a' := ?_) ?_ ?_
                         rotate_left
                         ·show Act.put _ (some 51) _ = _
                          simp only [Act.put, List.setIfInBounds_toArray, List.set_cons_zero, List.set_cons_succ, i64_w, i32_w]
                          rfl
                         refine pure_ (i := 16) (N := some 52) (v := ?_) (a' := ?_) #[true, true, true, true, true, true, true, true, true, true, true, true, true, true, true, true, true, true, false, false, false] rfl rfl (any_of HT_.out (by kernel_rfl)) (fun _ _ _ h => h) (Or.inl ⟨by rfl, ?_⟩) ?_ ?_
                         rotate_left
                         ·intro w'
                          go_simp
                          with_reducible rfl
                         rotate_left
                         ·simp only [Act.put, List.setIfInBounds_toArray, List.set_cons_zero, List.set_cons_succ, i64_w, i32_w]
                          rfl
                         exact norm_ (by first | (simp only [putAll, Act.put, List.setIfInBounds_toArray, List.set_cons_zero, List.set_cons_succ]; done) | (simp only [putAll, Act.put, List.setIfInBounds_toArray, List.set_cons_zero, List.set_cons_succ]; rfl)) (hJ1_3_7_14_15 (v153) _ ⟨(by (with_reducible repeat (first | apply Kd.R_alloc | apply Kd.R_drewN | apply Kd.R_drew)); exact HO154.out), (by (with_reducible repeat (first | apply Kd.R_alloc | apply Kd.R_drewN | apply Kd.R_drew)); exact HO_6.out), (by repeat (first | (with_reducible first | exact HB.out | apply below_alloc | apply pw_below_drewN | apply below_drew1) | exact HB.out))⟩)
                        ·skip
                         refine goes_ Tryd.func21 (by kernel_rfl) rfl #[.int .i64 a0, .int .i64 8] (by rfl) rfl rfl (by (try simp only [List.map_toArray, List.map_cons, List.map_nil]); first | done | rfl | (simp only [List.length_drop, List.length_take]; rfl)) ?_
                         with_reducible refine (custodyref24_put.calls k2 a0 8 t155 _ A25.out).mono ?_
                         rintro e w36 ⟨rfl, hb⟩
                         refine ⟨_, rfl, ?_⟩
                         have n0_ := Aside0.mk (Kd.R_below (by (with_reducible repeat (first | apply Kd.R_alloc | apply Kd.R_drewN | apply Kd.R_drew)); exact HO_6.out) hb)
                         have n1_ := Aside0.mk (Kd.R_below (by (with_reducible repeat (first | apply Kd.R_alloc | apply Kd.R_drewN | apply Kd.R_drew)); exact HO154.out) hb)
                         have n2_ := Aside0.mk (below_step (by repeat (first | (with_reducible first | exact HB.out | apply below_alloc | apply pw_below_drewN | apply below_drew1) | exact HB.out)) hb)
                         clear HO_6
                         clear HO154
                         clear HB
                         have HO_6 := n0_
                         have HO154 := n1_
                         have HB := n2_
                         clear n0_ n1_ n2_
                         (try clear hb)
                         (try clear hb2)
                         (try clear hk)
                         (try clear hi)
                         refine hK.out _ _ trivial (fun hHeld => ?_)
                         clear hK K
                         refine norm_ (a' := ?_) ?_ ?_
                         rotate_left
                         ·show Act.put _ (some 54) _ = _
                          simp only [Act.put, List.setIfInBounds_toArray, List.set_cons_zero, List.set_cons_succ, i64_w, i32_w]
                          rfl
                         exact norm_ (by first | (simp only [putAll, Act.put, List.setIfInBounds_toArray, List.set_cons_zero, List.set_cons_succ]; done) | (simp only [putAll, Act.put, List.setIfInBounds_toArray, List.set_cons_zero, List.set_cons_succ]; rfl)) (hJ1_3_7_14_18 (v153) _ ⟨(by (with_reducible repeat (first | apply Kd.R_alloc | apply Kd.R_drewN | apply Kd.R_drew)); exact HO154.out), (by (with_reducible repeat (first | apply Kd.R_alloc | apply Kd.R_drewN | apply Kd.R_drew)); exact HO_6.out), (by repeat (first | (with_reducible first | exact HB.out | apply below_alloc | apply pw_below_drewN | apply below_drew1) | exact HB.out))⟩)
                      ·skip
                       rintro v153 w36 ⟨h0_, h1_, h2_⟩
                       have n0_ : Aside0 (Kd.R (Kd.int .u8) 5 w36 w.heap.size (fun _ => True) v153 y152) := ⟨h0_⟩
                       have n1_ : Aside0 (Kd.R Kd.string 9 w36 w.heap.size (fun _ => True) u6 x6_2) := ⟨h1_⟩
                       have n2_ : Aside0 (Below w.heap.size w w36) := ⟨h2_⟩
                       clear HO_6
                       clear HB
                       clear h0_ h1_ h2_
                       have HO154 := n0_
                       have HO_6 := n1_
                       have HB := n2_
                       clear n0_ n1_ n2_
                       have hHeld := trivial
                       refine norm_ (a' := ?_) ?_ ?_
                       rotate_left
                       ·simp only [putAll, Act.put, List.setIfInBounds_toArray, List.set_cons_zero, List.set_cons_succ]
                        rfl
                       refine one_ (i := 15) (N := some 51) #[true, true, true, true, true, true, true, true, true, true, true, true, true, true, true, true, false, true, true, false, false] rfl rfl (one_of HT_.out (by kernel_rfl)) (by decide) (fun K hK => ?_)
                       have hcv37 := own_string (P := Tryd.prog) Tryd.underlying42 Tryd.underlying5 Tryd.underlying9 (Kd.own_of_R HO154.out)
                       refine value_ (w1 := ?_) (v := ?_) (by rfl) rfl ?_ ?_
                       rotate_left 2
                       ·go_simp
                        constructor
                        ·rfl
                        ·rfl
                       clear hcv37
                       refine hK.out _ _ trivial (fun hHeld => ?_)
                       clear hK K
                       refine norm_ (a' := ?_) ?_ ?_
                       rotate_left
                       ·show Act.put _ (some 51) _ = _
                        simp only [Act.put, List.setIfInBounds_toArray, List.set_cons_zero, List.set_cons_succ, i64_w, i32_w]
                        rfl
                       refine pure_ (i := 16) (N := some 52) (v := ?_) (a' := ?_) #[true, true, true, true, true, true, true, true, true, true, true, true, true, true, true, true, true, true, true, false, false] rfl rfl (any_of HT_.out (by kernel_rfl)) (fun _ _ _ h => h) (Or.inl ⟨by rfl, ?_⟩) ?_ ?_
                       rotate_left
                       ·intro w'
                        go_simp
                        with_reducible rfl
                       rotate_left
                       ·simp only [Act.put, List.setIfInBounds_toArray, List.set_cons_zero, List.set_cons_succ, i64_w, i32_w]
                        rfl
                       exact norm_ (by first | (simp only [putAll, Act.put, List.setIfInBounds_toArray, List.set_cons_zero, List.set_cons_succ]; done) | (simp only [putAll, Act.put, List.setIfInBounds_toArray, List.set_cons_zero, List.set_cons_succ]; rfl)) (hJ1_3_7_14_15_18 (v153) _ ⟨(by (with_reducible repeat (first | apply Kd.R_alloc | apply Kd.R_drewN | apply Kd.R_drew)); exact HO154.out), (by (with_reducible repeat (first | apply Kd.R_alloc | apply Kd.R_drewN | apply Kd.R_drew)); exact HO_6.out), (by repeat (first | (with_reducible first | exact HB.out | apply below_alloc | apply pw_below_drewN | apply below_drew1) | exact HB.out))⟩)
                     ·skip
                      rintro v153 w36 ⟨h0_, h1_, h2_⟩
                      have n0_ : Aside0 (Kd.R (Kd.int .u8) 5 w36 w.heap.size (fun _ => True) v153 y152) := ⟨h0_⟩
                      have n1_ : Aside0 (Kd.R Kd.string 9 w36 w.heap.size (fun _ => True) u6 x6_2) := ⟨h1_⟩
                      have n2_ : Aside0 (Below w.heap.size w w36) := ⟨h2_⟩
                      clear HO_6
                      clear HB
                      clear h0_ h1_ h2_
                      have HO154 := n0_
                      have HO_6 := n1_
                      have HB := n2_
                      clear n0_ n1_ n2_
                      have hHeld := trivial
                      refine norm_ (a' := ?_) ?_ ?_
                      rotate_left
                      ·simp only [putAll, Act.put, List.setIfInBounds_toArray, List.set_cons_zero, List.set_cons_succ]
                       rfl
                      refine one_ (i := 18) (N := some 54) #[true, true, true, true, true, true, true, true, true, true, true, true, true, true, true, true, true, true, true, false, false] rfl rfl (one_of HT_.out (by kernel_rfl)) (by decide) (fun K hK => ?_)
                      refine goes_ Tryd.func21 (by kernel_rfl) rfl #[.int .i64 a0, .int .i64 8] (by rfl) rfl rfl (by (try simp only [List.map_toArray, List.map_cons, List.map_nil]); first | done | rfl | (simp only [List.length_drop, List.length_take]; rfl)) ?_
                      with_reducible refine (custodyref24_put.calls k2 a0 8 t155 _ A25.out).mono ?_
                      rintro e w37 ⟨rfl, hb⟩
                      refine ⟨_, rfl, ?_⟩
                      have n0_ := Aside0.mk (Kd.R_below (by (with_reducible repeat (first | apply Kd.R_alloc | apply Kd.R_drewN | apply Kd.R_drew)); exact HO_6.out) hb)
                      have n1_ := Aside0.mk (Kd.R_below (by (with_reducible repeat (first | apply Kd.R_alloc | apply Kd.R_drewN | apply Kd.R_drew)); exact HO154.out) hb)
                      have n2_ := Aside0.mk (below_step (by repeat (first | (with_reducible first | exact HB.out | apply below_alloc | apply pw_below_drewN | apply below_drew1) | exact HB.out)) hb)
                      clear HO_6
                      clear HO154
                      clear HB
                      have HO_6 := n0_
                      have HO154 := n1_
                      have HB := n2_
                      clear n0_ n1_ n2_
                      (try clear hb)
                      (try clear hb2)
                      (try clear hk)
                      (try clear hi)
                      refine hK.out _ _ trivial (fun hHeld => ?_)
                      clear hK K
                      refine norm_ (a' := ?_) ?_ ?_
                      rotate_left
                      ·show Act.put _ (some 54) _ = _
                       simp only [Act.put, List.setIfInBounds_toArray, List.set_cons_zero, List.set_cons_succ, i64_w, i32_w]
                       rfl
                      exact norm_ (by first | (simp only [putAll, Act.put, List.setIfInBounds_toArray, List.set_cons_zero, List.set_cons_succ]; done) | (simp only [putAll, Act.put, List.setIfInBounds_toArray, List.set_cons_zero, List.set_cons_succ]; rfl)) (hJ1_3_7_14_15_18 (v153) _ ⟨(by (with_reducible repeat (first | apply Kd.R_alloc | apply Kd.R_drewN | apply Kd.R_drew)); exact HO154.out), (by (with_reducible repeat (first | apply Kd.R_alloc | apply Kd.R_drewN | apply Kd.R_drew)); exact HO_6.out), (by repeat (first | (with_reducible first | exact HB.out | apply below_alloc | apply pw_below_drewN | apply below_drew1) | exact HB.out))⟩)
                    rintro v153 w37 ⟨h0_, h1_, h2_⟩
                    have n0_ : Aside0 (Kd.R (Kd.int .u8) 5 w37 w.heap.size (fun _ => True) v153 y152) := ⟨h0_⟩
                    have n1_ : Aside0 (Kd.R Kd.string 9 w37 w.heap.size (fun _ => True) u6 x6_2) := ⟨h1_⟩
                    have n2_ : Aside0 (Below w.heap.size w w37) := ⟨h2_⟩
                    clear HO_6
                    clear HB
                    clear h0_ h1_ h2_
                    have HO154 := n0_
                    have HO_6 := n1_
                    have HB := n2_
                    clear n0_ n1_ n2_
                    have hHeld := trivial
                    refine norm_ (a' := ?_) ?_ ?_
                    rotate_left
                    ·simp only [putAll, Act.put, List.setIfInBounds_toArray, List.set_cons_zero, List.set_cons_succ]
                     rfl
                    refine pure_ (i := 19) (N := some 55) (v := ?_) (a' := ?_) #[true, true, true, true, true, true, true, true, true, true, true, true, true, true, true, true, true, true, true, true, false] rfl rfl (any_of HT_.out (by kernel_rfl)) (fun _ _ _ h => h) (Or.inl ⟨by rfl, ?_⟩) ?_ ?_
                    rotate_left
                    ·intro w'
                     go_simp
                     with_reducible rfl
                    rotate_left
                    ·simp only [Act.put, List.setIfInBounds_toArray, List.set_cons_zero, List.set_cons_succ, i64_w, i32_w]
                     rfl
                    refine pure_ (i := 20) (N := some 10) (v := ?_) (a' := ?_) #[true, true, true, true, true, true, true, true, true, true, true, true, true, true, true, true, true, true, true, true, true] rfl rfl (any_of HT_.out (by kernel_rfl)) (fun _ _ _ h => h) (Or.inl ⟨by rfl, ?_⟩) ?_ ?_
                    rotate_left
                    ·intro w'
                     go_simp
                     with_reducible rfl
                    rotate_left
                    ·simp only [Act.put, List.setIfInBounds_toArray, List.set_cons_zero, List.set_cons_succ, i64_w, i32_w]
                     rfl
                    refine done_ (done_of HT_.out (by kernel_rfl)) ?_
                    try go_wp2_with (first | ((with_reducible refine gate_builtin (b := .append) (xs := #[.tmp 56, .tmp 58]) rfl ?_); at_builtin; refine Kd.R_append Kd.string (w0 := w) w.heap.size rfl (.tmp 56) (.tmp 58) 23 9 (.string ⟨#[]⟩) 16 rfl Tryd.underlying23 info9 rfl (by decide) (by omega) u6 x6_2 (((((t149 ++ t150) ++ t151) ++ text_) ++ (strOfNums y152)) ++ t155) [.string (((((t149 ++ t150) ++ t151) ++ text_) ++ (strOfNums y152)) ++ t155)] (fun _ => True) (fun _ => False) rfl rfl ?aP (fun _ hk => hk.elim) ?aF ?aO ?aB ?aS ?aL ?_; (case aP => exact rfl); (case aB => exact (by repeat (first | (with_reducible first | exact HB.out | apply below_alloc | apply pw_below_drewN | apply below_drew1) | exact HB.out))); (case aF => exact (fun _ _ => trivial)); (case aO => exact (by (with_reducible repeat (first | apply Kd.R_alloc | apply Kd.R_drewN | apply Kd.R_drew)); exact HO_6.out)); (case aS => exact (below_size (by repeat (first | (with_reducible first | exact HB.out | apply below_alloc | apply pw_below_drewN | apply below_drew1) | exact HB.out)))); (case aL => have := LMc27.out; omega); intro v157 w38 ho hb hg hat; rw [← Ny156.out] at ho; have n0_ := Aside0.mk (Kd.R_over' (by (with_reducible repeat (first | apply Kd.R_alloc | apply Kd.R_drewN | apply Kd.R_drew)); exact HO154.out) (Kd.R_typed (by (with_reducible repeat (first | apply Kd.R_alloc | apply Kd.R_drewN | apply Kd.R_drew)); exact HO_6.out)) (by decide) hg); have n1_ := Aside0.mk (hb); have n2_ := Aside0.mk (ho); clear HO154; clear HB; clear HO_6; have HO154 := n0_; have HB := n1_; have HO158 := n2_; clear n0_ n1_ n2_; clear ho hb hg hat))
                    go_roundg k2
                    case measure => have := HJ2.out; have := HK2.out; omega
                    case rel => exact ⟨(y156), (wrap64 (x7_2 + 1)), (by first | rfl | (simp; done) | (simp [*]; done)), H', ⟨by have := HJ2.out; have := HK2.out; omega⟩, ⟨by (with_reducible repeat (first | apply Kd.R_alloc | apply Kd.R_drewN | apply Kd.R_drew)); exact HO158.out⟩, ⟨by repeat (first | (with_reducible first | exact HB.out | apply below_alloc | apply pw_below_drewN | apply below_drew1) | exact HB.out)⟩⟩
                   ·rw [if_neg c27] at H
                    exact absurd H (by simp)
                  ·rw [if_neg c26] at H
                   exact absurd H (by simp)
                 ·rw [if_neg c24] at H
                  exact absurd H (by simp)
                ·rw [if_neg c23] at H
                 exact absurd H (by simp)
               ·rw [if_neg c22] at H
                exact absurd H (by simp)
              ·rw [if_neg c20] at H
               exact absurd H (by simp)
             ·rw [if_neg c19] at H
              exact absurd H (by simp)
            ·rw [if_neg c17] at H
             exact absurd H (by simp)
           ·rw [if_neg c14] at H
            exact absurd H (by simp)
          ·rw [if_neg c13] at H
           exact absurd H (by simp)
         ·rw [if_neg c11] at H
          exact absurd H (by simp)
        ·rw [if_neg c10] at H
         exact absurd H (by simp)
       ·rw [if_neg c8] at H
        have c8b0 : decide (x7_2 < t148) = false := decide_eq_false c8
        clear c8
        simp only [Option.some.injEq, Prod.mk.injEq] at H
        obtain ⟨rfl, rfl⟩ := H
        go_wp2_with (first | ((with_reducible refine gate_callee (f := 15) rfl ?_); refine goesL_ (some 23) rfl rfl Tryd.func15 (by kernel_rfl) rfl #[.int .i64 (a1.size : Int)] rfl (by (try simp only [List.map_toArray, List.map_cons, List.map_nil]); first | done | rfl | (simp only [List.length_drop, List.length_take]; rfl)) ?_; (with_reducible refine (custodyref24_Count.calls (a1.size : Int) t148 _ A7.out).mono ?_); rintro e w39 ⟨rfl, hb⟩; refine ⟨_, rfl, ?_⟩; have n0_ := Aside0.mk (Kd.R_below (by (with_reducible repeat (first | apply Kd.R_alloc | apply Kd.R_drewN | apply Kd.R_drew)); exact HO_6.out) hb); have n1_ := Aside0.mk (below_step (by repeat (first | (with_reducible first | exact HB.out | apply below_alloc | apply pw_below_drewN | apply below_drew1) | exact HB.out)) hb); clear HO_6; clear HB; have HO_6 := n0_; have HB := n1_; clear n0_ n1_; (try clear hb); (try clear hb2); (try clear hk); (try clear hi)))
        go_ret2
        exact ⟨_, by first | rfl | (simp [errW_none, errW_some] <;> rfl) | (simp [*, errW_none, errW_some] <;> rfl), by (with_reducible repeat (first | apply Kd.R_alloc | apply Kd.R_drewN | apply Kd.R_drew)); exact HO_6.out, by repeat (first | (with_reducible first | exact HB.out | apply below_alloc | apply pw_below_drewN | apply below_drew1) | exact HB.out)⟩

end Go.Proofs.YtfdhnpdppkcdeaaDoor.P
