/- custodylaw14.PermSourcesAreTargets, walked call by call. -/
import Derived.Test.YthldfkjnjcagjaaDoorHandSanity
import Derived.Test.YthldfkjnjcagjaaDoorPx12
import Derived.Test.YthldfkjnjcagjaaDoorPx14
import Derived.Test.YthldfkjnjcagjaaDoorPx15
import Derived.Test.YthldfkjnjcagjaaDoorPx18
import Derived.Test.YthldfkjnjcagjaaDoorPx16
import Derived.Test.YthldfkjnjcagjaaDoorPx21
import Derived.Test.YthldfkjnjcagjaaDoorPx22
import Derived.Test.YthldfkjnjcagjaaDoorPx23
import Derived.Test.YthldfkjnjcagjaaDoorPx24
import Derived.Test.YthldfkjnjcagjaaDoorPx26
import Derived.Test.YthldfkjnjcagjaaDoorPx28
namespace Go.Proofs.YthldfkjnjcagjaaDoor.P
open Go.RowKit Go.Shelf Go.Lib Go.Proofs.YthldfkjnjcagjaaDoorW.PrintWords Go.Proofs.YthldfkjnjcagjaaDoorW.PrintMore Go.Proofs.YthldfkjnjcagjaaDoorW.PrintLast

theorem strict_rd {l : List Int} {j : Nat} (h : l.Pairwise (· < ·)) (h2 : j + 1 < l.length) : rd l (j : Int) < rd l ((j + 1 : Nat) : Int) := by
  unfold rd
  rw [Int.toNat_natCast, Int.toNat_natCast, List.getD_eq_getElem?_getD, List.getD_eq_getElem?_getD, List.getElem?_eq_getElem h2, List.getElem?_eq_getElem (by omega : j < l.length)]
  exact List.pairwise_iff_getElem.1 h j (j + 1) (by omega) h2 (by omega)
set_option maxRecDepth 100000 in
set_option maxHeartbeats 8000000 in
theorem sourcesLaw_calls (k : Nat) (a0 : ByteArray) (A1 : Option Addr) (c1 : Nat) (l1 : List S59) (A2 : Option Addr) (c2 : Nat) (l2 : List S55) (A3 : Option Addr) (c3 : Nat) (l3 : List S33) (n0 n1 n2 : Int) (w : World) (hP : Pol w A1 c1 l1 A2 c2 l2 A3 c3 l3) (few : Bool) (hF : custodyref14_Few.f k a0 l1 l2 l3 = some few)
    (h : few = true → ∃ ls lt bm, perm_Sources.f a0 l1 l2 l3 n0 n2 = some ls ∧ perm_Targets.f a0 l1 l2 l3 n0 n1 = some lt ∧ ls.length ≤ 1000 ∧ lt.length ≤ 1000 ∧ Aside0 (ls.Pairwise (· < ·)) ∧ Aside0 (lt.Pairwise (· < ·)) ∧ perm_May.f k a0 l1 l2 l3 n0 n1 n2 = some bm ∧ custodyref14_Holds.f k ls n1 = some bm ∧ custodyref14_Holds.f k lt n2 = some bm) :
    Calls Tryd.prog 6 #[.agg #[.string a0, .slice A1 l1.length c1, .slice A2 l2.length c2, .slice A3 l3.length c3], .agg #[.int .i64 n0, .int .i64 n1, .int .i64 n2]] w fun e w' => e = .returned (.bool true) ∧ Below w.heap.size w w' := by
  have HP := Aside0.mk ((hP.below (below_new w (.cells #[.string a0, .slice A1 l1.length c1, .slice A2 l2.length c2, .slice A3 l3.length c3] 26 (0, 0)))).below (below_new _ (.cells #[.int .i64 n0, .int .i64 n1, .int .i64 n2] 27 (0, 0))))
  have HX := Aside0.mk ((Boxed.new w #[.string a0, .slice A1 l1.length c1, .slice A2 l2.length c2, .slice A3 l3.length c3] 26).below (below_new _ (.cells #[.int .i64 n0, .int .i64 n1, .int .i64 n2] 27 (0, 0))))
  have HN := Boxed.new (w.alloc (.cells #[.string a0, .slice A1 l1.length c1, .slice A2 l2.length c2, .slice A3 l3.length c3] 26 (0, 0))) #[.int .i64 n0, .int .i64 n1, .int .i64 n2] 27
  rw [(one_block w (.cells #[.string a0, .slice A1 l1.length c1, .slice A2 l2.length c2, .slice A3 l3.length c3] 26 (0, 0))).1] at HN
  have HN := Aside0.mk HN
  have HB := Aside0.mk ((below_new w (.cells #[.string a0, .slice A1 l1.length c1, .slice A2 l2.length c2, .slice A3 l3.length c3] 26 (0, 0))).trans ((below_new _ (.cells #[.int .i64 n0, .int .i64 n1, .int .i64 n2] 27 (0, 0))).mono (below_new w (.cells #[.string a0, .slice A1 l1.length c1, .slice A2 l2.length c2, .slice A3 l3.length c3] 26 (0, 0))).size))
  clear hP
  go_enter Tryd.func6, Tryd.ntmps6
  go_wp2_with fail
  generalize (w.alloc (.cells #[.string a0, .slice A1 l1.length c1, .slice A2 l2.length c2, .slice A3 l3.length c3] 26 (0, 0))).alloc (.cells #[.int .i64 n0, .int .i64 n1, .int .i64 n2] 27 (0, 0)) = W0 at HP HX HN HB ⊢
  generalize hbn : w.heap.size + 1 = bn at HN ⊢
  clear hbn
  refine (custodylaw14_sanity.calls _ HP.out.hG).mono ?_
  rintro e w1 ⟨rfl, hb⟩
  have nHP := Aside0.mk (HP.out.below hb)
  have nHX := Aside0.mk (HX.out.below hb)
  have nHN := Aside0.mk (HN.out.below hb)
  have nHB := Aside0.mk (HB.out.trans (hb.mono HB.out.size))
  clear HP HX HN HB hb
  have HP := nHP
  have HX := nHX
  have HN := nHN
  have HB := nHB
  clear nHP nHX nHN nHB
  have x0 := HX.out.cell 0 rfl
  have x1 := HX.out.cell 1 rfl
  have x2 := HX.out.cell 2 rfl
  have x3 := HX.out.cell 3 rfl
  go_wp2_with fail
  clear x0 x1 x2 x3
  refine (custodyref14_Few.calls k _ _ _ _ _ _ _ _ _ _ few _ HP.out.h1 HP.out.g1 HP.out.h2 HP.out.g2 HP.out.h3 HP.out.g3 hF).mono ?_
  rintro e w2 ⟨rfl, hb⟩
  have nHP := Aside0.mk (HP.out.below hb)
  have nHX := Aside0.mk (HX.out.below hb)
  have nHN := Aside0.mk (HN.out.below hb)
  have nHB := Aside0.mk (HB.out.trans (hb.mono HB.out.size))
  clear HP HX HN HB hb
  have HP := nHP
  have HX := nHX
  have HN := nHN
  have HB := nHB
  clear nHP nHX nHN nHB
  cases few with
  | false =>
    go_wp2
    go_ret
    exact ⟨rfl, HB.out⟩
  | true =>
    obtain ⟨ls, lt, bm, hs, ht, hls, hlt, HPs, HPt, hm, hh1, hh2⟩ := h rfl
    clear h
    have x0 := HX.out.cell 0 rfl
    have x1 := HX.out.cell 1 rfl
    have x2 := HX.out.cell 2 rfl
    have x3 := HX.out.cell 3 rfl
    have z0 := HN.out.cell 0 rfl
    have z1 := HN.out.cell 1 rfl
    have z2 := HN.out.cell 2 rfl
    go_wp2_with fail
    clear x0 x1 x2 x3 z0 z1 z2
    refine (perm_Sources.calls _ _ _ _ _ _ _ _ _ _ n0 n2 ls _ HP.out.h1 HP.out.g1 HP.out.h2 HP.out.g2 HP.out.h3 HP.out.g3 hs).mono ?_
    rintro e w3 ⟨v5, rfl, hR, hb⟩
    obtain ⟨A5, c5, rfl, g5, C5⟩ := Kd.R_reads hR
    clear hR
    have nHP := Aside0.mk (HP.out.below hb)
    have nHX := Aside0.mk (HX.out.below hb)
    have nHN := Aside0.mk (HN.out.below hb)
    have nHB := Aside0.mk (HB.out.trans (hb.mono HB.out.size))
    clear HP HX HN HB hb
    have HP := nHP
    have HX := nHX
    have HN := nHN
    have HB := nHB
    clear nHP nHX nHN nHB
    have HL5 := Aside0.mk (And.intro C5 g5)
    clear C5 g5
    have x0 := HX.out.cell 0 rfl
    have x1 := HX.out.cell 1 rfl
    have x2 := HX.out.cell 2 rfl
    have x3 := HX.out.cell 3 rfl
    have z0 := HN.out.cell 0 rfl
    have z1 := HN.out.cell 1 rfl
    have z2 := HN.out.cell 2 rfl
    go_wp2_with fail
    clear x0 x1 x2 x3 z0 z1 z2
    refine (perm_Targets.calls _ _ _ _ _ _ _ _ _ _ n0 n1 lt _ HP.out.h1 HP.out.g1 HP.out.h2 HP.out.g2 HP.out.h3 HP.out.g3 ht).mono ?_
    rintro e w4 ⟨v6, rfl, hR, hb⟩
    obtain ⟨A6, c6, rfl, g6, C6⟩ := Kd.R_reads hR
    clear hR
    have nHP := Aside0.mk (HP.out.below hb)
    have nHX := Aside0.mk (HX.out.below hb)
    have nHN := Aside0.mk (HN.out.below hb)
    have nHB := Aside0.mk (HB.out.trans (hb.mono HB.out.size))
    have nHL5 := Aside0.mk (And.intro (Kd.C_below HL5.out.1 hb) HL5.out.2)
    clear HP HX HN HB HL5 hb
    have HP := nHP
    have HX := nHX
    have HN := nHN
    have HB := nHB
    have HL5 := nHL5
    clear nHP nHX nHN nHB nHL5
    have HL6 := Aside0.mk (And.intro C6 g6)
    clear C6 g6
    go_wp2_with fail
    go_loopg [8] ls.length (fun gg s8 w' => ∃ i : Nat, s8 = .int .i64 (i : Int) ∧ Aside0 (1 ≤ i) ∧ Aside0 (ls.length - i ≤ gg) ∧ Drawn0 w4 w')
    case atStart => exact ⟨1, rfl, ⟨by omega⟩, ⟨by omega⟩, Drawn0.refl _⟩
    case round =>
      obtain ⟨i, rfl, HI, HG, ⟨m1, rfl⟩⟩ := hrel
      by_cases hlt : i < ls.length
      · obtain ⟨j, HJ⟩ : ∃ j, Aside0 (i = j + 1) := ⟨i - 1, ⟨by have := HI.out; omega⟩⟩
        have hj := HJ.out
        have p1 : 0 ≤ (i : Int) := by omega
        have q1 : (i : Int) < (ls.length : Int) := by omega
        have p0 : 0 ≤ (j : Int) := by omega
        have q0 : (j : Int) < (ls.length : Int) := by omega
        have hinc := strict_rd HPs.out (hj ▸ hlt)
        rw [← hj] at hinc
        obtain ⟨adA, eA, hxA⟩ := Kd.at_int HL5.out.1 (i : Int) p1 q1
        cases eA
        obtain ⟨adB, eB, hxB⟩ := Kd.at_int HL5.out.1 (j : Int) p0 q0
        cases eB
        rw [Int.toNat_natCast] at hxA hxB
        have d1 : decide (rd ls (j : Int) ≥ rd ls (i : Int)) = false := decide_eq_false (by omega)
        have HNX := Aside0.mk (show IntKind.i64.wrap ((i : Int) + 1) = ((i + 1 : Nat) : Int) by rw [IntKind.wrap_i64]; omega)
        have HWR : IntKind.i64.wrap ((i : Int) - 1) = (j : Int) := by rw [IntKind.wrap_i64]; omega
        clear hinc hj
        go_wp2
        go_quiet (fail)
        clear HWR
        go_wp2
        go_roundg (ls.length - (i + 1))
        case measure => have := HG.out; omega
        case rel => exact ⟨i + 1, by first | (rw [← HNX.out]; rfl) | go_num, ⟨by omega⟩, ⟨by omega⟩, by repeat (first | exact Drawn0.refl _ | apply Drawn0.step)⟩
      · have hge : ¬ (i : Int) < (ls.length : Int) := by omega
        have hb : Below w4.heap.size w4 (w4.drewN m1) := by apply pw_below_drewN; exact Below.refl _ _
        clear hlt HG HI
        have nHP := Aside0.mk (HP.out.below hb)
        have nHX := Aside0.mk (HX.out.below hb)
        have nHN := Aside0.mk (HN.out.below hb)
        have nHB := Aside0.mk (HB.out.trans (hb.mono HB.out.size))
        have nHL5 := Aside0.mk (And.intro (Kd.C_below HL5.out.1 hb) HL5.out.2)
        have nHL6 := Aside0.mk (And.intro (Kd.C_below HL6.out.1 hb) HL6.out.2)
        clear HP HX HN HB HL5 HL6 hb
        have HP := nHP
        have HX := nHX
        have HN := nHN
        have HB := nHB
        have HL5 := nHL5
        have HL6 := nHL6
        clear nHP nHX nHN nHB nHL5 nHL6
        generalize w4.drewN m1 = v8 at HP HX HN HB HL5 HL6 ⊢
        go_wp2_with fail
        clear hge
        clear HPs
        go_loopg [9] lt.length (fun gg s8 w' => ∃ i : Nat, s8 = .int .i64 (i : Int) ∧ Aside0 (1 ≤ i) ∧ Aside0 (lt.length - i ≤ gg) ∧ Drawn0 v8 w')
        case atStart => exact ⟨1, rfl, ⟨by omega⟩, ⟨by omega⟩, Drawn0.refl _⟩
        case round =>
          obtain ⟨i, rfl, HI, HG, ⟨m1, rfl⟩⟩ := hrel
          by_cases hlt : i < lt.length
          · obtain ⟨j, HJ⟩ : ∃ j, Aside0 (i = j + 1) := ⟨i - 1, ⟨by have := HI.out; omega⟩⟩
            have hj := HJ.out
            have p1 : 0 ≤ (i : Int) := by omega
            have q1 : (i : Int) < (lt.length : Int) := by omega
            have p0 : 0 ≤ (j : Int) := by omega
            have q0 : (j : Int) < (lt.length : Int) := by omega
            have hinc := strict_rd HPt.out (hj ▸ hlt)
            rw [← hj] at hinc
            obtain ⟨adA, eA, hxA⟩ := Kd.at_int HL6.out.1 (i : Int) p1 q1
            cases eA
            obtain ⟨adB, eB, hxB⟩ := Kd.at_int HL6.out.1 (j : Int) p0 q0
            cases eB
            rw [Int.toNat_natCast] at hxA hxB
            have d1 : decide (rd lt (j : Int) ≥ rd lt (i : Int)) = false := decide_eq_false (by omega)
            have HNX := Aside0.mk (show IntKind.i64.wrap ((i : Int) + 1) = ((i + 1 : Nat) : Int) by rw [IntKind.wrap_i64]; omega)
            have HWR : IntKind.i64.wrap ((i : Int) - 1) = (j : Int) := by rw [IntKind.wrap_i64]; omega
            clear hinc hj
            go_wp2
            go_quiet (fail)
            clear HWR
            go_wp2
            go_roundg (lt.length - (i + 1))
            case measure => have := HG.out; omega
            case rel => exact ⟨i + 1, by first | (rw [← HNX.out]; rfl) | go_num, ⟨by omega⟩, ⟨by omega⟩, by repeat (first | exact Drawn0.refl _ | apply Drawn0.step)⟩
          · have hge : ¬ (i : Int) < (lt.length : Int) := by omega
            have hb : Below v8.heap.size v8 (v8.drewN m1) := by apply pw_below_drewN; exact Below.refl _ _
            clear hlt HG HI
            have nHP := Aside0.mk (HP.out.below hb)
            have nHX := Aside0.mk (HX.out.below hb)
            have nHN := Aside0.mk (HN.out.below hb)
            have nHB := Aside0.mk (HB.out.trans (hb.mono HB.out.size))
            have nHL5 := Aside0.mk (And.intro (Kd.C_below HL5.out.1 hb) HL5.out.2)
            have nHL6 := Aside0.mk (And.intro (Kd.C_below HL6.out.1 hb) HL6.out.2)
            clear HP HX HN HB HL5 HL6 hb
            have HP := nHP
            have HX := nHX
            have HN := nHN
            have HB := nHB
            have HL5 := nHL5
            have HL6 := nHL6
            clear nHP nHX nHN nHB nHL5 nHL6
            generalize v8.drewN m1 = v9 at HP HX HN HB HL5 HL6 ⊢
            clear HPt
            have x0 := HX.out.cell 0 rfl
            have x1 := HX.out.cell 1 rfl
            have x2 := HX.out.cell 2 rfl
            have x3 := HX.out.cell 3 rfl
            have z0 := HN.out.cell 0 rfl
            have z1 := HN.out.cell 1 rfl
            have z2 := HN.out.cell 2 rfl
            go_wp2_with fail
            clear x0 x1 x2 x3 z0 z1 z2
            clear hge
            refine (perm_May.calls k _ _ _ _ _ _ _ _ _ _ n0 n1 n2 bm _ HP.out.h1 HP.out.g1 HP.out.h2 HP.out.g2 HP.out.h3 HP.out.g3 hm).mono ?_
            rintro e w5 ⟨rfl, hb⟩
            have nHP := Aside0.mk (HP.out.below hb)
            have nHX := Aside0.mk (HX.out.below hb)
            have nHN := Aside0.mk (HN.out.below hb)
            have nHB := Aside0.mk (HB.out.trans (hb.mono HB.out.size))
            have nHL5 := Aside0.mk (And.intro (Kd.C_below HL5.out.1 hb) HL5.out.2)
            have nHL6 := Aside0.mk (And.intro (Kd.C_below HL6.out.1 hb) HL6.out.2)
            clear HP HX HN HB HL5 HL6 hb
            have HP := nHP
            have HX := nHX
            have HN := nHN
            have HB := nHB
            have HL5 := nHL5
            have HL6 := nHL6
            clear nHP nHX nHN nHB nHL5 nHL6
            have z0 := HN.out.cell 0 rfl
            have z1 := HN.out.cell 1 rfl
            have z2 := HN.out.cell 2 rfl
            go_wp2_with fail
            clear z0 z1 z2
            refine (custodyref14_Holds.calls k _ _ ls n1 bm _ HL5.out.1 HL5.out.2 hh1).mono ?_
            rintro e w6 ⟨rfl, hb⟩
            have nHP := Aside0.mk (HP.out.below hb.below)
            have nHX := Aside0.mk (HX.out.below hb.below)
            have nHN := Aside0.mk (HN.out.below hb.below)
            have nHB := Aside0.mk (HB.out.trans (hb.below.mono HB.out.size))
            have nHL5 := Aside0.mk (And.intro (Kd.C_below HL5.out.1 hb.below) HL5.out.2)
            have nHL6 := Aside0.mk (And.intro (Kd.C_below HL6.out.1 hb.below) HL6.out.2)
            clear HP HX HN HB HL5 HL6 hb
            have HP := nHP
            have HX := nHX
            have HN := nHN
            have HB := nHB
            have HL5 := nHL5
            have HL6 := nHL6
            clear nHP nHX nHN nHB nHL5 nHL6
            have z0 := HN.out.cell 0 rfl
            have z1 := HN.out.cell 1 rfl
            have z2 := HN.out.cell 2 rfl
            go_wp2_with fail
            clear z0 z1 z2
            refine (custodyref14_Holds.calls k _ _ lt n2 bm _ HL6.out.1 HL6.out.2 hh2).mono ?_
            rintro e w7 ⟨rfl, hb⟩
            have nHP := Aside0.mk (HP.out.below hb.below)
            have nHX := Aside0.mk (HX.out.below hb.below)
            have nHN := Aside0.mk (HN.out.below hb.below)
            have nHB := Aside0.mk (HB.out.trans (hb.below.mono HB.out.size))
            have nHL5 := Aside0.mk (And.intro (Kd.C_below HL5.out.1 hb.below) HL5.out.2)
            have nHL6 := Aside0.mk (And.intro (Kd.C_below HL6.out.1 hb.below) HL6.out.2)
            clear HP HX HN HB HL5 HL6 hb
            have HP := nHP
            have HX := nHX
            have HN := nHN
            have HB := nHB
            have HL5 := nHL5
            have HL6 := nHL6
            clear nHP nHX nHN nHB nHL5 nHL6
            go_wp2
            repeat (go_quiet (fail); try go_wp2)
            go_ret
            exact ⟨by simp, by first | exact HB.out | (apply pw_below_drewN; exact HB.out)⟩
end Go.Proofs.YthldfkjnjcagjaaDoor.P
