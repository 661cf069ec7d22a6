/- custodylaw14.PermTypesMatchSpec, walked call by call. -/
import Derived.Test.YthldfkjnjcagjaaDoorHandSanity
import Derived.Test.YthldfkjnjcagjaaDoorPx12
import Derived.Test.YthldfkjnjcagjaaDoorPx14
import Derived.Test.YthldfkjnjcagjaaDoorPx15
import Derived.Test.YthldfkjnjcagjaaDoorPx18
import Derived.Test.YthldfkjnjcagjaaDoorPx16
import Derived.Test.YthldfkjnjcagjaaDoorPx21
import Derived.Test.YthldfkjnjcagjaaDoorPx22
import Derived.Test.YthldfkjnjcagjaaDoorPx23
import Derived.Test.YthldfkjnjcagjaaDoorPx24
import Derived.Test.YthldfkjnjcagjaaDoorPx26
import Derived.Test.YthldfkjnjcagjaaDoorPx28
namespace Go.Proofs.YthldfkjnjcagjaaDoor.P
open Go.RowKit Go.Shelf Go.Lib Go.Proofs.YthldfkjnjcagjaaDoorW.PrintWords Go.Proofs.YthldfkjnjcagjaaDoorW.PrintMore Go.Proofs.YthldfkjnjcagjaaDoorW.PrintLast

theorem cell_keep {W W' : World} {a : Addr} {v : Value} (h : W.cell? a = some v) (hb : Below W.heap.size W W') : W'.cell? a = some v := (hb.cell (p := a) (World.block_lt_of_cell? W a h)).trans h
theorem ts17 {v W W' : World} {a0 a1 a2 a3 a4 a5 a6 a7 a8 a9 a10 a11 a12 a13 a14 a15 a16 : Addr} {u0 u1 u2 u3 u4 u5 u6 u7 u8 u9 u10 u11 u12 u13 u14 u15 u16 : Value} (h : Below v.heap.size v W ∧ W.cell? a0 = some u0 ∧ W.cell? a1 = some u1 ∧ W.cell? a2 = some u2 ∧ W.cell? a3 = some u3 ∧ W.cell? a4 = some u4 ∧ W.cell? a5 = some u5 ∧ W.cell? a6 = some u6 ∧ W.cell? a7 = some u7 ∧ W.cell? a8 = some u8 ∧ W.cell? a9 = some u9 ∧ W.cell? a10 = some u10 ∧ W.cell? a11 = some u11 ∧ W.cell? a12 = some u12 ∧ W.cell? a13 = some u13 ∧ W.cell? a14 = some u14 ∧ W.cell? a15 = some u15 ∧ W.cell? a16 = some u16) (hb : Below W.heap.size W W') : Below v.heap.size v W' ∧ W'.cell? a0 = some u0 ∧ W'.cell? a1 = some u1 ∧ W'.cell? a2 = some u2 ∧ W'.cell? a3 = some u3 ∧ W'.cell? a4 = some u4 ∧ W'.cell? a5 = some u5 ∧ W'.cell? a6 = some u6 ∧ W'.cell? a7 = some u7 ∧ W'.cell? a8 = some u8 ∧ W'.cell? a9 = some u9 ∧ W'.cell? a10 = some u10 ∧ W'.cell? a11 = some u11 ∧ W'.cell? a12 = some u12 ∧ W'.cell? a13 = some u13 ∧ W'.cell? a14 = some u14 ∧ W'.cell? a15 = some u15 ∧ W'.cell? a16 = some u16 :=
  ⟨h.1.trans (hb.mono h.1.size), cell_keep h.2.1 hb, cell_keep h.2.2.1 hb, cell_keep h.2.2.2.1 hb, cell_keep h.2.2.2.2.1 hb, cell_keep h.2.2.2.2.2.1 hb, cell_keep h.2.2.2.2.2.2.1 hb, cell_keep h.2.2.2.2.2.2.2.1 hb, cell_keep h.2.2.2.2.2.2.2.2.1 hb, cell_keep h.2.2.2.2.2.2.2.2.2.1 hb, cell_keep h.2.2.2.2.2.2.2.2.2.2.1 hb, cell_keep h.2.2.2.2.2.2.2.2.2.2.2.1 hb, cell_keep h.2.2.2.2.2.2.2.2.2.2.2.2.1 hb, cell_keep h.2.2.2.2.2.2.2.2.2.2.2.2.2.1 hb, cell_keep h.2.2.2.2.2.2.2.2.2.2.2.2.2.2.1 hb, cell_keep h.2.2.2.2.2.2.2.2.2.2.2.2.2.2.2.1 hb, cell_keep h.2.2.2.2.2.2.2.2.2.2.2.2.2.2.2.2.1 hb, cell_keep h.2.2.2.2.2.2.2.2.2.2.2.2.2.2.2.2.2 hb⟩
set_option maxRecDepth 100000 in
set_option maxHeartbeats 8000000 in
theorem typesLaw_calls (k : Nat) (a0 : ByteArray) (A1 : Option Addr) (c1 : Nat) (l1 : List S59) (A2 : Option Addr) (c2 : Nat) (l2 : List S55) (A3 : Option Addr) (c3 : Nat) (l3 : List S33) (name : ByteArray) (n0 n1 n2 : Int) (w : World) (hP : Pol w A1 c1 l1 A2 c2 l2 A3 c3 l3) (few : Bool) (hF : custodyref14_Few.f k a0 l1 l2 l3 = some few)
    (h : few = true → name.size ≤ 40 → ∃ t is q1 q2 q3 q4 q5 there b1 b2, perm_Type.f a0 l1 l2 l3 name = some (t, is) ∧ custodyref14_Type.f k a0 l1 l2 l3 name = some (t, is) ∧ perm_Quorum.f a0 l1 l2 l3 n0 = some (q1, q2, q3, q4, q5, there) ∧ custodyref14_Quorum.f k a0 l1 l2 l3 n0 = some (q1, q2, q3, q4, q5, there) ∧ perm_Has.f a0 l1 l2 l3 n1 n2 = some b1 ∧ custodyref14_Has.f a0 l1 l2 l3 n1 n2 = some b1 ∧ perm_Subset.f n1 n2 = some b2 ∧ custodyref14_Subset.f n1 n2 = some b2) :
    Calls Tryd.prog 3 #[.agg #[.string a0, .slice A1 l1.length c1, .slice A2 l2.length c2, .slice A3 l3.length c3], .string name, .agg #[.int .i64 n0, .int .i64 n1, .int .i64 n2]] w fun e w' => e = .returned (.bool true) ∧ Below w.heap.size w w' := by
  have HP := Aside0.mk ((hP.below (below_new w (.cells #[.string a0, .slice A1 l1.length c1, .slice A2 l2.length c2, .slice A3 l3.length c3] 26 (0, 0)))).below (below_new _ (.cells #[.int .i64 n0, .int .i64 n1, .int .i64 n2] 27 (0, 0))))
  have HX := Aside0.mk ((Boxed.new w #[.string a0, .slice A1 l1.length c1, .slice A2 l2.length c2, .slice A3 l3.length c3] 26).below (below_new _ (.cells #[.int .i64 n0, .int .i64 n1, .int .i64 n2] 27 (0, 0))))
  have HN := Boxed.new (w.alloc (.cells #[.string a0, .slice A1 l1.length c1, .slice A2 l2.length c2, .slice A3 l3.length c3] 26 (0, 0))) #[.int .i64 n0, .int .i64 n1, .int .i64 n2] 27
  rw [(one_block w (.cells #[.string a0, .slice A1 l1.length c1, .slice A2 l2.length c2, .slice A3 l3.length c3] 26 (0, 0))).1] at HN
  have HN := Aside0.mk HN
  have HB := Aside0.mk ((below_new w (.cells #[.string a0, .slice A1 l1.length c1, .slice A2 l2.length c2, .slice A3 l3.length c3] 26 (0, 0))).trans ((below_new _ (.cells #[.int .i64 n0, .int .i64 n1, .int .i64 n2] 27 (0, 0))).mono (below_new w (.cells #[.string a0, .slice A1 l1.length c1, .slice A2 l2.length c2, .slice A3 l3.length c3] 26 (0, 0))).size))
  clear hP
  go_enter Tryd.func3, Tryd.ntmps3
  go_wp2_with fail
  generalize (w.alloc (.cells #[.string a0, .slice A1 l1.length c1, .slice A2 l2.length c2, .slice A3 l3.length c3] 26 (0, 0))).alloc (.cells #[.int .i64 n0, .int .i64 n1, .int .i64 n2] 27 (0, 0)) = W0 at HP HX HN HB ⊢
  generalize hbn : w.heap.size + 1 = bn at HN ⊢
  clear hbn
  refine (custodylaw14_sanity.calls _ HP.out.hG).mono ?_
  rintro e w1 ⟨rfl, hb⟩
  have nHP := Aside0.mk (HP.out.below hb)
  have nHX := Aside0.mk (HX.out.below hb)
  have nHN := Aside0.mk (HN.out.below hb)
  have nHB := Aside0.mk (HB.out.trans (hb.mono HB.out.size))
  clear HP HX HN HB hb
  have HP := nHP
  have HX := nHX
  have HN := nHN
  have HB := nHB
  clear nHP nHX nHN nHB
  have x0 := HX.out.cell 0 rfl
  have x1 := HX.out.cell 1 rfl
  have x2 := HX.out.cell 2 rfl
  have x3 := HX.out.cell 3 rfl
  go_wp2_with fail
  clear x0 x1 x2 x3
  refine (custodyref14_Few.calls k _ _ _ _ _ _ _ _ _ _ few _ HP.out.h1 HP.out.g1 HP.out.h2 HP.out.g2 HP.out.h3 HP.out.g3 hF).mono ?_
  rintro e w2 ⟨rfl, hb⟩
  have nHP := Aside0.mk (HP.out.below hb)
  have nHX := Aside0.mk (HX.out.below hb)
  have nHN := Aside0.mk (HN.out.below hb)
  have nHB := Aside0.mk (HB.out.trans (hb.mono HB.out.size))
  clear HP HX HN HB hb
  have HP := nHP
  have HX := nHX
  have HN := nHN
  have HB := nHB
  clear nHP nHX nHN nHB
  have hF := hF
  cases few with
  | false =>
    go_wp2
    go_ret
    exact ⟨rfl, HB.out⟩
  | true =>
    by_cases hname : (name.size : Int) > 40
    · clear h
      go_wp2
      go_ret
      exact ⟨rfl, HB.out⟩
    · obtain ⟨t, is, q1, q2, q3, q4, q5, there, b1, b2, ht, hrt, hq, hrq, hh, hrh, hs, hrs⟩ := h rfl (by omega)
      clear h
      have x0 := HX.out.cell 0 rfl
      have x1 := HX.out.cell 1 rfl
      have x2 := HX.out.cell 2 rfl
      have x3 := HX.out.cell 3 rfl
      have z0 := HN.out.cell 0 rfl
      have z1 := HN.out.cell 1 rfl
      have z2 := HN.out.cell 2 rfl
      go_wp2_with fail
      clear x0 x1 x2 x3 z0 z1 z2
      refine (perm_Type.calls _ _ _ _ _ _ _ _ _ _ name t is _ HP.out.h1 HP.out.g1 HP.out.h2 HP.out.g2 HP.out.h3 HP.out.g3 ht).mono ?_
      rintro e w3 ⟨rfl, hb⟩
      have nHP := Aside0.mk (HP.out.below hb)
      have nHX := Aside0.mk (HX.out.below hb)
      have nHN := Aside0.mk (HN.out.below hb)
      have nHB := Aside0.mk (HB.out.trans (hb.mono HB.out.size))
      clear HP HX HN HB hb
      have HP := nHP
      have HX := nHX
      have HN := nHN
      have HB := nHB
      clear nHP nHX nHN nHB
      have x0 := HX.out.cell 0 rfl
      have x1 := HX.out.cell 1 rfl
      have x2 := HX.out.cell 2 rfl
      have x3 := HX.out.cell 3 rfl
      have z0 := HN.out.cell 0 rfl
      have z1 := HN.out.cell 1 rfl
      have z2 := HN.out.cell 2 rfl
      go_wp2_with fail
      clear x0 x1 x2 x3 z0 z1 z2
      refine (custodyref14_Type.calls k _ _ _ _ _ _ _ _ _ _ name t is _ HP.out.h1 HP.out.g1 HP.out.h2 HP.out.g2 HP.out.h3 HP.out.g3 hrt).mono ?_
      rintro e w4 ⟨rfl, hb⟩
      have nHP := Aside0.mk (HP.out.below hb)
      have nHX := Aside0.mk (HX.out.below hb)
      have nHN := Aside0.mk (HN.out.below hb)
      have nHB := Aside0.mk (HB.out.trans (hb.mono HB.out.size))
      clear HP HX HN HB hb
      have HP := nHP
      have HX := nHX
      have HN := nHN
      have HB := nHB
      clear nHP nHX nHN nHB
      have x0 := HX.out.cell 0 rfl
      have x1 := HX.out.cell 1 rfl
      have x2 := HX.out.cell 2 rfl
      have x3 := HX.out.cell 3 rfl
      have z0 := HN.out.cell 0 rfl
      have z1 := HN.out.cell 1 rfl
      have z2 := HN.out.cell 2 rfl
      go_wp2_with fail
      clear x0 x1 x2 x3 z0 z1 z2
      refine (perm_Quorum.calls _ _ _ _ _ _ _ _ _ _ n0 q1 q2 q3 q4 q5 there _ HP.out.h1 HP.out.g1 HP.out.h2 HP.out.g2 HP.out.h3 HP.out.g3 hq).mono ?_
      rintro e w5 ⟨rfl, hb⟩
      have nHP := Aside0.mk (HP.out.below hb)
      have nHX := Aside0.mk (HX.out.below hb)
      have nHN := Aside0.mk (HN.out.below hb)
      have nHB := Aside0.mk (HB.out.trans (hb.mono HB.out.size))
      clear HP HX HN HB hb
      have HP := nHP
      have HX := nHX
      have HN := nHN
      have HB := nHB
      clear nHP nHX nHN nHB
      have x0 := HX.out.cell 0 rfl
      have x1 := HX.out.cell 1 rfl
      have x2 := HX.out.cell 2 rfl
      have x3 := HX.out.cell 3 rfl
      have z0 := HN.out.cell 0 rfl
      have z1 := HN.out.cell 1 rfl
      have z2 := HN.out.cell 2 rfl
      have hbx := HX.out.1
      have hbn := HN.out.1
      go_wp2_with fail
      clear x0 x1 x2 x3 z0 z1 z2 hbx hbn
      have hb := below_new w5 (.cells #[.int .i64 q1, .int .i64 q2, .int .i64 q3, .int .i64 q4, .int .i64 q5] 33 (0, 0))
      have HQ := Aside0.mk (Boxed.new w5 #[.int .i64 q1, .int .i64 q2, .int .i64 q3, .int .i64 q4, .int .i64 q5] 33)
      have nHP := Aside0.mk (HP.out.below hb)
      have nHX := Aside0.mk (HX.out.below hb)
      have nHN := Aside0.mk (HN.out.below hb)
      have nHB := Aside0.mk (HB.out.trans (hb.mono HB.out.size))
      clear HP HX HN HB hb
      have HP := nHP
      have HX := nHX
      have HN := nHN
      have HB := nHB
      clear nHP nHX nHN nHB
      generalize w5.alloc (.cells #[.int .i64 q1, .int .i64 q2, .int .i64 q3, .int .i64 q4, .int .i64 q5] 33 (0, 0)) = v5 at HP HX HN HB HQ ⊢
      generalize w5.heap.size = bHQ at HQ ⊢
      refine (custodyref14_Quorum.calls k _ _ _ _ _ _ _ _ _ _ n0 q1 q2 q3 q4 q5 there _ HP.out.h1 HP.out.g1 HP.out.h2 HP.out.g2 HP.out.h3 HP.out.g3 hrq).mono ?_
      rintro e w6 ⟨rfl, hb⟩
      have nHP := Aside0.mk (HP.out.below hb)
      have nHX := Aside0.mk (HX.out.below hb)
      have nHN := Aside0.mk (HN.out.below hb)
      have nHB := Aside0.mk (HB.out.trans (hb.mono HB.out.size))
      have nHQ := Aside0.mk (HQ.out.below hb)
      clear HP HX HN HB HQ hb
      have HP := nHP
      have HX := nHX
      have HN := nHN
      have HB := nHB
      have HQ := nHQ
      clear nHP nHX nHN nHB nHQ
      have x0 := HX.out.cell 0 rfl
      have x1 := HX.out.cell 1 rfl
      have x2 := HX.out.cell 2 rfl
      have x3 := HX.out.cell 3 rfl
      have z0 := HN.out.cell 0 rfl
      have z1 := HN.out.cell 1 rfl
      have z2 := HN.out.cell 2 rfl
      have hbx := HX.out.1
      have hbn := HN.out.1
      have hbq := HQ.out.1
      have y0 := HQ.out.cell 0 rfl
      have y1 := HQ.out.cell 1 rfl
      have y2 := HQ.out.cell 2 rfl
      have y3 := HQ.out.cell 3 rfl
      have y4 := HQ.out.cell 4 rfl
      go_wp2_with fail
      clear x0 x1 x2 x3 z0 z1 z2 hbx hbn hbq y0 y1 y2 y3 y4
      have hb := below_new w6 (.cells #[.int .i64 q1, .int .i64 q2, .int .i64 q3, .int .i64 q4, .int .i64 q5] 33 (0, 0))
      have HR := Aside0.mk (Boxed.new w6 #[.int .i64 q1, .int .i64 q2, .int .i64 q3, .int .i64 q4, .int .i64 q5] 33)
      have nHP := Aside0.mk (HP.out.below hb)
      have nHX := Aside0.mk (HX.out.below hb)
      have nHN := Aside0.mk (HN.out.below hb)
      have nHB := Aside0.mk (HB.out.trans (hb.mono HB.out.size))
      have nHQ := Aside0.mk (HQ.out.below hb)
      clear HP HX HN HB HQ hb
      have HP := nHP
      have HX := nHX
      have HN := nHN
      have HB := nHB
      have HQ := nHQ
      clear nHP nHX nHN nHB nHQ
      generalize w6.alloc (.cells #[.int .i64 q1, .int .i64 q2, .int .i64 q3, .int .i64 q4, .int .i64 q5] 33 (0, 0)) = v6 at HP HX HN HB HQ HR ⊢
      generalize w6.heap.size = bHR at HR ⊢
      have hB0 : Below v6.heap.size v6 v6.drew := (Below.refl _ _).drew
      have x0 := HX.out.cell 0 rfl
      have x1 := HX.out.cell 1 rfl
      have x2 := HX.out.cell 2 rfl
      have x3 := HX.out.cell 3 rfl
      have z0 := HN.out.cell 0 rfl
      have z1 := HN.out.cell 1 rfl
      have z2 := HN.out.cell 2 rfl
      have y0 := HQ.out.cell 0 rfl
      have y1 := HQ.out.cell 1 rfl
      have y2 := HQ.out.cell 2 rfl
      have y3 := HQ.out.cell 3 rfl
      have y4 := HQ.out.cell 4 rfl
      have r0 := HR.out.cell 0 rfl
      have r1 := HR.out.cell 1 rfl
      have r2 := HR.out.cell 2 rfl
      have r3 := HR.out.cell 3 rfl
      have r4 := HR.out.cell 4 rfl
      go_region_held3 (fun W' => Below v6.heap.size v6 W' ∧ W'.cell? ⟨w.heap.size, 0, none⟩ = some (.string a0) ∧ W'.cell? ⟨w.heap.size, 1, none⟩ = some (.slice A1 l1.length c1) ∧ W'.cell? ⟨w.heap.size, 2, none⟩ = some (.slice A2 l2.length c2) ∧ W'.cell? ⟨w.heap.size, 3, none⟩ = some (.slice A3 l3.length c3) ∧ W'.cell? ⟨bn, 0, none⟩ = some (.int .i64 n0) ∧ W'.cell? ⟨bn, 1, none⟩ = some (.int .i64 n1) ∧ W'.cell? ⟨bn, 2, none⟩ = some (.int .i64 n2) ∧ W'.cell? ⟨bHQ, 0, none⟩ = some (.int .i64 q1) ∧ W'.cell? ⟨bHQ, 1, none⟩ = some (.int .i64 q2) ∧ W'.cell? ⟨bHQ, 2, none⟩ = some (.int .i64 q3) ∧ W'.cell? ⟨bHQ, 3, none⟩ = some (.int .i64 q4) ∧ W'.cell? ⟨bHQ, 4, none⟩ = some (.int .i64 q5) ∧ W'.cell? ⟨bHR, 0, none⟩ = some (.int .i64 q1) ∧ W'.cell? ⟨bHR, 1, none⟩ = some (.int .i64 q2) ∧ W'.cell? ⟨bHR, 2, none⟩ = some (.int .i64 q3) ∧ W'.cell? ⟨bHR, 3, none⟩ = some (.int .i64 q4) ∧ W'.cell? ⟨bHR, 4, none⟩ = some (.int .i64 q5)) (go_keep) (first | (go_at_call 15; have hS := ‹Below v6.heap.size v6 _ ∧ _›; refine (perm_Has.calls _ _ _ _ _ _ _ _ _ _ n1 n2 b1 _ (HP.out.below hS.1).h1 (HP.out.below hS.1).g1 (HP.out.below hS.1).h2 (HP.out.below hS.1).g2 (HP.out.below hS.1).h3 (HP.out.below hS.1).g3 hh).mono ?_; rintro e w9 ⟨rfl, hb⟩; have hS2 := ts17 hS hb; clear hS hb) | (go_at_call 16; have hS := ‹Below v6.heap.size v6 _ ∧ _›; refine (custodyref14_Has.calls _ _ _ _ _ _ _ _ _ _ n1 n2 b1 _ (HP.out.below hS.1).h1 (HP.out.below hS.1).g1 (HP.out.below hS.1).h2 (HP.out.below hS.1).g2 (HP.out.below hS.1).h3 (HP.out.below hS.1).g3 hrh).mono ?_; rintro e w9 ⟨rfl, hb⟩; have hS2 := ts17 hS hb; clear hS hb) | (go_at_call 17; have hS := ‹Below v6.heap.size v6 _ ∧ _›; refine (perm_Subset.calls n1 n2 b2 _ hs).mono ?_; rintro e w9 ⟨rfl, hb⟩; have hS2 := ts17 hS hb.below; clear hS hb) | (go_at_call 18; have hS := ‹Below v6.heap.size v6 _ ∧ _›; refine (custodyref14_Subset.calls n1 n2 b2 _ hrs).mono ?_; rintro e w9 ⟨rfl, hb⟩; have hS2 := ts17 hS hb.below; clear hS hb))
      have hS := ‹Below v6.heap.size v6 _ ∧ _›
      go_wp2
      go_ret
      exact ⟨by simp, HB.out.trans (hS.1.mono HB.out.size)⟩
end Go.Proofs.YthldfkjnjcagjaaDoor.P
