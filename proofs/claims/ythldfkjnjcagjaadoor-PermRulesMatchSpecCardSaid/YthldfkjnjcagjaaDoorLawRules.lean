/- custodylaw14.PermRulesMatchSpec, walked call by call. -/
import Derived.Test.YthldfkjnjcagjaaDoorHandSanity
import Derived.Test.YthldfkjnjcagjaaDoorPx12
import Derived.Test.YthldfkjnjcagjaaDoorPx14
import Derived.Test.YthldfkjnjcagjaaDoorPx15
import Derived.Test.YthldfkjnjcagjaaDoorPx18
import Derived.Test.YthldfkjnjcagjaaDoorPx16
import Derived.Test.YthldfkjnjcagjaaDoorPx21
import Derived.Test.YthldfkjnjcagjaaDoorPx22
import Derived.Test.YthldfkjnjcagjaaDoorPx23
import Derived.Test.YthldfkjnjcagjaaDoorPx24
import Derived.Test.YthldfkjnjcagjaaDoorPx26
import Derived.Test.YthldfkjnjcagjaaDoorPx28
namespace Go.Proofs.YthldfkjnjcagjaaDoor.P
open Go.RowKit Go.Shelf Go.Lib Go.Proofs.YthldfkjnjcagjaaDoorW.PrintWords Go.Proofs.YthldfkjnjcagjaaDoorW.PrintMore Go.Proofs.YthldfkjnjcagjaaDoorW.PrintLast

theorem cell_keep {W W' : World} {a : Addr} {v : Value} (h : W.cell? a = some v) (hb : Below W.heap.size W W') : W'.cell? a = some v := (hb.cell (p := a) (World.block_lt_of_cell? W a h)).trans h
theorem ts7 {v W W' : World} {a0 a1 a2 a3 a4 a5 a6 : Addr} {u0 u1 u2 u3 u4 u5 u6 : Value} (h : Below v.heap.size v W ∧ W.cell? a0 = some u0 ∧ W.cell? a1 = some u1 ∧ W.cell? a2 = some u2 ∧ W.cell? a3 = some u3 ∧ W.cell? a4 = some u4 ∧ W.cell? a5 = some u5 ∧ W.cell? a6 = some u6) (hb : Below W.heap.size W W') : Below v.heap.size v W' ∧ W'.cell? a0 = some u0 ∧ W'.cell? a1 = some u1 ∧ W'.cell? a2 = some u2 ∧ W'.cell? a3 = some u3 ∧ W'.cell? a4 = some u4 ∧ W'.cell? a5 = some u5 ∧ W'.cell? a6 = some u6 :=
  ⟨h.1.trans (hb.mono h.1.size), cell_keep h.2.1 hb, cell_keep h.2.2.1 hb, cell_keep h.2.2.2.1 hb, cell_keep h.2.2.2.2.1 hb, cell_keep h.2.2.2.2.2.1 hb, cell_keep h.2.2.2.2.2.2.1 hb, cell_keep h.2.2.2.2.2.2.2 hb⟩
set_option maxRecDepth 100000 in
set_option maxHeartbeats 8000000 in
theorem rulesLaw_calls (k : Nat) (a0 : ByteArray) (A1 : Option Addr) (c1 : Nat) (l1 : List S59) (A2 : Option Addr) (c2 : Nat) (l2 : List S55) (A3 : Option Addr) (c3 : Nat) (l3 : List S33) (n0 n1 n2 : Int) (w : World) (hP : Pol w A1 c1 l1 A2 c2 l2 A3 c3 l3) (few : Bool) (hF : custodyref14_Few.f k a0 l1 l2 l3 = some few)
    (h : few = true → ∃ ls lt bm us, perm_Sources.f a0 l1 l2 l3 n0 n1 = some ls ∧ custodyref14_Sources.f k a0 l1 l2 l3 n0 n1 = some ls ∧ custodyref14_Same.f k ls ls = some true ∧ perm_Targets.f a0 l1 l2 l3 n0 n1 = some lt ∧ custodyref14_Targets.f k a0 l1 l2 l3 n0 n1 = some lt ∧ custodyref14_Same.f k lt lt = some true ∧ perm_May.f k a0 l1 l2 l3 n0 n1 n2 = some bm ∧ custodyref14_May.f k a0 l1 l2 l3 n0 n1 n2 = some bm ∧ perm_Uses.f a0 l1 l2 l3 n1 = some us ∧ custodyref14_Uses.f k a0 l1 l2 l3 n1 = some us) :
    Calls Tryd.prog 4 #[.agg #[.string a0, .slice A1 l1.length c1, .slice A2 l2.length c2, .slice A3 l3.length c3], .agg #[.int .i64 n0, .int .i64 n1, .int .i64 n2]] w fun e w' => e = .returned (.bool true) ∧ Below w.heap.size w w' := by
  have HP := Aside0.mk ((hP.below (below_new w (.cells #[.string a0, .slice A1 l1.length c1, .slice A2 l2.length c2, .slice A3 l3.length c3] 26 (0, 0)))).below (below_new _ (.cells #[.int .i64 n0, .int .i64 n1, .int .i64 n2] 27 (0, 0))))
  have HX := Aside0.mk ((Boxed.new w #[.string a0, .slice A1 l1.length c1, .slice A2 l2.length c2, .slice A3 l3.length c3] 26).below (below_new _ (.cells #[.int .i64 n0, .int .i64 n1, .int .i64 n2] 27 (0, 0))))
  have HN := Boxed.new (w.alloc (.cells #[.string a0, .slice A1 l1.length c1, .slice A2 l2.length c2, .slice A3 l3.length c3] 26 (0, 0))) #[.int .i64 n0, .int .i64 n1, .int .i64 n2] 27
  rw [(one_block w (.cells #[.string a0, .slice A1 l1.length c1, .slice A2 l2.length c2, .slice A3 l3.length c3] 26 (0, 0))).1] at HN
  have HN := Aside0.mk HN
  have HB := Aside0.mk ((below_new w (.cells #[.string a0, .slice A1 l1.length c1, .slice A2 l2.length c2, .slice A3 l3.length c3] 26 (0, 0))).trans ((below_new _ (.cells #[.int .i64 n0, .int .i64 n1, .int .i64 n2] 27 (0, 0))).mono (below_new w (.cells #[.string a0, .slice A1 l1.length c1, .slice A2 l2.length c2, .slice A3 l3.length c3] 26 (0, 0))).size))
  clear hP
  go_enter Tryd.func4, Tryd.ntmps4
  go_wp2_with fail
  generalize (w.alloc (.cells #[.string a0, .slice A1 l1.length c1, .slice A2 l2.length c2, .slice A3 l3.length c3] 26 (0, 0))).alloc (.cells #[.int .i64 n0, .int .i64 n1, .int .i64 n2] 27 (0, 0)) = W0 at HP HX HN HB ⊢
  generalize hbn : w.heap.size + 1 = bn at HN ⊢
  clear hbn
  refine (custodylaw14_sanity.calls _ HP.out.hG).mono ?_
  rintro e w1 ⟨rfl, hb⟩
  have nHP := Aside0.mk (HP.out.below hb)
  have nHX := Aside0.mk (HX.out.below hb)
  have nHN := Aside0.mk (HN.out.below hb)
  have nHB := Aside0.mk (HB.out.trans (hb.mono HB.out.size))
  clear HP HX HN HB hb
  have HP := nHP
  have HX := nHX
  have HN := nHN
  have HB := nHB
  clear nHP nHX nHN nHB
  have x0 := HX.out.cell 0 rfl
  have x1 := HX.out.cell 1 rfl
  have x2 := HX.out.cell 2 rfl
  have x3 := HX.out.cell 3 rfl
  go_wp2_with fail
  clear x0 x1 x2 x3
  refine (custodyref14_Few.calls k _ _ _ _ _ _ _ _ _ _ few _ HP.out.h1 HP.out.g1 HP.out.h2 HP.out.g2 HP.out.h3 HP.out.g3 hF).mono ?_
  rintro e w2 ⟨rfl, hb⟩
  have nHP := Aside0.mk (HP.out.below hb)
  have nHX := Aside0.mk (HX.out.below hb)
  have nHN := Aside0.mk (HN.out.below hb)
  have nHB := Aside0.mk (HB.out.trans (hb.mono HB.out.size))
  clear HP HX HN HB hb
  have HP := nHP
  have HX := nHX
  have HN := nHN
  have HB := nHB
  clear nHP nHX nHN nHB
  cases few with
  | false =>
    go_wp2
    go_ret
    exact ⟨rfl, HB.out⟩
  | true =>
    obtain ⟨ls, lt, bm, us, hs, hrs, hss, ht, hrt, htt, hm, hrm, hu, hru⟩ := h rfl
    clear h
    have x0 := HX.out.cell 0 rfl
    have x1 := HX.out.cell 1 rfl
    have x2 := HX.out.cell 2 rfl
    have x3 := HX.out.cell 3 rfl
    have z0 := HN.out.cell 0 rfl
    have z1 := HN.out.cell 1 rfl
    have z2 := HN.out.cell 2 rfl
    go_wp2_with fail
    clear x0 x1 x2 x3 z0 z1 z2
    have hB0 : Below w2.heap.size w2 w2.drew := (Below.refl _ _).drew
    have x0 := HX.out.cell 0 rfl
    have x1 := HX.out.cell 1 rfl
    have x2 := HX.out.cell 2 rfl
    have x3 := HX.out.cell 3 rfl
    have z0 := HN.out.cell 0 rfl
    have z1 := HN.out.cell 1 rfl
    have z2 := HN.out.cell 2 rfl
    go_region_held3 (fun W' => Below w2.heap.size w2 W' ∧ W'.cell? ⟨w.heap.size, 0, none⟩ = some (.string a0) ∧ W'.cell? ⟨w.heap.size, 1, none⟩ = some (.slice A1 l1.length c1) ∧ W'.cell? ⟨w.heap.size, 2, none⟩ = some (.slice A2 l2.length c2) ∧ W'.cell? ⟨w.heap.size, 3, none⟩ = some (.slice A3 l3.length c3) ∧ W'.cell? ⟨bn, 0, none⟩ = some (.int .i64 n0) ∧ W'.cell? ⟨bn, 1, none⟩ = some (.int .i64 n1) ∧ W'.cell? ⟨bn, 2, none⟩ = some (.int .i64 n2)) (go_keep) (first | (go_at_call 20; have hS := ‹Below w2.heap.size w2 _ ∧ _›; refine (perm_Sources.calls _ _ _ _ _ _ _ _ _ _ n0 n1 ls _ (HP.out.below hS.1).h1 (HP.out.below hS.1).g1 (HP.out.below hS.1).h2 (HP.out.below hS.1).g2 (HP.out.below hS.1).h3 (HP.out.below hS.1).g3 hs).mono ?_; rintro e w9 ⟨v9, rfl, hR, hb⟩; obtain ⟨A9, c9, rfl, g9, C9⟩ := Kd.R_reads hR; clear hR; have HA := Aside0.mk (And.intro C9 g9); clear C9 g9; (first | (have nHC := Aside0.mk (And.intro (Kd.C_below HC.out.1 hb) HC.out.2); clear HC; have HC := nHC; clear nHC) | skip); have hS2 := ts7 hS hb; clear hS hb) | (go_at_call 21; have hS := ‹Below w2.heap.size w2 _ ∧ _›; refine (custodyref14_Sources.calls k _ _ _ _ _ _ _ _ _ _ n0 n1 ls _ (HP.out.below hS.1).h1 (HP.out.below hS.1).g1 (HP.out.below hS.1).h2 (HP.out.below hS.1).g2 (HP.out.below hS.1).h3 (HP.out.below hS.1).g3 hrs).mono ?_; rintro e w9 ⟨v9, rfl, hR, hb⟩; obtain ⟨A9, c9, rfl, g9, C9⟩ := Kd.R_reads hR; clear hR; have HC := Aside0.mk (And.intro C9 g9); clear C9 g9; (first | (have nHA := Aside0.mk (And.intro (Kd.C_below HA.out.1 hb) HA.out.2); clear HA; have HA := nHA; clear nHA) | skip); have hS2 := ts7 hS hb; clear hS hb) | (go_at_call 19; have hS := ‹Below w2.heap.size w2 _ ∧ _›; refine (custodyref14_Same.calls k _ _ ls _ _ ls true _ HA.out.1 HA.out.2 HC.out.1 HC.out.2 hss).mono ?_; rintro e w9 ⟨rfl, hb⟩; have hS2 := ts7 hS hb.below; clear hS hb HA HC))
    all_goals
      have hS := ‹Below w2.heap.size w2 _ ∧ _›
      have hb := hS.1
      clear hS
      have nHP := Aside0.mk (HP.out.below hb)
      have nHX := Aside0.mk (HX.out.below hb)
      have nHN := Aside0.mk (HN.out.below hb)
      have nHB := Aside0.mk (HB.out.trans (hb.mono HB.out.size))
      clear HP HX HN HB hb
      have HP := nHP
      have HX := nHX
      have HN := nHN
      have HB := nHB
      clear nHP nHX nHN nHB
      rename World => v3
      have x0 := HX.out.cell 0 rfl
      have x1 := HX.out.cell 1 rfl
      have x2 := HX.out.cell 2 rfl
      have x3 := HX.out.cell 3 rfl
      have z0 := HN.out.cell 0 rfl
      have z1 := HN.out.cell 1 rfl
      have z2 := HN.out.cell 2 rfl
      go_wp2_with fail
      clear x0 x1 x2 x3 z0 z1 z2
      have hB0 : Below v3.heap.size v3 v3.drew := (Below.refl _ _).drew
      have x0 := HX.out.cell 0 rfl
      have x1 := HX.out.cell 1 rfl
      have x2 := HX.out.cell 2 rfl
      have x3 := HX.out.cell 3 rfl
      have z0 := HN.out.cell 0 rfl
      have z1 := HN.out.cell 1 rfl
      have z2 := HN.out.cell 2 rfl
      go_region_held3 (fun W' => Below v3.heap.size v3 W' ∧ W'.cell? ⟨w.heap.size, 0, none⟩ = some (.string a0) ∧ W'.cell? ⟨w.heap.size, 1, none⟩ = some (.slice A1 l1.length c1) ∧ W'.cell? ⟨w.heap.size, 2, none⟩ = some (.slice A2 l2.length c2) ∧ W'.cell? ⟨w.heap.size, 3, none⟩ = some (.slice A3 l3.length c3) ∧ W'.cell? ⟨bn, 0, none⟩ = some (.int .i64 n0) ∧ W'.cell? ⟨bn, 1, none⟩ = some (.int .i64 n1) ∧ W'.cell? ⟨bn, 2, none⟩ = some (.int .i64 n2)) (go_keep) (first | (go_at_call 22; have hS := ‹Below v3.heap.size v3 _ ∧ _›; refine (perm_Targets.calls _ _ _ _ _ _ _ _ _ _ n0 n1 lt _ (HP.out.below hS.1).h1 (HP.out.below hS.1).g1 (HP.out.below hS.1).h2 (HP.out.below hS.1).g2 (HP.out.below hS.1).h3 (HP.out.below hS.1).g3 ht).mono ?_; rintro e w9 ⟨v9, rfl, hR, hb⟩; obtain ⟨A9, c9, rfl, g9, C9⟩ := Kd.R_reads hR; clear hR; have HA := Aside0.mk (And.intro C9 g9); clear C9 g9; (first | (have nHC := Aside0.mk (And.intro (Kd.C_below HC.out.1 hb) HC.out.2); clear HC; have HC := nHC; clear nHC) | skip); have hS2 := ts7 hS hb; clear hS hb) | (go_at_call 23; have hS := ‹Below v3.heap.size v3 _ ∧ _›; refine (custodyref14_Targets.calls k _ _ _ _ _ _ _ _ _ _ n0 n1 lt _ (HP.out.below hS.1).h1 (HP.out.below hS.1).g1 (HP.out.below hS.1).h2 (HP.out.below hS.1).g2 (HP.out.below hS.1).h3 (HP.out.below hS.1).g3 hrt).mono ?_; rintro e w9 ⟨v9, rfl, hR, hb⟩; obtain ⟨A9, c9, rfl, g9, C9⟩ := Kd.R_reads hR; clear hR; have HC := Aside0.mk (And.intro C9 g9); clear C9 g9; (first | (have nHA := Aside0.mk (And.intro (Kd.C_below HA.out.1 hb) HA.out.2); clear HA; have HA := nHA; clear nHA) | skip); have hS2 := ts7 hS hb; clear hS hb) | (go_at_call 19; have hS := ‹Below v3.heap.size v3 _ ∧ _›; refine (custodyref14_Same.calls k _ _ lt _ _ lt true _ HA.out.1 HA.out.2 HC.out.1 HC.out.2 htt).mono ?_; rintro e w9 ⟨rfl, hb⟩; have hS2 := ts7 hS hb.below; clear hS hb HA HC))
      all_goals
        have hS := ‹Below v3.heap.size v3 _ ∧ _›
        have hb := hS.1
        clear hS
        have nHP := Aside0.mk (HP.out.below hb)
        have nHX := Aside0.mk (HX.out.below hb)
        have nHN := Aside0.mk (HN.out.below hb)
        have nHB := Aside0.mk (HB.out.trans (hb.mono HB.out.size))
        clear HP HX HN HB hb
        have HP := nHP
        have HX := nHX
        have HN := nHN
        have HB := nHB
        clear nHP nHX nHN nHB
        rename World => v4
        have x0 := HX.out.cell 0 rfl
        have x1 := HX.out.cell 1 rfl
        have x2 := HX.out.cell 2 rfl
        have x3 := HX.out.cell 3 rfl
        have z0 := HN.out.cell 0 rfl
        have z1 := HN.out.cell 1 rfl
        have z2 := HN.out.cell 2 rfl
        go_wp2_with fail
        clear x0 x1 x2 x3 z0 z1 z2
        have hB0 : Below v4.heap.size v4 v4.drew := (Below.refl _ _).drew
        have x0 := HX.out.cell 0 rfl
        have x1 := HX.out.cell 1 rfl
        have x2 := HX.out.cell 2 rfl
        have x3 := HX.out.cell 3 rfl
        have z0 := HN.out.cell 0 rfl
        have z1 := HN.out.cell 1 rfl
        have z2 := HN.out.cell 2 rfl
        go_region_held3 (fun W' => Below v4.heap.size v4 W' ∧ W'.cell? ⟨w.heap.size, 0, none⟩ = some (.string a0) ∧ W'.cell? ⟨w.heap.size, 1, none⟩ = some (.slice A1 l1.length c1) ∧ W'.cell? ⟨w.heap.size, 2, none⟩ = some (.slice A2 l2.length c2) ∧ W'.cell? ⟨w.heap.size, 3, none⟩ = some (.slice A3 l3.length c3) ∧ W'.cell? ⟨bn, 0, none⟩ = some (.int .i64 n0) ∧ W'.cell? ⟨bn, 1, none⟩ = some (.int .i64 n1) ∧ W'.cell? ⟨bn, 2, none⟩ = some (.int .i64 n2)) (go_keep) (first | (go_at_call 24; have hS := ‹Below v4.heap.size v4 _ ∧ _›; refine (perm_May.calls k _ _ _ _ _ _ _ _ _ _ n0 n1 n2 bm _ (HP.out.below hS.1).h1 (HP.out.below hS.1).g1 (HP.out.below hS.1).h2 (HP.out.below hS.1).g2 (HP.out.below hS.1).h3 (HP.out.below hS.1).g3 hm).mono ?_; rintro e w9 ⟨rfl, hb⟩; have hS2 := ts7 hS hb; clear hS hb) | (go_at_call 25; have hS := ‹Below v4.heap.size v4 _ ∧ _›; refine (custodyref14_May.calls k _ _ _ _ _ _ _ _ _ _ n0 n1 n2 bm _ (HP.out.below hS.1).h1 (HP.out.below hS.1).g1 (HP.out.below hS.1).h2 (HP.out.below hS.1).g2 (HP.out.below hS.1).h3 (HP.out.below hS.1).g3 hrm).mono ?_; rintro e w9 ⟨rfl, hb⟩; have hS2 := ts7 hS hb; clear hS hb) | (go_at_call 26; have hS := ‹Below v4.heap.size v4 _ ∧ _›; refine (perm_Uses.calls _ _ _ _ _ _ _ _ _ _ n1 us _ (HP.out.below hS.1).hG (HP.out.below hS.1).h1 (HP.out.below hS.1).g1 (HP.out.below hS.1).h2 (HP.out.below hS.1).g2 (HP.out.below hS.1).h3 (HP.out.below hS.1).g3 hu).mono ?_; rintro e w9 ⟨rfl, hb⟩; have hS2 := ts7 hS hb; clear hS hb) | (go_at_call 27; have hS := ‹Below v4.heap.size v4 _ ∧ _›; refine (custodyref14_Uses.calls k _ _ _ _ _ _ _ _ _ _ n1 us _ (HP.out.below hS.1).h1 (HP.out.below hS.1).g1 (HP.out.below hS.1).h2 (HP.out.below hS.1).g2 (HP.out.below hS.1).h3 (HP.out.below hS.1).g3 hru).mono ?_; rintro e w9 ⟨rfl, hb⟩; have hS2 := ts7 hS hb; clear hS hb))
        all_goals
          have hS := ‹Below v4.heap.size v4 _ ∧ _›
          go_wp2
          go_ret
          exact ⟨by simp, HB.out.trans (hS.1.mono HB.out.size)⟩
end Go.Proofs.YthldfkjnjcagjaaDoor.P
