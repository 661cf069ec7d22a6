/- custodylaw14.PermGrantNarrows, walked call by call. -/
import Derived.Test.YthldfkjnjcagjaaDoorHandSanity
import Derived.Test.YthldfkjnjcagjaaDoorPx12
import Derived.Test.YthldfkjnjcagjaaDoorPx14
import Derived.Test.YthldfkjnjcagjaaDoorPx15
import Derived.Test.YthldfkjnjcagjaaDoorPx18
import Derived.Test.YthldfkjnjcagjaaDoorPx16
import Derived.Test.YthldfkjnjcagjaaDoorPx21
import Derived.Test.YthldfkjnjcagjaaDoorPx22
import Derived.Test.YthldfkjnjcagjaaDoorPx23
import Derived.Test.YthldfkjnjcagjaaDoorPx24
import Derived.Test.YthldfkjnjcagjaaDoorPx26
import Derived.Test.YthldfkjnjcagjaaDoorPx28
namespace Go.Proofs.YthldfkjnjcagjaaDoor.P
open Go.RowKit Go.Shelf Go.Lib Go.Proofs.YthldfkjnjcagjaaDoorW.PrintWords Go.Proofs.YthldfkjnjcagjaaDoorW.PrintMore Go.Proofs.YthldfkjnjcagjaaDoorW.PrintLast

set_option maxRecDepth 100000 in
set_option maxHeartbeats 8000000 in
theorem narrowsLaw_calls (k : Nat) (a0 : ByteArray) (A1 : Option Addr) (c1 : Nat) (l1 : List S59) (A2 : Option Addr) (c2 : Nat) (l2 : List S55) (A3 : Option Addr) (c3 : Nat) (l3 : List S33) (n0 n1 n2 : Int) (fewer less : Int) (w : World) (hP : Pol w A1 c1 l1 A2 c2 l2 A3 c3 l3) (few : Bool) (hF : custodyref14_Few.f k a0 l1 l2 l3 = some few)
    (h : few = true → ∃ u life er, perm_Grant.f k a0 l1 l2 l3 n0 n1 n2 = some (u, life, er) ∧ (er ≠ 0 → u = 0 ∧ life = 0) ∧ (er = 0 → u = n1 ∧ ∃ us, perm_Uses.f a0 l1 l2 l3 n0 = some us ∧ perm_Subset.f u us = some true ∧ perm_Subset.f u 956 = some true ∧ (0 ≤ life → life ≤ 1099511627776 → perm_Grant.f k a0 l1 l2 l3 n0 u life = some (u, life, 0) ∧ perm_Grant.f k a0 l1 l2 l3 n0 (bits .and .i64 u fewer) (if life > 1 then wrap64 (1 + Int.tmod (wrap64 less) life) else life) = some (bits .and .i64 u fewer, (if life > 1 then wrap64 (1 + Int.tmod (wrap64 less) life) else life), 0)))) :
    Calls Tryd.prog 7 #[.agg #[.string a0, .slice A1 l1.length c1, .slice A2 l2.length c2, .slice A3 l3.length c3], .agg #[.int .i64 n0, .int .i64 n1, .int .i64 n2], .int .i64 fewer, .int .u16 less] w fun e w' => e = .returned (.bool true) ∧ Below w.heap.size w w' := by
  have HP := Aside0.mk ((hP.below (below_new w (.cells #[.string a0, .slice A1 l1.length c1, .slice A2 l2.length c2, .slice A3 l3.length c3] 26 (0, 0)))).below (below_new _ (.cells #[.int .i64 n0, .int .i64 n1, .int .i64 n2] 27 (0, 0))))
  have HX := Aside0.mk ((Boxed.new w #[.string a0, .slice A1 l1.length c1, .slice A2 l2.length c2, .slice A3 l3.length c3] 26).below (below_new _ (.cells #[.int .i64 n0, .int .i64 n1, .int .i64 n2] 27 (0, 0))))
  have HN := Boxed.new (w.alloc (.cells #[.string a0, .slice A1 l1.length c1, .slice A2 l2.length c2, .slice A3 l3.length c3] 26 (0, 0))) #[.int .i64 n0, .int .i64 n1, .int .i64 n2] 27
  rw [(one_block w (.cells #[.string a0, .slice A1 l1.length c1, .slice A2 l2.length c2, .slice A3 l3.length c3] 26 (0, 0))).1] at HN
  have HN := Aside0.mk HN
  have HB := Aside0.mk ((below_new w (.cells #[.string a0, .slice A1 l1.length c1, .slice A2 l2.length c2, .slice A3 l3.length c3] 26 (0, 0))).trans ((below_new _ (.cells #[.int .i64 n0, .int .i64 n1, .int .i64 n2] 27 (0, 0))).mono (below_new w (.cells #[.string a0, .slice A1 l1.length c1, .slice A2 l2.length c2, .slice A3 l3.length c3] 26 (0, 0))).size))
  clear hP
  go_enter Tryd.func7, Tryd.ntmps7
  go_wp2_with fail
  generalize (w.alloc (.cells #[.string a0, .slice A1 l1.length c1, .slice A2 l2.length c2, .slice A3 l3.length c3] 26 (0, 0))).alloc (.cells #[.int .i64 n0, .int .i64 n1, .int .i64 n2] 27 (0, 0)) = W0 at HP HX HN HB ⊢
  generalize hbn : w.heap.size + 1 = bn at HN ⊢
  clear hbn
  refine (custodylaw14_sanity.calls _ HP.out.hG).mono ?_
  rintro e w1 ⟨rfl, hb⟩
  have nHP := Aside0.mk (HP.out.below hb)
  have nHX := Aside0.mk (HX.out.below hb)
  have nHN := Aside0.mk (HN.out.below hb)
  have nHB := Aside0.mk (HB.out.trans (hb.mono HB.out.size))
  clear HP HX HN HB hb
  have HP := nHP
  have HX := nHX
  have HN := nHN
  have HB := nHB
  clear nHP nHX nHN nHB
  have x0 := HX.out.cell 0 rfl
  have x1 := HX.out.cell 1 rfl
  have x2 := HX.out.cell 2 rfl
  have x3 := HX.out.cell 3 rfl
  go_wp2_with fail
  clear x0 x1 x2 x3
  refine (custodyref14_Few.calls k _ _ _ _ _ _ _ _ _ _ few _ HP.out.h1 HP.out.g1 HP.out.h2 HP.out.g2 HP.out.h3 HP.out.g3 hF).mono ?_
  rintro e w2 ⟨rfl, hb⟩
  have nHP := Aside0.mk (HP.out.below hb)
  have nHX := Aside0.mk (HX.out.below hb)
  have nHN := Aside0.mk (HN.out.below hb)
  have nHB := Aside0.mk (HB.out.trans (hb.mono HB.out.size))
  clear HP HX HN HB hb
  have HP := nHP
  have HX := nHX
  have HN := nHN
  have HB := nHB
  clear nHP nHX nHN nHB
  cases few with
  | false =>
    go_wp2
    go_ret
    exact ⟨rfl, HB.out⟩
  | true =>
    obtain ⟨u, life, er, hg, hbad, hgood⟩ := h rfl
    clear h
    have x0 := HX.out.cell 0 rfl
    have x1 := HX.out.cell 1 rfl
    have x2 := HX.out.cell 2 rfl
    have x3 := HX.out.cell 3 rfl
    have z0 := HN.out.cell 0 rfl
    have z1 := HN.out.cell 1 rfl
    have z2 := HN.out.cell 2 rfl
    go_wp2_with fail
    clear x0 x1 x2 x3 z0 z1 z2
    refine (perm_Grant.calls k _ _ _ _ _ _ _ _ _ _ n0 n1 n2 u life er _ HP.out.hG HP.out.h1 HP.out.g1 HP.out.h2 HP.out.g2 HP.out.h3 HP.out.g3 hg).mono ?_
    rintro e w3 ⟨rfl, hb⟩
    have nHP := Aside0.mk (HP.out.below hb)
    have nHX := Aside0.mk (HX.out.below hb)
    have nHN := Aside0.mk (HN.out.below hb)
    have nHB := Aside0.mk (HB.out.trans (hb.mono HB.out.size))
    clear HP HX HN HB hb
    have HP := nHP
    have HX := nHX
    have HN := nHN
    have HB := nHB
    clear nHP nHX nHN nHB
    by_cases he : er = 0
    · subst he
      obtain ⟨rfl, us, hus, hs1, hs2, hmore⟩ := hgood rfl
      clear hbad hg hgood
      have x0 := HX.out.cell 0 rfl
      have x1 := HX.out.cell 1 rfl
      have x2 := HX.out.cell 2 rfl
      have x3 := HX.out.cell 3 rfl
      have z0 := HN.out.cell 0 rfl
      have z1 := HN.out.cell 1 rfl
      have z2 := HN.out.cell 2 rfl
      go_wp2_with fail
      clear x0 x1 x2 x3 z0 z1 z2
      refine (perm_Uses.calls _ _ _ _ _ _ _ _ _ _ n0 us _ HP.out.hG HP.out.h1 HP.out.g1 HP.out.h2 HP.out.g2 HP.out.h3 HP.out.g3 hus).mono ?_
      rintro e w4 ⟨rfl, hb⟩
      have nHP := Aside0.mk (HP.out.below hb)
      have nHX := Aside0.mk (HX.out.below hb)
      have nHN := Aside0.mk (HN.out.below hb)
      have nHB := Aside0.mk (HB.out.trans (hb.mono HB.out.size))
      clear HP HX HN HB hb
      have HP := nHP
      have HX := nHX
      have HN := nHN
      have HB := nHB
      clear nHP nHX nHN nHB
      go_wp2_with fail
      refine (perm_Subset.calls u us true _ hs1).mono ?_
      rintro e w5 ⟨rfl, hb⟩
      have nHP := Aside0.mk (HP.out.below hb.below)
      have nHX := Aside0.mk (HX.out.below hb.below)
      have nHN := Aside0.mk (HN.out.below hb.below)
      have nHB := Aside0.mk (HB.out.trans (hb.below.mono HB.out.size))
      clear HP HX HN HB hb
      have HP := nHP
      have HX := nHX
      have HN := nHN
      have HB := nHB
      clear nHP nHX nHN nHB
      go_wp2_with fail
      refine (perm_Subset.calls u 956 true _ hs2).mono ?_
      rintro e w6 ⟨rfl, hb⟩
      have nHP := Aside0.mk (HP.out.below hb.below)
      have nHX := Aside0.mk (HX.out.below hb.below)
      have nHN := Aside0.mk (HN.out.below hb.below)
      have nHB := Aside0.mk (HB.out.trans (hb.below.mono HB.out.size))
      clear HP HX HN HB hb
      have HP := nHP
      have HX := nHX
      have HN := nHN
      have HB := nHB
      clear nHP nHX nHN nHB
      by_cases hlo : life < 0
      · clear hmore
        go_wp2
        go_ret
        exact ⟨rfl, HB.out⟩
      · by_cases hhi : life > 1099511627776
        · clear hmore
          go_wp2
          go_ret
          exact ⟨rfl, HB.out⟩
        · obtain ⟨hg2, hg3⟩ := hmore (by omega) (by omega)
          clear hmore
          have x0 := HX.out.cell 0 rfl
          have x1 := HX.out.cell 1 rfl
          have x2 := HX.out.cell 2 rfl
          have x3 := HX.out.cell 3 rfl
          have z0 := HN.out.cell 0 rfl
          have z1 := HN.out.cell 1 rfl
          have z2 := HN.out.cell 2 rfl
          go_wp2_with fail
          clear x0 x1 x2 x3 z0 z1 z2
          refine (perm_Grant.calls k _ _ _ _ _ _ _ _ _ _ n0 u life u life 0 _ HP.out.hG HP.out.h1 HP.out.g1 HP.out.h2 HP.out.g2 HP.out.h3 HP.out.g3 hg2).mono ?_
          rintro e w7 ⟨rfl, hb⟩
          have nHP := Aside0.mk (HP.out.below hb)
          have nHX := Aside0.mk (HX.out.below hb)
          have nHN := Aside0.mk (HN.out.below hb)
          have nHB := Aside0.mk (HB.out.trans (hb.mono HB.out.size))
          clear HP HX HN HB hb
          have HP := nHP
          have HX := nHX
          have HN := nHN
          have HB := nHB
          clear nHP nHX nHN nHB
          by_cases hl : life > 1
          · rw [if_pos hl] at hg3
            have hne : ¬ life = 0 := by omega
            clear hlo hhi
            have x0 := HX.out.cell 0 rfl
            have x1 := HX.out.cell 1 rfl
            have x2 := HX.out.cell 2 rfl
            have x3 := HX.out.cell 3 rfl
            have z0 := HN.out.cell 0 rfl
            have z1 := HN.out.cell 1 rfl
            have z2 := HN.out.cell 2 rfl
            go_wp2_with fail
            clear x0 x1 x2 x3 z0 z1 z2
            refine (perm_Grant.calls k _ _ _ _ _ _ _ _ _ _ n0 (bits .and .i64 u fewer) _ _ _ 0 _ HP.out.hG HP.out.h1 HP.out.g1 HP.out.h2 HP.out.g2 HP.out.h3 HP.out.g3 hg3).mono ?_
            rintro e w8 ⟨rfl, hb⟩
            have nHP := Aside0.mk (HP.out.below hb)
            have nHX := Aside0.mk (HX.out.below hb)
            have nHN := Aside0.mk (HN.out.below hb)
            have nHB := Aside0.mk (HB.out.trans (hb.mono HB.out.size))
            clear HP HX HN HB hb
            have HP := nHP
            have HX := nHX
            have HN := nHN
            have HB := nHB
            clear nHP nHX nHN nHB
            go_wp2
            go_ret
            exact ⟨by simp, HB.out⟩
          · rw [if_neg hl] at hg3
            have x0 := HX.out.cell 0 rfl
            have x1 := HX.out.cell 1 rfl
            have x2 := HX.out.cell 2 rfl
            have x3 := HX.out.cell 3 rfl
            have z0 := HN.out.cell 0 rfl
            have z1 := HN.out.cell 1 rfl
            have z2 := HN.out.cell 2 rfl
            go_wp2_with fail
            clear x0 x1 x2 x3 z0 z1 z2
            refine (perm_Grant.calls k _ _ _ _ _ _ _ _ _ _ n0 (bits .and .i64 u fewer) _ _ _ 0 _ HP.out.hG HP.out.h1 HP.out.g1 HP.out.h2 HP.out.g2 HP.out.h3 HP.out.g3 hg3).mono ?_
            rintro e w8 ⟨rfl, hb⟩
            have nHP := Aside0.mk (HP.out.below hb)
            have nHX := Aside0.mk (HX.out.below hb)
            have nHN := Aside0.mk (HN.out.below hb)
            have nHB := Aside0.mk (HB.out.trans (hb.mono HB.out.size))
            clear HP HX HN HB hb
            have HP := nHP
            have HX := nHX
            have HN := nHN
            have HB := nHB
            clear nHP nHX nHN nHB
            go_wp2
            go_ret
            exact ⟨by simp, HB.out⟩
    · obtain ⟨rfl, rfl⟩ := hbad he
      clear hgood hg
      go_wp2
      go_ret
      exact ⟨rfl, HB.out⟩
end Go.Proofs.YthldfkjnjcagjaaDoor.P
