/- The law functions of custodylaw14, walked call by call. -/
import Derived.Test.YthldfkjnjcagjaaDoorHandSanity
import Derived.Test.YthldfkjnjcagjaaDoorPx12
import Derived.Test.YthldfkjnjcagjaaDoorPx14
import Derived.Test.YthldfkjnjcagjaaDoorPx15
import Derived.Test.YthldfkjnjcagjaaDoorPx18
import Derived.Test.YthldfkjnjcagjaaDoorPx16
import Derived.Test.YthldfkjnjcagjaaDoorPx21
import Derived.Test.YthldfkjnjcagjaaDoorPx22
import Derived.Test.YthldfkjnjcagjaaDoorPx23
import Derived.Test.YthldfkjnjcagjaaDoorPx24
import Derived.Test.YthldfkjnjcagjaaDoorPx26
import Derived.Test.YthldfkjnjcagjaaDoorPx28
namespace Go.Proofs.YthldfkjnjcagjaaDoor.P
open Go.RowKit Go.Shelf Go.Lib Go.Proofs.YthldfkjnjcagjaaDoorW.PrintWords Go.Proofs.YthldfkjnjcagjaaDoorW.PrintMore Go.Proofs.YthldfkjnjcagjaaDoorW.PrintLast

set_option maxRecDepth 100000 in
set_option maxHeartbeats 8000000 in
theorem grantLaw_calls (k : Nat) (a0 : ByteArray) (A1 : Option Addr) (c1 : Nat) (l1 : List S59) (A2 : Option Addr) (c2 : Nat) (l2 : List S55) (A3 : Option Addr) (c3 : Nat) (l3 : List S33) (n0 n1 n2 : Int) (w : World) (hP : Pol w A1 c1 l1 A2 c2 l2 A3 c3 l3) (few : Bool) (hF : custodyref14_Few.f k a0 l1 l2 l3 = some few)
    (h : few = true → ∃ u life er, perm_Grant.f k a0 l1 l2 l3 n0 n1 n2 = some (u, life, er) ∧ custodyref14_Grant.f k a0 l1 l2 l3 n0 n1 n2 = some (u, life, er)) :
    Calls Tryd.prog 5 #[.agg #[.string a0, .slice A1 l1.length c1, .slice A2 l2.length c2, .slice A3 l3.length c3], .agg #[.int .i64 n0, .int .i64 n1, .int .i64 n2]] w fun e w' => e = .returned (.bool true) ∧ Below w.heap.size w w' := by
  have HP := Aside0.mk ((hP.below (below_new w (.cells #[.string a0, .slice A1 l1.length c1, .slice A2 l2.length c2, .slice A3 l3.length c3] 26 (0, 0)))).below (below_new _ (.cells #[.int .i64 n0, .int .i64 n1, .int .i64 n2] 27 (0, 0))))
  have HX := Aside0.mk ((Boxed.new w #[.string a0, .slice A1 l1.length c1, .slice A2 l2.length c2, .slice A3 l3.length c3] 26).below (below_new _ (.cells #[.int .i64 n0, .int .i64 n1, .int .i64 n2] 27 (0, 0))))
  have HN := Boxed.new (w.alloc (.cells #[.string a0, .slice A1 l1.length c1, .slice A2 l2.length c2, .slice A3 l3.length c3] 26 (0, 0))) #[.int .i64 n0, .int .i64 n1, .int .i64 n2] 27
  rw [(one_block w (.cells #[.string a0, .slice A1 l1.length c1, .slice A2 l2.length c2, .slice A3 l3.length c3] 26 (0, 0))).1] at HN
  have HN := Aside0.mk HN
  have HB := Aside0.mk ((below_new w (.cells #[.string a0, .slice A1 l1.length c1, .slice A2 l2.length c2, .slice A3 l3.length c3] 26 (0, 0))).trans ((below_new _ (.cells #[.int .i64 n0, .int .i64 n1, .int .i64 n2] 27 (0, 0))).mono (below_new w (.cells #[.string a0, .slice A1 l1.length c1, .slice A2 l2.length c2, .slice A3 l3.length c3] 26 (0, 0))).size))
  clear hP
  go_enter Tryd.func5, Tryd.ntmps5
  go_wp2_with fail
  generalize (w.alloc (.cells #[.string a0, .slice A1 l1.length c1, .slice A2 l2.length c2, .slice A3 l3.length c3] 26 (0, 0))).alloc (.cells #[.int .i64 n0, .int .i64 n1, .int .i64 n2] 27 (0, 0)) = W0 at HP HX HN HB ⊢
  generalize hbn : w.heap.size + 1 = bn at HN ⊢
  clear hbn
  refine (custodylaw14_sanity.calls _ HP.out.hG).mono ?_
  rintro e w1 ⟨rfl, hb⟩
  have nHP := Aside0.mk (HP.out.below hb)
  have nHX := Aside0.mk (HX.out.below hb)
  have nHN := Aside0.mk (HN.out.below hb)
  have nHB := Aside0.mk (HB.out.trans (hb.mono HB.out.size))
  clear HP HX HN HB hb
  have HP := nHP
  have HX := nHX
  have HN := nHN
  have HB := nHB
  clear nHP nHX nHN nHB
  have x0 := HX.out.cell 0 rfl
  have x1 := HX.out.cell 1 rfl
  have x2 := HX.out.cell 2 rfl
  have x3 := HX.out.cell 3 rfl
  go_wp2_with fail
  clear x0 x1 x2 x3
  refine (custodyref14_Few.calls k _ _ _ _ _ _ _ _ _ _ few _ HP.out.h1 HP.out.g1 HP.out.h2 HP.out.g2 HP.out.h3 HP.out.g3 hF).mono ?_
  rintro e w2 ⟨rfl, hb⟩
  have nHP := Aside0.mk (HP.out.below hb)
  have nHX := Aside0.mk (HX.out.below hb)
  have nHN := Aside0.mk (HN.out.below hb)
  have nHB := Aside0.mk (HB.out.trans (hb.mono HB.out.size))
  clear HP HX HN HB hb
  have HP := nHP
  have HX := nHX
  have HN := nHN
  have HB := nHB
  clear nHP nHX nHN nHB
  cases few with
  | false =>
    go_wp2
    go_ret
    exact ⟨rfl, HB.out⟩
  | true =>
    obtain ⟨u, life, er, hg, hr⟩ := h rfl
    clear h
    have x0 := HX.out.cell 0 rfl
    have x1 := HX.out.cell 1 rfl
    have x2 := HX.out.cell 2 rfl
    have x3 := HX.out.cell 3 rfl
    have z0 := HN.out.cell 0 rfl
    have z1 := HN.out.cell 1 rfl
    have z2 := HN.out.cell 2 rfl
    go_wp2_with fail
    clear x0 x1 x2 x3 z0 z1 z2
    refine (perm_Grant.calls k _ _ _ _ _ _ _ _ _ _ n0 n1 n2 u life er _ HP.out.hG HP.out.h1 HP.out.g1 HP.out.h2 HP.out.g2 HP.out.h3 HP.out.g3 hg).mono ?_
    rintro e w3 ⟨rfl, hb⟩
    have nHP := Aside0.mk (HP.out.below hb)
    have nHX := Aside0.mk (HX.out.below hb)
    have nHN := Aside0.mk (HN.out.below hb)
    have nHB := Aside0.mk (HB.out.trans (hb.mono HB.out.size))
    clear HP HX HN HB hb
    have HP := nHP
    have HX := nHX
    have HN := nHN
    have HB := nHB
    clear nHP nHX nHN nHB
    have x0 := HX.out.cell 0 rfl
    have x1 := HX.out.cell 1 rfl
    have x2 := HX.out.cell 2 rfl
    have x3 := HX.out.cell 3 rfl
    have z0 := HN.out.cell 0 rfl
    have z1 := HN.out.cell 1 rfl
    have z2 := HN.out.cell 2 rfl
    go_wp2_with fail
    clear x0 x1 x2 x3 z0 z1 z2
    refine (custodyref14_Grant.calls k _ _ _ _ _ _ _ _ _ _ n0 n1 n2 u life er _ HP.out.h1 HP.out.g1 HP.out.h2 HP.out.g2 HP.out.h3 HP.out.g3 hr).mono ?_
    rintro e w4 ⟨rfl, hb⟩
    have nHP := Aside0.mk (HP.out.below hb)
    have nHX := Aside0.mk (HX.out.below hb)
    have nHN := Aside0.mk (HN.out.below hb)
    have nHB := Aside0.mk (HB.out.trans (hb.mono HB.out.size))
    clear HP HX HN HB hb
    have HP := nHP
    have HX := nHX
    have HN := nHN
    have HB := nHB
    clear nHP nHX nHN nHB
    go_wp2
    go_ret
    exact ⟨by simp, HB.out.alloc HB.out.size _⟩
end Go.Proofs.YthldfkjnjcagjaaDoor.P
