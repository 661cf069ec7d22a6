/- custodylaw14.sanity answers true. -/
import Derived.Test.YthldfkjnjcagjaaDoorHandLists
import Derived.Test.YthldfkjnjcagjaaDoorPx10
import Derived.Test.YthldfkjnjcagjaaDoorPx9
import Derived.Test.YthldfkjnjcagjaaDoorPx4
import Derived.Test.YthldfkjnjcagjaaDoorPx8
import Derived.Test.YthldfkjnjcagjaaDoorPx5
namespace Go.Proofs.YthldfkjnjcagjaaDoor.P
open Go.RowKit Go.Shelf Go.Lib Go.Proofs.YthldfkjnjcagjaaDoorW.PrintWords Go.Proofs.YthldfkjnjcagjaaDoorW.PrintMore Go.Proofs.YthldfkjnjcagjaaDoorW.PrintLast

/-- A policy that lies in the world, and the package's table. -/
structure Pol (w : World) (A1 : Option Addr) (c1 : Nat) (l1 : List S59) (A2 : Option Addr) (c2 : Nat) (l2 : List S55) (A3 : Option Addr) (c3 : Nat) (l3 : List S33) : Prop where
  h1 : Kd.C k59 w A1 l1.length l1
  g1 : l1.length ≤ c1
  h2 : Kd.C k55 w A2 l2.length l2
  g2 : l2.length ≤ c2
  h3 : Kd.C k33 w A3 l3.length l3
  g3 : l3.length ≤ c3
  hG : ByRule w
theorem Pol.below {w w' : World} {A1 : Option Addr} {c1 : Nat} {l1 : List S59} {A2 : Option Addr} {c2 : Nat} {l2 : List S55} {A3 : Option Addr} {c3 : Nat} {l3 : List S33} (h : Pol w A1 c1 l1 A2 c2 l2 A3 c3 l3) (hb : Below w.heap.size w w') : Pol w' A1 c1 l1 A2 c2 l2 A3 c3 l3 :=
  ⟨Kd.C_below h.h1 hb, h.g1, Kd.C_below h.h2 hb, h.g2, Kd.C_below h.h3 hb, h.g3, h.hG.below hb⟩
/-- A variable with a policy in it. -/
def Boxed (w : World) (b : Nat) (cs : Array Value) (t : TypeId) : Prop := b < w.heap.size ∧ w.heap[b]? = some (.cells cs t (0, 0))
theorem Boxed.below {w w' : World} {b : Nat} {cs : Array Value} {t : TypeId} (h : Boxed w b cs t) (hb : Below w.heap.size w w') : Boxed w' b cs t := ⟨Nat.lt_of_lt_of_le h.1 hb.size, (hb.block b h.1).trans h.2⟩
theorem Boxed.cell {w : World} {b : Nat} {cs : Array Value} {t : TypeId} (h : Boxed w b cs t) (i : Nat) {v : Value} (hv : cs[i]? = some v) : w.cell? ⟨b, i, none⟩ = some v := block_cell h.2 hv
theorem Boxed.new (w : World) (cs : Array Value) (t : TypeId) : Boxed (w.alloc (.cells cs t (0, 0))) w.heap.size cs t := ⟨by rw [(one_block _ _).1]; omega, (one_block _ _).2⟩
theorem below_new (w : World) (o : Obj) : Below w.heap.size w (w.alloc o) := (Below.refl _ w).alloc (Nat.le_refl _) _
theorem C_one (w : World) (n : Int) : Kd.C (Kd.int .i64) (w.alloc (.cells #[.int .i64 n] 3 (0, 0))) (some ⟨w.heap.size, 0, none⟩) [n].length [n] := by
  refine Kd.C_of_reads (enc := Value.int .i64) (d := (0 : Int)) (h1 := fun _ => rfl) ⟨rfl, by simp, fun _ => ⟨⟨w.heap.size, 0, none⟩, rfl, fun j hj => ?_⟩⟩
  have : j = 0 := by simpa using hj
  subst this
  exact block_cell (one_block _ _).2 rfl

def exT : List S59 := [⟨⟨#[107, 101, 107]⟩, 65, 100⟩, ⟨⟨#[100, 101, 107]⟩, 29, 0⟩]
def exR : List S55 := [⟨1, 0, 1⟩, ⟨2, 0, 1⟩, ⟨3, 0, 0⟩]
def exQ : List S33 := [⟨3, 2, 0, 0, 0⟩]
theorem ex_f : custodylaw14_example.f = some ((⟨#[]⟩ : ByteArray), exT, exR, exQ) := rfl
theorem ex_type : perm_Type.f ⟨#[]⟩ exT exR exQ (⟨#[100, 101, 107]⟩ : ByteArray) = some (1, true) := by decide +kernel
theorem ex_grant1 : perm_Grant.f 9 ⟨#[]⟩ exT exR exQ 0 128 0 = some (128, 100, 0) := by decide +kernel
theorem ex_grant2 : perm_Grant.f 9 ⟨#[]⟩ exT exR exQ 0 128 101 = some (0, 0, 10) := by decide +kernel
theorem ex_grant3 : perm_Grant.f 9 ⟨#[]⟩ exT exR exQ 2 0 0 = some (0, 0, 11) := by decide +kernel
theorem ex_quorum : perm_Quorum.f ⟨#[]⟩ exT exR exQ 3 = some (3, 2, 0, 0, 0, true) := by decide +kernel
theorem ex_targets : perm_Targets.f ⟨#[]⟩ exT exR exQ 1 0 = some [1] := by decide +kernel
theorem ex_sources : perm_Sources.f ⟨#[]⟩ exT exR exQ 1 1 = some [0] := by decide +kernel
theorem ex_same1 : custodyref14_Same.f 9 [1] [1] = some true := by decide +kernel
theorem ex_same0 : custodyref14_Same.f 9 [0] [0] = some true := by decide +kernel
theorem ex_uses : perm_Uses.f ⟨#[]⟩ exT exR exQ 0 = some 640 := by decide +kernel
theorem ex_has1 : perm_Has.f ⟨#[]⟩ exT exR exQ 1 8 = some true := by decide +kernel
theorem ex_has2 : perm_Has.f ⟨#[]⟩ exT exR exQ 2 0 = some false := by decide +kernel
theorem ex_may : perm_May.f 9 ⟨#[]⟩ exT exR exQ 3 0 0 = some true := by decide +kernel
theorem ex_sub1 : perm_Subset.f 5 7 = some true := by decide +kernel
theorem ex_sub2 : perm_Subset.f 5 6 = some false := by decide +kernel

set_option maxRecDepth 100000 in
set_option maxHeartbeats 8000000 in
theorem custodylaw14_sanity.calls (w : World) (hG : ByRule w) :
    Calls Tryd.prog 9 #[] w fun e w' => e = .returned (.bool true) ∧ Below w.heap.size w w' := by
  have HG := Aside0.mk hG
  clear hG
  go_enter Tryd.func9, Tryd.ntmps9
  go_wp2_with fail
  refine (custodylaw14_example.calls _ _ _ _ w ex_f).mono ?_
  rintro e w1 ⟨v1, v2, v3, rfl, h1, h2, h3, hb⟩
  obtain ⟨A1, c1, rfl, g1, C1⟩ := Kd.R_reads h1
  obtain ⟨A2, c2, rfl, g2, C2⟩ := Kd.R_reads h2
  obtain ⟨A3, c3, rfl, g3, C3⟩ := Kd.R_reads h3
  have HP := Aside0.mk ((Pol.mk C1 g1 C2 g2 C3 g3 (HG.out.below hb)).below (below_new w1 (.cells #[.string ⟨#[]⟩, .slice A1 exT.length c1, .slice A2 exR.length c2, .slice A3 exQ.length c3] 26 (0, 0))))
  have HX := Aside0.mk (Boxed.new w1 #[.string ⟨#[]⟩, .slice A1 exT.length c1, .slice A2 exR.length c2, .slice A3 exQ.length c3] 26)
  have HB := Aside0.mk (hb.trans ((below_new w1 (.cells #[.string ⟨#[]⟩, .slice A1 exT.length c1, .slice A2 exR.length c2, .slice A3 exQ.length c3] 26 (0, 0))).mono hb.size))
  clear h1 h2 h3 g1 g2 g3 C1 C2 C3 HG hb
  go_wp2_with fail
  generalize w1.alloc (.cells #[.string ⟨#[]⟩, .slice A1 exT.length c1, .slice A2 exR.length c2, .slice A3 exQ.length c3] 26 (0, 0)) = W1 at HP HX HB ⊢
  generalize w1.heap.size = bp at HX ⊢
  refine (perm_Type.calls _ _ _ _ _ _ _ _ _ _ _ 1 true _ HP.out.h1 HP.out.g1 HP.out.h2 HP.out.g2 HP.out.h3 HP.out.g3 ex_type).mono ?_
  rintro e w2 ⟨rfl, hb⟩
  have nHP := Aside0.mk (HP.out.below hb)
  have nHX := Aside0.mk (HX.out.below hb)
  have nHB := Aside0.mk (HB.out.trans (hb.mono HB.out.size))
  clear HP HX HB hb
  have HP := nHP
  have HX := nHX
  have HB := nHB
  clear nHP nHX nHB
  have x0 := HX.out.cell 0 rfl
  have x1 := HX.out.cell 1 rfl
  have x2 := HX.out.cell 2 rfl
  have x3 := HX.out.cell 3 rfl
  go_wp2_with fail
  clear x0 x1 x2 x3
  refine (perm_Grant.calls 9 _ _ _ _ _ _ _ _ _ _ _ _ _ 128 100 0 _ HP.out.hG HP.out.h1 HP.out.g1 HP.out.h2 HP.out.g2 HP.out.h3 HP.out.g3 ex_grant1).mono ?_
  rintro e w3 ⟨rfl, hb⟩
  have nHP := Aside0.mk (HP.out.below hb)
  have nHX := Aside0.mk (HX.out.below hb)
  have nHB := Aside0.mk (HB.out.trans (hb.mono HB.out.size))
  clear HP HX HB hb
  have HP := nHP
  have HX := nHX
  have HB := nHB
  clear nHP nHX nHB
  have x0 := HX.out.cell 0 rfl
  have x1 := HX.out.cell 1 rfl
  have x2 := HX.out.cell 2 rfl
  have x3 := HX.out.cell 3 rfl
  go_wp2_with fail
  clear x0 x1 x2 x3
  refine (perm_Grant.calls 9 _ _ _ _ _ _ _ _ _ _ _ _ _ 0 0 10 _ HP.out.hG HP.out.h1 HP.out.g1 HP.out.h2 HP.out.g2 HP.out.h3 HP.out.g3 ex_grant2).mono ?_
  rintro e w4 ⟨rfl, hb⟩
  have nHP := Aside0.mk (HP.out.below hb)
  have nHX := Aside0.mk (HX.out.below hb)
  have nHB := Aside0.mk (HB.out.trans (hb.mono HB.out.size))
  clear HP HX HB hb
  have HP := nHP
  have HX := nHX
  have HB := nHB
  clear nHP nHX nHB
  have x0 := HX.out.cell 0 rfl
  have x1 := HX.out.cell 1 rfl
  have x2 := HX.out.cell 2 rfl
  have x3 := HX.out.cell 3 rfl
  go_wp2_with fail
  clear x0 x1 x2 x3
  refine (perm_Grant.calls 9 _ _ _ _ _ _ _ _ _ _ _ _ _ 0 0 11 _ HP.out.hG HP.out.h1 HP.out.g1 HP.out.h2 HP.out.g2 HP.out.h3 HP.out.g3 ex_grant3).mono ?_
  rintro e w5 ⟨rfl, hb⟩
  have nHP := Aside0.mk (HP.out.below hb)
  have nHX := Aside0.mk (HX.out.below hb)
  have nHB := Aside0.mk (HB.out.trans (hb.mono HB.out.size))
  clear HP HX HB hb
  have HP := nHP
  have HX := nHX
  have HB := nHB
  clear nHP nHX nHB
  have x0 := HX.out.cell 0 rfl
  have x1 := HX.out.cell 1 rfl
  have x2 := HX.out.cell 2 rfl
  have x3 := HX.out.cell 3 rfl
  go_wp2_with fail
  clear x0 x1 x2 x3
  refine (perm_Quorum.calls _ _ _ _ _ _ _ _ _ _ _ 3 2 0 0 0 true _ HP.out.h1 HP.out.g1 HP.out.h2 HP.out.g2 HP.out.h3 HP.out.g3 ex_quorum).mono ?_
  rintro e w6 ⟨rfl, hb⟩
  have nHP := Aside0.mk (HP.out.below hb)
  have nHX := Aside0.mk (HX.out.below hb)
  have nHB := Aside0.mk (HB.out.trans (hb.mono HB.out.size))
  clear HP HX HB hb
  have HP := nHP
  have HX := nHX
  have HB := nHB
  clear nHP nHX nHB
  have x0 := HX.out.cell 0 rfl
  have x1 := HX.out.cell 1 rfl
  have x2 := HX.out.cell 2 rfl
  have x3 := HX.out.cell 3 rfl
  have hbx := HX.out.1
  go_wp2_with fail
  clear x0 x1 x2 x3
  clear hbx
  have hb := below_new w6 (.cells #[.int .i64 3, .int .i64 2, .int .i64 0, .int .i64 0, .int .i64 0] 33 (0, 0))
  have HQ := Aside0.mk (Boxed.new w6 #[.int .i64 3, .int .i64 2, .int .i64 0, .int .i64 0, .int .i64 0] 33)
  have nHP := Aside0.mk (HP.out.below hb)
  have nHX := Aside0.mk (HX.out.below hb)
  have nHB := Aside0.mk (HB.out.trans (hb.mono HB.out.size))
  clear HP HX HB hb
  have HP := nHP
  have HX := nHX
  have HB := nHB
  clear nHP nHX nHB
  generalize w6.alloc (.cells #[.int .i64 3, .int .i64 2, .int .i64 0, .int .i64 0, .int .i64 0] 33 (0, 0)) = W6 at HP HX HB HQ ⊢
  generalize w6.heap.size = bq at HQ ⊢
  refine (perm_Targets.calls _ _ _ _ _ _ _ _ _ _ _ _ [1] _ HP.out.h1 HP.out.g1 HP.out.h2 HP.out.g2 HP.out.h3 HP.out.g3 ex_targets).mono ?_
  rintro e w7 ⟨v7, rfl, hR, hb⟩
  obtain ⟨A4, c4, rfl, g4, C4⟩ := Kd.R_reads hR
  clear hR
  have nHP := Aside0.mk (HP.out.below hb)
  have nHX := Aside0.mk (HX.out.below hb)
  have nHB := Aside0.mk (HB.out.trans (hb.mono HB.out.size))
  have nHQ := Aside0.mk (HQ.out.below hb)
  clear HP HX HB HQ hb
  have HP := nHP
  have HX := nHX
  have HB := nHB
  have HQ := nHQ
  clear nHP nHX nHB nHQ
  have HL := Aside0.mk (And.intro C4 g4)
  clear C4 g4
  have x0 := HX.out.cell 0 rfl
  have x1 := HX.out.cell 1 rfl
  have x2 := HX.out.cell 2 rfl
  have x3 := HX.out.cell 3 rfl
  go_wp2_with fail
  clear x0 x1 x2 x3
  refine (perm_Sources.calls _ _ _ _ _ _ _ _ _ _ _ _ [0] _ HP.out.h1 HP.out.g1 HP.out.h2 HP.out.g2 HP.out.h3 HP.out.g3 ex_sources).mono ?_
  rintro e w8 ⟨v8, rfl, hR, hb⟩
  obtain ⟨A5, c5, rfl, g5, C5⟩ := Kd.R_reads hR
  clear hR
  have nHP := Aside0.mk (HP.out.below hb)
  have nHX := Aside0.mk (HX.out.below hb)
  have nHB := Aside0.mk (HB.out.trans (hb.mono HB.out.size))
  have nHQ := Aside0.mk (HQ.out.below hb)
  have nHL := Aside0.mk (And.intro (Kd.C_below HL.out.1 hb) HL.out.2)
  clear HP HX HB HQ HL hb
  have HP := nHP
  have HX := nHX
  have HB := nHB
  have HQ := nHQ
  have HL := nHL
  clear nHP nHX nHB nHQ nHL
  have HM := Aside0.mk (And.intro C5 g5)
  clear C5 g5
  have y1 := HQ.out.cell 1 rfl
  go_wp2_with fail
  clear y1
  have hn := below_new w8 (.cells #[.int .i64 1] 3 (0, 0))
  refine (custodyref14_Same.calls 9 _ _ [1] _ _ [1] true _ (Kd.C_below HL.out.1 hn) HL.out.2 (C_one w8 1) (Nat.le_refl _) ex_same1).mono ?_
  rintro e w9 ⟨rfl, hb0⟩
  have hb := hn.trans (hb0.below.mono hn.size)
  clear hn hb0
  have nHP := Aside0.mk (HP.out.below hb)
  have nHX := Aside0.mk (HX.out.below hb)
  have nHB := Aside0.mk (HB.out.trans (hb.mono HB.out.size))
  have nHQ := Aside0.mk (HQ.out.below hb)
  have nHL := Aside0.mk (And.intro (Kd.C_below HL.out.1 hb) HL.out.2)
  have nHM := Aside0.mk (And.intro (Kd.C_below HM.out.1 hb) HM.out.2)
  clear HP HX HB HQ HL HM hb
  have HP := nHP
  have HX := nHX
  have HB := nHB
  have HQ := nHQ
  have HL := nHL
  have HM := nHM
  clear nHP nHX nHB nHQ nHL nHM
  go_wp2_with fail
  have hn := below_new w9 (.cells #[.int .i64 0] 3 (0, 0))
  refine (custodyref14_Same.calls 9 _ _ [0] _ _ [0] true _ (Kd.C_below HM.out.1 hn) HM.out.2 (C_one w9 0) (Nat.le_refl _) ex_same0).mono ?_
  rintro e w10 ⟨rfl, hb0⟩
  have hb := hn.trans (hb0.below.mono hn.size)
  clear hn hb0
  have nHP := Aside0.mk (HP.out.below hb)
  have nHX := Aside0.mk (HX.out.below hb)
  have nHB := Aside0.mk (HB.out.trans (hb.mono HB.out.size))
  have nHQ := Aside0.mk (HQ.out.below hb)
  have nHL := Aside0.mk (And.intro (Kd.C_below HL.out.1 hb) HL.out.2)
  have nHM := Aside0.mk (And.intro (Kd.C_below HM.out.1 hb) HM.out.2)
  clear HP HX HB HQ HL HM hb
  have HP := nHP
  have HX := nHX
  have HB := nHB
  have HQ := nHQ
  have HL := nHL
  have HM := nHM
  clear nHP nHX nHB nHQ nHL nHM
  clear HL HM HQ
  have x0 := HX.out.cell 0 rfl
  have x1 := HX.out.cell 1 rfl
  have x2 := HX.out.cell 2 rfl
  have x3 := HX.out.cell 3 rfl
  go_wp2_with fail
  clear x0 x1 x2 x3
  refine (perm_Uses.calls _ _ _ _ _ _ _ _ _ _ _ 640 _ HP.out.hG HP.out.h1 HP.out.g1 HP.out.h2 HP.out.g2 HP.out.h3 HP.out.g3 ex_uses).mono ?_
  rintro e w11 ⟨rfl, hb⟩
  have nHP := Aside0.mk (HP.out.below hb)
  have nHX := Aside0.mk (HX.out.below hb)
  have nHB := Aside0.mk (HB.out.trans (hb.mono HB.out.size))
  clear HP HX HB hb
  have HP := nHP
  have HX := nHX
  have HB := nHB
  clear nHP nHX nHB
  have x0 := HX.out.cell 0 rfl
  have x1 := HX.out.cell 1 rfl
  have x2 := HX.out.cell 2 rfl
  have x3 := HX.out.cell 3 rfl
  go_wp2_with fail
  clear x0 x1 x2 x3
  refine (perm_Has.calls _ _ _ _ _ _ _ _ _ _ _ _ true _ HP.out.h1 HP.out.g1 HP.out.h2 HP.out.g2 HP.out.h3 HP.out.g3 ex_has1).mono ?_
  rintro e w12 ⟨rfl, hb⟩
  have nHP := Aside0.mk (HP.out.below hb)
  have nHX := Aside0.mk (HX.out.below hb)
  have nHB := Aside0.mk (HB.out.trans (hb.mono HB.out.size))
  clear HP HX HB hb
  have HP := nHP
  have HX := nHX
  have HB := nHB
  clear nHP nHX nHB
  have x0 := HX.out.cell 0 rfl
  have x1 := HX.out.cell 1 rfl
  have x2 := HX.out.cell 2 rfl
  have x3 := HX.out.cell 3 rfl
  go_wp2_with fail
  clear x0 x1 x2 x3
  refine (perm_Has.calls _ _ _ _ _ _ _ _ _ _ _ _ false _ HP.out.h1 HP.out.g1 HP.out.h2 HP.out.g2 HP.out.h3 HP.out.g3 ex_has2).mono ?_
  rintro e w13 ⟨rfl, hb⟩
  have nHP := Aside0.mk (HP.out.below hb)
  have nHX := Aside0.mk (HX.out.below hb)
  have nHB := Aside0.mk (HB.out.trans (hb.mono HB.out.size))
  clear HP HX HB hb
  have HP := nHP
  have HX := nHX
  have HB := nHB
  clear nHP nHX nHB
  have x0 := HX.out.cell 0 rfl
  have x1 := HX.out.cell 1 rfl
  have x2 := HX.out.cell 2 rfl
  have x3 := HX.out.cell 3 rfl
  go_wp2_with fail
  clear x0 x1 x2 x3
  refine (perm_May.calls 9 _ _ _ _ _ _ _ _ _ _ _ _ _ true _ HP.out.h1 HP.out.g1 HP.out.h2 HP.out.g2 HP.out.h3 HP.out.g3 ex_may).mono ?_
  rintro e w14 ⟨rfl, hb⟩
  have nHP := Aside0.mk (HP.out.below hb)
  have nHX := Aside0.mk (HX.out.below hb)
  have nHB := Aside0.mk (HB.out.trans (hb.mono HB.out.size))
  clear HP HX HB hb
  have HP := nHP
  have HX := nHX
  have HB := nHB
  clear nHP nHX nHB
  clear HP HX
  go_wp2_with fail
  refine (perm_Subset.calls 5 7 true _ ex_sub1).mono ?_
  rintro e w15 ⟨rfl, hb⟩
  have nHB := Aside0.mk (HB.out.trans (hb.below.mono HB.out.size))
  clear HB hb
  have HB := nHB
  clear nHB
  go_wp2_with fail
  refine (perm_Subset.calls 5 6 false _ ex_sub2).mono ?_
  rintro e w16 ⟨rfl, hb⟩
  have nHB := Aside0.mk (HB.out.trans (hb.below.mono HB.out.size))
  clear HB hb
  have HB := nHB
  clear nHB
  go_wp2
  go_ret
  exact ⟨rfl, HB.out⟩
end Go.Proofs.YthldfkjnjcagjaaDoor.P
