/- perm.Sources, perm.Targets: perm.distinct with its closures, slices.Sort and slices.Compact. -/
import Derived.Lib.Hide
import Derived.Sort.OwnSortedInts
import Derived.BigQuiet
import Derived.Test.YthldfkjnjcagjaaDoorHandUses
namespace Go.Proofs.YthldfkjnjcagjaaDoor.P
open Go.RowKit Go.Shelf Go.Lib Go.Proofs.YthldfkjnjcagjaaDoorW.PrintWords Go.Proofs.YthldfkjnjcagjaaDoorW.PrintMore

def sortedOf (zs : List Int) : List Int := zs.mergeSort fun x y => decide (x ≤ y)
theorem infoInt : (Tryd.prog.info? 3).map (fun i => (i.zero, i.size, i.bytes)) = some (some (.int .i64 0), 1, 8) := by kernel_rfl
theorem sortedOf_length (zs : List Int) : (sortedOf zs).length = zs.length := List.length_mergeSort zs
theorem compact_le (zs : List Int) : (Lib.compact zs).length ≤ zs.length := by
  unfold Lib.compact Lib.compactUpTo
  rw [List.length_map]
  exact Nat.le_trans (List.length_filter_le _ _) (by rw [List.length_range]; exact Nat.le_refl _)
theorem sort_calls {base : Nat} {w : World} {v : Value} {zs : List Int} (hR : Kd.R (Kd.int .i64) 3 w base (fun _ => True) v zs) (hz : zs.length < 4611686018427387904) :
    Calls Tryd.prog 43 #[v] w fun e w' => e = .returned (.tuple #[]) ∧ Kd.R (Kd.int .i64) 3 w' base (fun _ => True) v (sortedOf zs) ∧ Below base w w' := by
  obtain ⟨hl, ⟨rfl, h0⟩ | ⟨g, cap, cur, rfl, hbase, hb, hn, hcap, hcur, htake⟩⟩ := Kd.own_of_R hR
  · obtain rfl := List.eq_nil_of_length_eq_zero h0
    refine (Tryd.slices_Sort_int_none none 0 w).mono ?_
    rintro e w' ⟨rfl, rfl⟩
    exact ⟨rfl, by simpa [sortedOf] using hR, Below.refl _ _⟩
  · have hH := holds_of_blockI (ss := zs) hb (by rw [Nat.mul_one] at htake; exact htake)
    refine (Tryd.slices_Sort_int g 0 cap zs w hH (Array.getElem?_eq_some_iff.1 hb).1 hz).mono ?_
    rintro e w' ⟨rfl, n, os, rfl⟩
    refine ⟨rfl, ?_, ?_⟩
    · have := ownsRow_sortedI (n := n) (os := os) (ss := zs) (ts := sortedOf zs) (sortedOf_length zs) hbase hb hn hcap hcur
      exact Kd.R_of_own (by rw [sortedOf_length]; exact this) (fun _ _ => trivial)
    · obtain ⟨a, b, c, d, e⟩ := grownBy_sortedI (w := w) (g := g) (n := n) (os := os) (sortedOf zs).toArray
      exact ⟨a, b, c, d, fun k hk => e k (by have := (Array.getElem?_eq_some_iff.1 hb).1; omega) (fun z => by have := Option.some.inj z; omega)⟩
theorem compact_calls {base : Nat} {w : World} {v : Value} {zs : List Int} (hR : Kd.R (Kd.int .i64) 3 w base (fun _ => True) v zs) (hz : zs.length < 4611686018427387904) :
    Calls Tryd.prog 44 #[v] w fun e w' => ∃ v', e = .returned v' ∧ Kd.R (Kd.int .i64) 3 w' base (fun _ => True) v' (Lib.compact zs) ∧ Below base w w' := by
  obtain ⟨hl, ⟨rfl, h0⟩ | ⟨g, cap, cur, rfl, hbase, hb, hn, hcap, hcur, htake⟩⟩ := Kd.own_of_R hR
  · obtain rfl := List.eq_nil_of_length_eq_zero h0
    refine (Tryd.slices_Compact_int_empty none 0 w).mono ?_
    rintro e w' ⟨rfl, rfl⟩
    exact ⟨_, rfl, Kd.R_nil _ _ _ _ _, Below.refl _ _⟩
  · have hH := holds_of_blockI (ss := zs) hb (by rw [Nat.mul_one] at htake; exact htake)
    have hc := compact_le zs
    refine (Tryd.slices_Compact_int g 0 cap zs w hH (by omega) hn).mono ?_
    rintro e w' ⟨rfl, n, rfl⟩
    have hg := heap_sortedI (n := n) (os := #[]) (Lib.compact zs ++ List.replicate (zs.length - (Lib.compact zs).length) 0).toArray hb
    rw [Sort.grow_empty] at hg
    refine ⟨_, rfl, ?_, ?_⟩
    · refine Kd.R_of_own ⟨by simp [encs], .inr ⟨g, cap, _, rfl, hbase, hg, by omega, hcap, by simp [Sort.putCells, hcur], ?_⟩⟩ (fun _ _ => trivial)
      have := take_putCellsI cur (Lib.compact zs ++ List.replicate (zs.length - (Lib.compact zs).length) 0) (by simp; omega)
      have h2 := congrArg (List.take (Lib.compact zs).length) this
      rw [List.take_take, List.map_append, List.take_left' (by simp), Nat.min_eq_left (by simp)] at h2
      rw [Nat.mul_one]
      exact h2
    · obtain ⟨a, b, c, d, e⟩ := grownBy_sortedI (w := w) (g := g) (n := n) (os := #[]) (Lib.compact zs ++ List.replicate (zs.length - (Lib.compact zs).length) 0).toArray
      rw [Sort.grow_empty] at a b c d e
      exact ⟨a, b, c, d, fun k hk => e k (by have := (Array.getElem?_eq_some_iff.1 hb).1; omega) (fun z => by have := Option.some.inj z; omega)⟩

def cells55 (x : S55) : List Value := [.int .i64 x.f0, .int .i64 x.f1, .int .i64 x.f2]
/-- What is asked of the closure of 'distinct': at a rule it hands back a number and whether it counts. -/
def PicksAt (g : Nat) (lb : Array Value) (val : S55 → Int) (is : S55 → Bool) (w : World) : Prop :=
  ∀ (W : World) (x : S55), Below w.heap.size w W → Calls Tryd.prog g (#[.agg (cells55 x).toArray] ++ lb) W fun e w' => e = .returned (.tuple #[.int .i64 (val x), .bool (is x)]) ∧ Below W.heap.size W w'
def selOf (val : S55 → Int) (is : S55 → Bool) (l : List S55) : List Int := (l.filter is).map val
theorem selOf_le (val : S55 → Int) (is : S55 → Bool) (l : List S55) : (selOf val is l).length ≤ l.length := by
  unfold selOf
  rw [List.length_map]
  exact List.length_filter_le _ _
def distinctOf (val : S55 → Int) (is : S55 → Bool) (l : List S55) : List Int := Lib.compact (sortedOf (selOf val is l))
theorem selOf_succ {val : S55 → Int} {is : S55 → Bool} {l : List S55} {i : Nat} {x : S55} (h : l[i]? = some x) : selOf val is (l.take (i + 1)) = selOf val is (l.take i) ++ (if is x then [val x] else []) := by
  unfold selOf
  rw [List.take_add_one, h, List.filter_append, List.map_append]
  congr 1
  show List.map val (List.filter is [x]) = _
  cases hx : is x <;> simp [List.filter, hx]

set_option maxRecDepth 100000 in
set_option maxHeartbeats 2000000 in
theorem distinct_calls (A : Option Addr) (c : Nat) (l : List S55) (g : Nat) (lb : Array Value) (val : S55 → Int) (is : S55 → Bool) (w : World) (hr : Kd.C k55 w A l.length l) (hl : l.length ≤ 1000) (eg : ∀ args w, (callFunc g args).run Tryd.prog w = .ok (.enter g args) w) (hp : PicksAt g lb val is w) :
    Calls Tryd.prog 38 #[.slice A l.length c, .func (.func g) #[] lb] w fun e w' => ∃ v, e = .returned v ∧ Kd.R (Kd.int .i64) 3 w' w.heap.size (fun _ => True) v (distinctOf val is l) ∧ Below w.heap.size w w' := by
  have HR := Aside0.mk hr
  have HP := Aside0.mk hp
  clear hr hp
  go_enter Tryd.func38, Tryd.ntmps38
  go_wp2
  go_loopg [5, 12] l.length (fun gg s5 s12 wr => ∃ i : Nat, i ≤ l.length ∧ l.length - i ≤ gg ∧ s12 = .int .i64 i ∧ Aside0 (Kd.R (Kd.int .i64) 3 wr w.heap.size (fun _ => True) s5 (selOf val is (l.take i))) ∧ Aside0 (Below w.heap.size w wr))
  case atStart => exact ⟨0, Nat.zero_le _, by omega, rfl, ⟨Kd.R_nil _ _ _ _ _⟩, ⟨Below.refl _ _⟩⟩
  case round =>
    obtain ⟨i, hi, hg, rfl, HO, HB⟩ := hrel
    by_cases hlt : i < l.length
    · have hltz : (i : Int) < (l.length : Int) := by omega
      obtain ⟨ad2, rfl, r0, r1, r2⟩ := at_T55 (Kd.C_below HR.out HB.out) (i : Int) (by omega) hltz
      have hget : l[i]? = some (rd_T55 l (i : Int)) := by
        unfold rd_T55
        rw [Int.toNat_natCast, List.getD_eq_getElem?_getD, List.getElem?_eq_getElem hlt]
        rfl
      generalize rd_T55 l (i : Int) = rr at r0 r1 r2 hget
      have hb1 : Below w.heap.size w (wr.alloc (.cells #[.int .i64 rr.f0, .int .i64 rr.f1, .int .i64 rr.f2] 55 (0, 0))) := HB.out.alloc HB.out.size _
      have hcall := HP.out _ rr hb1
      have hsel := selOf_succ (val := val) (is := is) hget
      have HSEL := Aside0.mk hsel
      have hO1 := Kd.R_alloc HO.out (.cells #[.int .i64 rr.f0, .int .i64 rr.f1, .int .i64 rr.f2] 55 (0, 0))
      have HO1 := Aside0.mk hO1
      have HB1 := Aside0.mk hb1
      clear hsel hget hO1 hb1
      obtain ⟨rk, ra, rb⟩ := rr
      simp only [Int.toNat_natCast] at r0 r1 r2
      have hcall' : Calls Tryd.prog g (#[.agg #[.int .i64 rk, .int .i64 ra, .int .i64 rb]] ++ lb) (wr.alloc (.cells #[.int .i64 rk, .int .i64 ra, .int .i64 rb] 55 (0, 0))) fun e w' => e = .returned (.tuple #[.int .i64 (val ⟨rk, ra, rb⟩), .bool (is ⟨rk, ra, rb⟩)]) ∧ Below (wr.alloc (.cells #[.int .i64 rk, .int .i64 ra, .int .i64 rb] 55 (0, 0))).heap.size (wr.alloc (.cells #[.int .i64 rk, .int .i64 ra, .int .i64 rb] 55 (0, 0))) w' := hcall
      clear hcall
      go_wp2_with fail
      refine hcall'.mono ?_
      rintro e w2 ⟨rfl, hb2⟩
      have HO2 := Aside0.mk (Kd.R_below HO1.out hb2)
      have HB2 := Aside0.mk (HB1.out.trans (hb2.mono HB1.out.size))
      have HL := Aside0.mk (Nat.le_trans (selOf_le val is (l.take i)) (Nat.le_trans (by rw [List.length_take]; omega) hl))
      clear hcall' hb2 HO1 HB1 HO HB
      cases hq : is ⟨rk, ra, rb⟩ with
      | true =>
        have HQ := Aside0.mk hq
        clear hq
        go_wp2_with (first | ((with_reducible refine gate_builtin (b := .append) (xs := #[.tmp 23, .tmp 25]) rfl ?_); at_builtin; refine Kd.R_append (Kd.int .i64) (w0 := w) w.heap.size rfl (.tmp 23) (.tmp 25) 40 3 (.int .i64 0) 8 rfl Tryd.underlying40 infoInt rfl (by decide) (by omega) u5 (selOf val is (l.take i)) (val ⟨rk, ra, rb⟩) [.int .i64 (val ⟨rk, ra, rb⟩)] (fun _ => True) (fun _ => False) rfl rfl ?aP (fun _ hk => hk.elim) ?aF ?aO ?aB ?aS ?aL ?_; (case aP => exact rfl); (case aF => exact fun _ _ => trivial); (case aO => exact HO2.out); (case aB => exact HB2.out); (case aS => exact HB2.out.size); (case aL => have := HL.out; omega); intro v1 w3 ho hb hg hat; have HO3 := Aside0.mk ho; have HB3 := Aside0.mk hb; clear ho hb hg hat))
        go_roundg (l.length - (i + 1))
        case measure => omega
        case rel =>
          refine ⟨i + 1, by omega, by omega, by go_num, ⟨?_⟩, HB3⟩
          rw [HSEL.out, HQ.out]
          exact HO3.out
      | false =>
        have HQ := Aside0.mk hq
        clear hq
        go_wp2
        go_roundg (l.length - (i + 1))
        case measure => omega
        case rel =>
          refine ⟨i + 1, by omega, by omega, by go_num, ⟨?_⟩, HB2⟩
          rw [HSEL.out, HQ.out, if_neg (by simp), List.append_nil]
          exact HO2.out
    · have hltz : ¬ (i : Int) < (l.length : Int) := by omega
      have hii : i = l.length := by omega
      have HL := Aside0.mk (Nat.le_trans (selOf_le val is l) hl)
      have hO := HO.out
      rw [hii, List.take_length] at hO
      have HO1 := Aside0.mk hO
      have HZ := Aside0.mk (show (selOf val is l).length < 4611686018427387904 by have := HL.out; omega)
      clear hii hO HO HL
      go_wp2_with fail
      refine (sort_calls HO1.out HZ.out).mono ?_
      rintro e w2 ⟨rfl, hO2, hb2⟩
      have HO2 := Aside0.mk hO2
      have HB2 := Aside0.mk (HB.out.trans hb2)
      clear hO2 hb2 HO1 HB
      go_wp2_with fail
      refine (compact_calls HO2.out (by rw [sortedOf_length]; exact HZ.out)).mono ?_
      rintro e w3 ⟨v3, rfl, hO3, hb3⟩
      have HO3 := Aside0.mk hO3
      have HB3 := Aside0.mk (HB2.out.trans hb3)
      clear hO3 hb3 HO2 HB2
      go_wp2
      go_ret
      exact ⟨_, rfl, HO3.out, HB3.out⟩

def srcIs (kind b : Int) (x : S55) : Bool := x.f0 == kind && x.f2 == b
def tgtIs (kind a : Int) (x : S55) : Bool := x.f0 == kind && x.f1 == a
theorem sources1_picks (kind b : Int) (B C : Nat) (w : World) (hB : B < w.heap.size) (hC : C < w.heap.size) (hk : w.cell? ⟨B, 0, none⟩ = some (.int .i64 kind)) (hb : w.cell? ⟨C, 0, none⟩ = some (.int .i64 b)) :
    PicksAt 39 #[.pointer (some ⟨B, 0, none⟩), .pointer (some ⟨C, 0, none⟩)] (fun x => x.f1) (srcIs kind b) w := fun W x hbW => by
  have hc1 : W.cell? ⟨B, 0, none⟩ = some (.int .i64 kind) := (hbW.cell (p := ⟨B, 0, none⟩) hB).trans hk
  have hc2 : W.cell? ⟨C, 0, none⟩ = some (.int .i64 b) := (hbW.cell (p := ⟨C, 0, none⟩) hC).trans hb
  have hBW : B < W.heap.size := Nat.lt_of_lt_of_le hB hbW.size
  have hCW : C < W.heap.size := Nat.lt_of_lt_of_le hC hbW.size
  obtain ⟨rk, ra, rb⟩ := x
  show Calls Tryd.prog 39 #[.agg #[.int .i64 rk, .int .i64 ra, .int .i64 rb], .pointer (some ⟨B, 0, none⟩), .pointer (some ⟨C, 0, none⟩)] W _
  clear hB hC hk hb hbW
  go_enter Tryd.func39, Tryd.ntmps39
  go_wp2
  have hob := one_block W (.cells #[.int .i64 rk, .int .i64 ra, .int .i64 rb] 55 (0, 0))
  have hbl : Below W.heap.size W (W.alloc (.cells #[.int .i64 rk, .int .i64 ra, .int .i64 rb] 55 (0, 0))) := (Below.refl _ W).alloc (Nat.le_refl _) _
  have m1 := (hbl.cell (p := ⟨B, 0, none⟩) hBW).trans hc1
  have m2 := (hbl.cell (p := ⟨C, 0, none⟩) hCW).trans hc2
  generalize W.alloc (.cells #[.int .i64 rk, .int .i64 ra, .int .i64 rb] 55 (0, 0)) = W0 at hob hbl m1 m2 ⊢
  have n0 : W0.cell? ⟨W.heap.size, 0, none⟩ = some (.int .i64 rk) := block_cell hob.2 rfl
  have n1 : W0.cell? ⟨W.heap.size, 1, none⟩ = some (.int .i64 ra) := block_cell hob.2 rfl
  have n2 : W0.cell? ⟨W.heap.size, 2, none⟩ = some (.int .i64 rb) := block_cell hob.2 rfl
  have HBL := Aside0.mk hbl
  clear hob hbl hc1 hc2
  cases k1 : (rk == kind) with
  | true =>
    cases k2 : (rb == b) with
    | true =>
      go_quiet (fail)
      go_wp2
      exact bodyPost_ret (v := .tuple #[.int .i64 ra, .bool true]) (by simp [results, Tryd.results39, go_sem]) rfl ⟨by rw [show srcIs kind b ⟨rk, ra, rb⟩ = true from by unfold srcIs; simp only [k1, k2]; rfl], by apply pw_below_drewN; exact HBL.out⟩
    | false =>
      go_quiet (fail)
      go_wp2
      exact bodyPost_ret (v := .tuple #[.int .i64 ra, .bool false]) (by simp [results, Tryd.results39, go_sem]) rfl ⟨by rw [show srcIs kind b ⟨rk, ra, rb⟩ = false from by unfold srcIs; simp only [k1, k2]; rfl], by apply pw_below_drewN; exact HBL.out⟩
  | false =>
    go_quiet (fail)
    go_wp2
    exact bodyPost_ret (v := .tuple #[.int .i64 ra, .bool false]) (by simp [results, Tryd.results39, go_sem]) rfl ⟨by rw [show srcIs kind b ⟨rk, ra, rb⟩ = false from by unfold srcIs; simp only [k1]; rfl], by apply pw_below_drewN; exact HBL.out⟩
theorem targets1_picks (kind b : Int) (B C : Nat) (w : World) (hB : B < w.heap.size) (hC : C < w.heap.size) (hk : w.cell? ⟨B, 0, none⟩ = some (.int .i64 kind)) (hb : w.cell? ⟨C, 0, none⟩ = some (.int .i64 b)) :
    PicksAt 41 #[.pointer (some ⟨B, 0, none⟩), .pointer (some ⟨C, 0, none⟩)] (fun x => x.f2) (tgtIs kind b) w := fun W x hbW => by
  have hc1 : W.cell? ⟨B, 0, none⟩ = some (.int .i64 kind) := (hbW.cell (p := ⟨B, 0, none⟩) hB).trans hk
  have hc2 : W.cell? ⟨C, 0, none⟩ = some (.int .i64 b) := (hbW.cell (p := ⟨C, 0, none⟩) hC).trans hb
  have hBW : B < W.heap.size := Nat.lt_of_lt_of_le hB hbW.size
  have hCW : C < W.heap.size := Nat.lt_of_lt_of_le hC hbW.size
  obtain ⟨rk, ra, rb⟩ := x
  show Calls Tryd.prog 41 #[.agg #[.int .i64 rk, .int .i64 ra, .int .i64 rb], .pointer (some ⟨B, 0, none⟩), .pointer (some ⟨C, 0, none⟩)] W _
  clear hB hC hk hb hbW
  go_enter Tryd.func41, Tryd.ntmps41
  go_wp2
  have hob := one_block W (.cells #[.int .i64 rk, .int .i64 ra, .int .i64 rb] 55 (0, 0))
  have hbl : Below W.heap.size W (W.alloc (.cells #[.int .i64 rk, .int .i64 ra, .int .i64 rb] 55 (0, 0))) := (Below.refl _ W).alloc (Nat.le_refl _) _
  have m1 := (hbl.cell (p := ⟨B, 0, none⟩) hBW).trans hc1
  have m2 := (hbl.cell (p := ⟨C, 0, none⟩) hCW).trans hc2
  generalize W.alloc (.cells #[.int .i64 rk, .int .i64 ra, .int .i64 rb] 55 (0, 0)) = W0 at hob hbl m1 m2 ⊢
  have n0 : W0.cell? ⟨W.heap.size, 0, none⟩ = some (.int .i64 rk) := block_cell hob.2 rfl
  have n1 : W0.cell? ⟨W.heap.size, 1, none⟩ = some (.int .i64 ra) := block_cell hob.2 rfl
  have n2 : W0.cell? ⟨W.heap.size, 2, none⟩ = some (.int .i64 rb) := block_cell hob.2 rfl
  have HBL := Aside0.mk hbl
  clear hob hbl hc1 hc2
  cases k1 : (rk == kind) with
  | true =>
    cases k2 : (ra == b) with
    | true =>
      go_quiet (fail)
      go_wp2
      exact bodyPost_ret (v := .tuple #[.int .i64 rb, .bool true]) (by simp [results, Tryd.results41, go_sem]) rfl ⟨by rw [show tgtIs kind b ⟨rk, ra, rb⟩ = true from by unfold tgtIs; simp only [k1, k2]; rfl], by apply pw_below_drewN; exact HBL.out⟩
    | false =>
      go_quiet (fail)
      go_wp2
      exact bodyPost_ret (v := .tuple #[.int .i64 rb, .bool false]) (by simp [results, Tryd.results41, go_sem]) rfl ⟨by rw [show tgtIs kind b ⟨rk, ra, rb⟩ = false from by unfold tgtIs; simp only [k1, k2]; rfl], by apply pw_below_drewN; exact HBL.out⟩
  | false =>
    go_quiet (fail)
    go_wp2
    exact bodyPost_ret (v := .tuple #[.int .i64 rb, .bool false]) (by simp [results, Tryd.results41, go_sem]) rfl ⟨by rw [show tgtIs kind b ⟨rk, ra, rb⟩ = false from by unfold tgtIs; simp only [k1]; rfl], by apply pw_below_drewN; exact HBL.out⟩
def perm_Sources.f (_a0_0 : ByteArray) (_l0_1 : List S59) (l0_2 : List S55) (_l0_3 : List S33) (a1 : Int) (a2 : Int) : Option (List Int) := if l0_2.length ≤ 1000 then some (distinctOf (fun x => x.f1) (srcIs a1 a2) l0_2) else none
theorem perm_Sources.calls (a0_0 : ByteArray) (A0_1 : Option Addr) (c0_1 : Nat) (l0_1 : List S59) (A0_2 : Option Addr) (c0_2 : Nat) (l0_2 : List S55) (A0_3 : Option Addr) (c0_3 : Nat) (l0_3 : List S33) (a1 : Int) (a2 : Int) (r : List Int) (w : World) (_hr0_1 : Kd.C k59 w A0_1 l0_1.length l0_1) (_hc0_1 : l0_1.length ≤ c0_1) (hr0_2 : Kd.C k55 w A0_2 l0_2.length l0_2) (_hc0_2 : l0_2.length ≤ c0_2) (_hr0_3 : Kd.C k33 w A0_3 l0_3.length l0_3) (_hc0_3 : l0_3.length ≤ c0_3) (h : perm_Sources.f a0_0 l0_1 l0_2 l0_3 a1 a2 = some r) :
    Calls Tryd.prog 20 #[.agg #[.string a0_0, .slice A0_1 l0_1.length c0_1, .slice A0_2 l0_2.length c0_2, .slice A0_3 l0_3.length c0_3], .int .i64 a1, .int .i64 a2] w fun e w' => ∃ v0_ : Value, e = .returned v0_ ∧ Kd.R (Kd.int .i64) 3 w' w.heap.size (fun _ => True) v0_ r ∧ Below w.heap.size w w' := by
  unfold perm_Sources.f at h
  by_cases hl : l0_2.length ≤ 1000
  · rw [if_pos hl] at h
    obtain rfl := Option.some.inj h
    have eg : ∀ args w, (callFunc 39 args).run Tryd.prog w = .ok (.enter 39 args) w := enters_of Tryd.func39 (by kernel_rfl) rfl
    have h3 := three_blocks w (.cells #[.string a0_0, .slice A0_1 l0_1.length c0_1, .slice A0_2 l0_2.length c0_2, .slice A0_3 l0_3.length c0_3] 26) (.cells #[.int .i64 a1] 3) (.cells #[.int .i64 a2] 3)
    have hb0 : Below w.heap.size w (((w.alloc (.cells #[.string a0_0, .slice A0_1 l0_1.length c0_1, .slice A0_2 l0_2.length c0_2, .slice A0_3 l0_3.length c0_3] 26)).alloc (.cells #[.int .i64 a1] 3)).alloc (.cells #[.int .i64 a2] 3)) :=
      (fun h2 => h2.alloc h2.size _) (((Below.refl _ w).alloc (Nat.le_refl _) _).alloc (by simp) _)
    have hcon := distinct_calls A0_2 c0_2 l0_2 39 #[.pointer (some ⟨w.heap.size + 1, 0, none⟩), .pointer (some ⟨w.heap.size + 1 + 1, 0, none⟩)] (fun x => x.f1) (srcIs a1 a2) _ (Kd.C_below hr0_2 hb0) hl eg (sources1_picks a1 a2 _ _ _ (by omega) (by omega) (block_cell h3.2.2.1 rfl) (block_cell h3.2.2.2 rfl))
    clear hr0_2 eg h3
    have HB0 := Aside0.mk hb0
    clear hb0
    go_enter Tryd.func20, Tryd.ntmps20
    go_wp2_with fail
    refine hcon.mono ?_
    rintro e w2 ⟨v, rfl, hR, hb⟩
    have HR2 := Aside0.mk (Kd.R_lower hR HB0.out.size)
    have HB2 := Aside0.mk (HB0.out.trans (hb.mono HB0.out.size))
    clear hR hb hcon HB0
    go_wp2
    go_ret
    exact ⟨_, rfl, HR2.out, HB2.out⟩
  · rw [if_neg hl] at h
    cases h
def perm_Targets.f (_a0_0 : ByteArray) (_l0_1 : List S59) (l0_2 : List S55) (_l0_3 : List S33) (a1 : Int) (a2 : Int) : Option (List Int) := if l0_2.length ≤ 1000 then some (distinctOf (fun x => x.f2) (tgtIs a1 a2) l0_2) else none
theorem perm_Targets.calls (a0_0 : ByteArray) (A0_1 : Option Addr) (c0_1 : Nat) (l0_1 : List S59) (A0_2 : Option Addr) (c0_2 : Nat) (l0_2 : List S55) (A0_3 : Option Addr) (c0_3 : Nat) (l0_3 : List S33) (a1 : Int) (a2 : Int) (r : List Int) (w : World) (_hr0_1 : Kd.C k59 w A0_1 l0_1.length l0_1) (_hc0_1 : l0_1.length ≤ c0_1) (hr0_2 : Kd.C k55 w A0_2 l0_2.length l0_2) (_hc0_2 : l0_2.length ≤ c0_2) (_hr0_3 : Kd.C k33 w A0_3 l0_3.length l0_3) (_hc0_3 : l0_3.length ≤ c0_3) (h : perm_Targets.f a0_0 l0_1 l0_2 l0_3 a1 a2 = some r) :
    Calls Tryd.prog 22 #[.agg #[.string a0_0, .slice A0_1 l0_1.length c0_1, .slice A0_2 l0_2.length c0_2, .slice A0_3 l0_3.length c0_3], .int .i64 a1, .int .i64 a2] w fun e w' => ∃ v0_ : Value, e = .returned v0_ ∧ Kd.R (Kd.int .i64) 3 w' w.heap.size (fun _ => True) v0_ r ∧ Below w.heap.size w w' := by
  unfold perm_Targets.f at h
  by_cases hl : l0_2.length ≤ 1000
  · rw [if_pos hl] at h
    obtain rfl := Option.some.inj h
    have eg : ∀ args w, (callFunc 41 args).run Tryd.prog w = .ok (.enter 41 args) w := enters_of Tryd.func41 (by kernel_rfl) rfl
    have h3 := three_blocks w (.cells #[.string a0_0, .slice A0_1 l0_1.length c0_1, .slice A0_2 l0_2.length c0_2, .slice A0_3 l0_3.length c0_3] 26) (.cells #[.int .i64 a1] 3) (.cells #[.int .i64 a2] 3)
    have hb0 : Below w.heap.size w (((w.alloc (.cells #[.string a0_0, .slice A0_1 l0_1.length c0_1, .slice A0_2 l0_2.length c0_2, .slice A0_3 l0_3.length c0_3] 26)).alloc (.cells #[.int .i64 a1] 3)).alloc (.cells #[.int .i64 a2] 3)) :=
      (fun h2 => h2.alloc h2.size _) (((Below.refl _ w).alloc (Nat.le_refl _) _).alloc (by simp) _)
    have hcon := distinct_calls A0_2 c0_2 l0_2 41 #[.pointer (some ⟨w.heap.size + 1, 0, none⟩), .pointer (some ⟨w.heap.size + 1 + 1, 0, none⟩)] (fun x => x.f2) (tgtIs a1 a2) _ (Kd.C_below hr0_2 hb0) hl eg (targets1_picks a1 a2 _ _ _ (by omega) (by omega) (block_cell h3.2.2.1 rfl) (block_cell h3.2.2.2 rfl))
    clear hr0_2 eg h3
    have HB0 := Aside0.mk hb0
    clear hb0
    go_enter Tryd.func22, Tryd.ntmps22
    go_wp2_with fail
    refine hcon.mono ?_
    rintro e w2 ⟨v, rfl, hR, hb⟩
    have HR2 := Aside0.mk (Kd.R_lower hR HB0.out.size)
    have HB2 := Aside0.mk (HB0.out.trans (hb.mono HB0.out.size))
    clear hR hb hcon HB0
    go_wp2
    go_ret
    exact ⟨_, rfl, HR2.out, HB2.out⟩
  · rw [if_neg hl] at h
    cases h
end Go.Proofs.YthldfkjnjcagjaaDoor.P
