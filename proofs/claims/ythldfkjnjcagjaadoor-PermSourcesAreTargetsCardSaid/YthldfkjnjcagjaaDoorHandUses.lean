/- perm.Uses: the loop over the rules, inside it the loop over the table byRule. -/
import Derived.Lib.Hide
import Derived.Test.YthldfkjnjcagjaaDoorHandType
import Derived.Test.YthldfkjnjcagjaaDoorPx3
namespace Go.Proofs.YthldfkjnjcagjaaDoor.P
open Go.RowKit Go.Shelf Go.Lib Go.Proofs.YthldfkjnjcagjaaDoorW.PrintWords Go.Proofs.YthldfkjnjcagjaaDoorW.PrintMore

def byRuleT : List (Int × Int × Int) := [(1, 128, 512), (2, 128, 0), (3, 128, 512), (4, 128, 0), (5, 256, 0)]
def byRuleC : Array Value := #[.int .i64 1, .int .i64 128, .int .i64 512, .int .i64 2, .int .i64 128, .int .i64 0, .int .i64 3, .int .i64 128, .int .i64 512, .int .i64 4, .int .i64 128, .int .i64 0, .int .i64 5, .int .i64 256, .int .i64 0]
/-- The package's table stands in the world. -/
def ByRule (w : World) : Prop := 0 < w.heap.size ∧ ∃ t fr, w.heap[0]? = some (.cells byRuleC t fr)
theorem ByRule.below {w w' : World} (h : ByRule w) (hb : Below w.heap.size w w') : ByRule w' := by
  obtain ⟨h0, t, fr, he⟩ := h
  exact ⟨Nat.lt_of_lt_of_le h0 hb.size, t, fr, (hb.block 0 h0).trans he⟩
def useStep (t : Int) (r : S55) (u : Int) (e : Int × Int × Int) : Int :=
  if e.1 = r.f0 then (if r.f2 = t then bits .or .i64 (if r.f1 = t then bits .or .i64 u e.2.1 else u) e.2.2 else (if r.f1 = t then bits .or .i64 u e.2.1 else u)) else u
def useRule (t : Int) (u : Int) (r : S55) : Int := byRuleT.foldl (useStep t r) u
def usesOf (l1 : List S59) (l2 : List S55) (t : Int) : Int := l2.foldl (useRule t) (bits .and .i64 (rd_T59 l1 t).f1 60)
def perm_Uses.f (_a0_0 : ByteArray) (l0_1 : List S59) (l0_2 : List S55) (_l0_3 : List S33) (a1 : Int) : Option Int := if 0 ≤ a1 ∧ a1 < (l0_1.length : Int) then some (usesOf l0_1 l0_2 a1) else some 0

theorem byRule_at : ∀ j : Nat, j < 5 → ∃ e1 e2 e3 : Int, byRuleT[j]? = some (e1, e2, e3) ∧ ∀ W, Sem.run Tryd.prog (Instr.index 70 (Value.agg byRuleC) (Value.int .i64 (j : Int))) W = .ok (.agg #[.int .i64 e1, .int .i64 e2, .int .i64 e3]) W
  | 0, _ => ⟨1, 128, 512, rfl, fun _ => by kernel_rfl⟩
  | 1, _ => ⟨2, 128, 0, rfl, fun _ => by kernel_rfl⟩
  | 2, _ => ⟨3, 128, 512, rfl, fun _ => by kernel_rfl⟩
  | 3, _ => ⟨4, 128, 0, rfl, fun _ => by kernel_rfl⟩
  | 4, _ => ⟨5, 256, 0, rfl, fun _ => by kernel_rfl⟩
  | _ + 5, h => absurd h (by omega)
theorem foldl_take_succ {α β : Type} (f : β → α → β) (z : β) (l : List α) (j : Nat) (e : α) (h : l[j]? = some e) : (l.take (j + 1)).foldl f z = f ((l.take j).foldl f z) e := by
  rw [List.take_add_one, h, List.foldl_append]
  rfl
theorem one_block (w : World) (o : Obj) : (w.alloc o).heap.size = w.heap.size + 1 ∧ (w.alloc o).heap[w.heap.size]? = some o := by
  show (w.heap.push o).size = w.heap.size + 1 ∧ (w.heap.push o)[w.heap.size]? = some o
  exact ⟨by simp, by rw [Array.getElem?_push, if_pos rfl]⟩
theorem uses_none (a0_0 : ByteArray) (A0_1 : Option Addr) (c0_1 : Nat) (l0_1 : List S59) (A0_2 : Option Addr) (c0_2 : Nat) (l0_2 : List S55) (A0_3 : Option Addr) (c0_3 : Nat) (l0_3 : List S33) (a1 : Int) (w : World) (hr0_1 : Kd.C k59 w A0_1 l0_1.length l0_1) (hc0_1 : l0_1.length ≤ c0_1) (hr0_2 : Kd.C k55 w A0_2 l0_2.length l0_2) (hc0_2 : l0_2.length ≤ c0_2) (hr0_3 : Kd.C k33 w A0_3 l0_3.length l0_3) (hc0_3 : l0_3.length ≤ c0_3) (h : ¬ (0 ≤ a1 ∧ a1 < (l0_1.length : Int))) :
    Calls Tryd.prog 26 #[.agg #[.string a0_0, .slice A0_1 l0_1.length c0_1, .slice A0_2 l0_2.length c0_2, .slice A0_3 l0_3.length c0_3], .int .i64 a1] w fun e w' => e = .returned (.int .i64 0) ∧ Below w.heap.size w w' := by
  have hb0 : Below w.heap.size w (w.alloc (.cells #[.string a0_0, .slice A0_1 l0_1.length c0_1, .slice A0_2 l0_2.length c0_2, .slice A0_3 l0_3.length c0_3] 26)) := (Below.refl _ w).alloc (Nat.le_refl _) _
  have hx : perm_exists.f a0_0 l0_1 l0_2 l0_3 a1 = some false := by
    unfold perm_exists.f
    by_cases h0 : a1 ≥ 0
    · rw [if_pos h0, decide_eq_false (fun z => h ⟨h0, z⟩)]
    · rw [if_neg h0]
  have hcon := perm_exists.calls a0_0 A0_1 c0_1 l0_1 A0_2 c0_2 l0_2 A0_3 c0_3 l0_3 a1 false _ (Kd.C_below hr0_1 hb0) hc0_1 (Kd.C_below hr0_2 hb0) hc0_2 (Kd.C_below hr0_3 hb0) hc0_3 hx
  clear hr0_1 hr0_2 hr0_3
  go_enter Tryd.func26, Tryd.ntmps26
  go_wp2_with fail
  refine hcon.mono ?_
  rintro e w' ⟨rfl, hb'⟩
  go_wp2
  go_ret
  exact ⟨rfl, hb0.trans (hb'.mono hb0.size)⟩
set_option maxRecDepth 100000 in
set_option maxHeartbeats 4000000 in
theorem uses_some (a0_0 : ByteArray) (A0_1 : Option Addr) (c0_1 : Nat) (l0_1 : List S59) (A0_2 : Option Addr) (c0_2 : Nat) (l0_2 : List S55) (A0_3 : Option Addr) (c0_3 : Nat) (l0_3 : List S33) (a1 : Int) (w : World) (hG : ByRule w) (hr0_1 : Kd.C k59 w A0_1 l0_1.length l0_1) (hc0_1 : l0_1.length ≤ c0_1) (hr0_2 : Kd.C k55 w A0_2 l0_2.length l0_2) (hc0_2 : l0_2.length ≤ c0_2) (hr0_3 : Kd.C k33 w A0_3 l0_3.length l0_3) (hc0_3 : l0_3.length ≤ c0_3) (h0 : 0 ≤ a1) (h1 : a1 < (l0_1.length : Int)) :
    Calls Tryd.prog 26 #[.agg #[.string a0_0, .slice A0_1 l0_1.length c0_1, .slice A0_2 l0_2.length c0_2, .slice A0_3 l0_3.length c0_3], .int .i64 a1] w fun e w' => e = .returned (.int .i64 (usesOf l0_1 l0_2 a1)) ∧ Below w.heap.size w w' := by
  have hb0 : Below w.heap.size w (w.alloc (.cells #[.string a0_0, .slice A0_1 l0_1.length c0_1, .slice A0_2 l0_2.length c0_2, .slice A0_3 l0_3.length c0_3] 26)) := (Below.refl _ w).alloc (Nat.le_refl _) _
  have hx : perm_exists.f a0_0 l0_1 l0_2 l0_3 a1 = some true := by
    unfold perm_exists.f
    rw [if_pos h0, decide_eq_true h1]
  have hcon := perm_exists.calls a0_0 A0_1 c0_1 l0_1 A0_2 c0_2 l0_2 A0_3 c0_3 l0_3 a1 true _ (Kd.C_below hr0_1 hb0) hc0_1 (Kd.C_below hr0_2 hb0) hc0_2 (Kd.C_below hr0_3 hb0) hc0_3 hx
  have hlen := hr0_2.2.1
  have HR1 := Aside0.mk hr0_1
  have HR2 := Aside0.mk hr0_2
  have HG := Aside0.mk hG
  clear hr0_1 hr0_2 hr0_3 hG
  go_enter Tryd.func26, Tryd.ntmps26
  go_wp2_with fail
  refine hcon.mono ?_
  rintro e w' ⟨rfl, hb'⟩
  have hbw : Below w.heap.size w w' := hb0.trans (hb'.mono hb0.size)
  have hB0 : w'.heap[w.heap.size]? = some (.cells #[.string a0_0, .slice A0_1 l0_1.length c0_1, .slice A0_2 l0_2.length c0_2, .slice A0_3 l0_3.length c0_3] 26 (0, 0)) := (hb'.block w.heap.size (by rw [(one_block _ _).1]; omega)).trans (one_block _ _).2
  have p1 := block_cell hB0 (i := 1) rfl
  have p2 := block_cell hB0 (i := 2) rfl
  obtain ⟨ad, rfl, q0, q1, q2⟩ := at_T59 (Kd.C_below HR1.out hbw) a1 h0 h1
  have HBW := Aside0.mk hbw
  clear hB0 hbw hb' hb0 hcon hx
  have HB := HBW
  clear HBW
  go_wp2
  go_loopg [5, 24] l0_2.length (fun gg s5 s24 wr => ∃ (i : Nat) (u : Int), i ≤ l0_2.length ∧ l0_2.length - i ≤ gg ∧ s24 = .int .i64 i ∧ s5 = .int .i64 u ∧ Aside0 (u = (l0_2.take i).foldl (useRule a1) (bits .and .i64 (rd_T59 l0_1 a1).f1 60)) ∧ Aside0 (Below w.heap.size w wr))
  case atStart => exact ⟨0, _, Nat.zero_le _, by omega, rfl, rfl, ⟨rfl⟩, HB⟩
  case round =>
    obtain ⟨i, u, hi, hg, rfl, rfl, HU, HW⟩ := hrel
    by_cases hlt : i < l0_2.length
    · have hltz : (i : Int) < (l0_2.length : Int) := by omega
      obtain ⟨ad2, rfl, r0, r1, r2⟩ := at_T55 (Kd.C_below HR2.out HW.out) (i : Int) (by omega) hltz
      have hpos := (HG.out.below HW.out).1
      obtain ⟨gt, gfr, hg0⟩ := (HG.out.below HW.out).2
      generalize hr : rd_T55 l0_2 (i : Int) = rr at r0 r1 r2
      obtain ⟨rk, ra, rb⟩ := rr
      simp only [Int.toNat_natCast] at r0 r1 r2
      have HRR := Aside0.mk hr
      clear hr
      go_wp2_with (refine wpList_load_row rfl 70 _ rfl 0 rfl _ _ _ _ (((show Below wr.heap.size wr _ by repeat (first | exact Below.refl _ _ | refine Below.setCell ?_ (by simp) _ | refine Below.alloc ?_ (by simp) _)).block 0 hpos).trans hg0) Tryd.underlying70 rfl (by kernel_rfl) ?_)
      have hob := one_block wr (.cells #[.int .i64 rk, .int .i64 ra, .int .i64 rb] 55 (0, 0))
      have hbw7 : Below w.heap.size w (wr.alloc (.cells #[.int .i64 rk, .int .i64 ra, .int .i64 rb] 55 (0, 0))) := HW.out.alloc HW.out.size _
      clear r0 r1 r2 hg0 hpos
      generalize wr.alloc (.cells #[.int .i64 rk, .int .i64 ra, .int .i64 rb] 55 (0, 0)) = w7 at hob hbw7 ⊢
      have hb7 := hob.2
      have hs7 : wr.heap.size < w7.heap.size := by omega
      have HW7 := Aside0.mk hbw7
      clear hob hbw7
      generalize wr.heap.size = b7 at hb7 hs7 ⊢
      go_loopg [5, 29] 5 (fun gg s5 s29 w2 => ∃ (j : Nat) (v : Int), j ≤ 5 ∧ 5 - j ≤ gg ∧ s29 = .int .i64 j ∧ s5 = .int .i64 v ∧ Aside0 (v = (byRuleT.take j).foldl (useStep a1 ⟨rk, ra, rb⟩) u) ∧ Aside0 (Below w7.heap.size w7 w2))
      case atStart => exact ⟨0, _, Nat.zero_le _, by omega, rfl, rfl, ⟨rfl⟩, ⟨Below.refl _ _⟩⟩
      case round =>
        obtain ⟨j, v, hj, hg2, rfl, rfl, HV, HW2⟩ := hrel
        by_cases hjl : j < 5
        · have hjz : (j : Int) < 5 := by omega
          have hB := (HW2.out.block b7 hs7).trans hb7
          have c0 := block_cell hB (i := 0) rfl
          have c1 := block_cell hB (i := 1) rfl
          have c2 := block_cell hB (i := 2) rfl
          clear hB
          obtain ⟨e1, e2, e3, he, hix⟩ := byRule_at j hjl
          have HV2 := Aside0.mk (foldl_take_succ (useStep a1 ⟨rk, ra, rb⟩) u byRuleT j _ he)
          clear he
          have step : ∀ x, x = useStep a1 ⟨rk, ra, rb⟩ v (e1, e2, e3) → x = (byRuleT.take (j + 1)).foldl (useStep a1 ⟨rk, ra, rb⟩) u := fun x hx => by rw [HV2.out, ← HV.out]; exact hx
          have ST := Aside0.mk step
          clear step HV HV2
          have hlt7 : b7 < wr.heap.size := Nat.lt_of_lt_of_le hs7 HW2.out.size
          have hne7 : b7 ≠ wr.heap.size := Nat.ne_of_lt hlt7
          by_cases k1 : e1 = rk
          · by_cases k2 : ra = a1
            · by_cases k3 : rb = a1
              · go_wp2
                go_roundg (5 - (j + 1))
                case measure => omega
                case rel => exact ⟨j + 1, _, by omega, by omega, by go_num, rfl, ⟨ST.out _ (by simp [useStep, k1, k2, k3])⟩, ⟨HW2.out.alloc HW2.out.size _⟩⟩
              · go_wp2
                go_roundg (5 - (j + 1))
                case measure => omega
                case rel => exact ⟨j + 1, _, by omega, by omega, by go_num, rfl, ⟨ST.out _ (by simp [useStep, k1, k2, k3])⟩, ⟨HW2.out.alloc HW2.out.size _⟩⟩
            · by_cases k3 : rb = a1
              · go_wp2
                go_roundg (5 - (j + 1))
                case measure => omega
                case rel => exact ⟨j + 1, _, by omega, by omega, by go_num, rfl, ⟨ST.out _ (by simp [useStep, k1, k2, k3])⟩, ⟨HW2.out.alloc HW2.out.size _⟩⟩
              · go_wp2
                go_roundg (5 - (j + 1))
                case measure => omega
                case rel => exact ⟨j + 1, _, by omega, by omega, by go_num, rfl, ⟨ST.out _ (by simp [useStep, k1, k2, k3])⟩, ⟨HW2.out.alloc HW2.out.size _⟩⟩
          · go_wp2
            go_roundg (5 - (j + 1))
            case measure => omega
            case rel => exact ⟨j + 1, _, by omega, by omega, by go_num, rfl, ⟨ST.out _ (by simp [useStep, k1])⟩, ⟨HW2.out.alloc HW2.out.size _⟩⟩
        · have hjz : ¬ (j : Int) < 5 := by omega
          have HJ : Aside0 (j = 5) := ⟨by omega⟩
          go_wp2
          go_roundg (l0_2.length - (i + 1))
          case measure => omega
          case rel =>
            refine ⟨i + 1, _, by omega, by omega, by go_num, rfl, ⟨?_⟩, ⟨HW7.out.trans (HW2.out.mono HW7.out.size)⟩⟩
            have he : l0_2[i]? = some ⟨rk, ra, rb⟩ := by
              have := HRR.out
              unfold rd_T55 at this
              rw [Int.toNat_natCast, List.getD_eq_getElem?_getD, List.getElem?_eq_getElem hlt] at this
              rw [List.getElem?_eq_getElem hlt]
              exact congrArg some this
            rw [foldl_take_succ _ _ _ _ _ he, ← HU.out, HV.out, HJ.out]
            rfl
    · have hltz : ¬ (i : Int) < (l0_2.length : Int) := by omega
      have HI : Aside0 (i = l0_2.length) := ⟨by omega⟩
      go_wp2
      go_ret
      refine ⟨?_, HW.out⟩
      rw [HU.out, HI.out, List.take_length]
      rfl

theorem perm_Uses.calls (a0_0 : ByteArray) (A0_1 : Option Addr) (c0_1 : Nat) (l0_1 : List S59) (A0_2 : Option Addr) (c0_2 : Nat) (l0_2 : List S55) (A0_3 : Option Addr) (c0_3 : Nat) (l0_3 : List S33) (a1 : Int) (r : Int) (w : World) (hG : ByRule w) (hr0_1 : Kd.C k59 w A0_1 l0_1.length l0_1) (hc0_1 : l0_1.length ≤ c0_1) (hr0_2 : Kd.C k55 w A0_2 l0_2.length l0_2) (hc0_2 : l0_2.length ≤ c0_2) (hr0_3 : Kd.C k33 w A0_3 l0_3.length l0_3) (hc0_3 : l0_3.length ≤ c0_3) (h : perm_Uses.f a0_0 l0_1 l0_2 l0_3 a1 = some r) :
    Calls Tryd.prog 26 #[.agg #[.string a0_0, .slice A0_1 l0_1.length c0_1, .slice A0_2 l0_2.length c0_2, .slice A0_3 l0_3.length c0_3], .int .i64 a1] w fun e w' => e = .returned (.int .i64 r) ∧ Below w.heap.size w w' := by
  unfold perm_Uses.f at h
  by_cases hc : 0 ≤ a1 ∧ a1 < (l0_1.length : Int)
  · rw [if_pos hc] at h
    obtain rfl := Option.some.inj h
    exact uses_some a0_0 A0_1 c0_1 l0_1 A0_2 c0_2 l0_2 A0_3 c0_3 l0_3 a1 w hG hr0_1 hc0_1 hr0_2 hc0_2 hr0_3 hc0_3 hc.1 hc.2
  · rw [if_neg hc] at h
    obtain rfl := Option.some.inj h
    exact uses_none a0_0 A0_1 c0_1 l0_1 A0_2 c0_2 l0_2 A0_3 c0_3 l0_3 a1 w hr0_1 hc0_1 hr0_2 hc0_2 hr0_3 hc0_3 hc
end Go.Proofs.YthldfkjnjcagjaaDoor.P
