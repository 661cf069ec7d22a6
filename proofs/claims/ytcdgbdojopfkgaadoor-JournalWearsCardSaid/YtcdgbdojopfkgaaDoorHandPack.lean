/- sector.Pack: the iterator 'sectors' and the loop over it. -/
import Derived.RangeFuncBox
import Derived.RangeFuncNested
import Derived.RangeFuncBound
import Derived.RangeFuncCalls
import Derived.RangeFuncLeaves
import Derived.Shelf.Abstract
import Derived.Shelf.RegionOpen
import Derived.WalkKit
import Derived.OwnWalkIn
import Derived.TacticsInMore
import Derived.LoopNIn
import Derived.LoopIn
import Derived.Maps.AppendAt
import Derived.Outline
import Derived.Lib.Hide
import Derived.Deep.RegionHeld3
import Derived.Test.YtcdgbdojopfkgaaDoorPutPure
import Derived.Test.YtcdgbdojopfkgaaDoorPx3
namespace Go.Proofs.YtcdgbdojopfkgaaDoor.P
open Go.RowKit Go.Shelf Go.Proofs.YtcdgbdojopfkgaaDoorW.PrintWords Go.Proofs.YtcdgbdojopfkgaaDoorW.PrintMore
attribute [local go_sem] Oper.semAt_some max2_int min2_int max_two min_two

/-- How many parts a record of so many bytes has (up to 8000). -/
def cnt (n : Nat) : Nat := if n = 0 then 1 else (n + 43) / 44
def restOf (record : ByteArray) (i : Nat) : ByteArray := record.extract (i * 44) record.size
def textOf (record : ByteArray) (i : Nat) : ByteArray := (restOf record i).extract 0 (min 44 (restOf record i).size)
def secNums (number : Int) (record : ByteArray) (i : Nat) : List Int :=
  le64 number ++ le16 i ++ le16 (restOf record i).size ++ bytesOf (textOf record i) ++ List.replicate (44 - (textOf record i).size) 0 ++ le64 number
def secOf (number : Int) (record : ByteArray) (i : Nat) : ByteArray := strOfNums (secNums number record i)

theorem count_eq (n : Nat) (h : n ≤ 8000) : sector_Count.f (n : Int) = some ((cnt n : Nat) : Int) := by
  unfold sector_Count.f
  rw [if_neg (by omega), if_neg (by omega)]
  have e1 : wrap64 ((n : Int) + 44) = (n : Int) + 44 := by unfold wrap64; omega
  have e2 : wrap64 ((n : Int) + 44 - 1) = (n : Int) + 43 := by unfold wrap64; omega
  have e3 : wrap64 (Int.tdiv ((n : Int) + 43) 44) = ((n : Int) + 43) / 44 := by
    rw [Int.tdiv_eq_ediv_of_nonneg (by omega)]; unfold wrap64; omega
  rw [e1, e2, e3]
  congr 1
  unfold mx cnt
  split
  · split <;> omega
  · split <;> omega

theorem sec_make : ∀ w : World, (Instr.makeSlice 54 (.int .i64 0) (.int .i64 64)).run Tryd.prog w = .ok (.slice (some ⟨w.heap.size, 0, none⟩) 0 64) (w.alloc (.cells (Array.replicate 64 (.int .u8 0)) 5)) := fun _ => by kernel_rfl

theorem cnt_le {n : Nat} (h : n ≤ 8000) : cnt n ≤ 182 := by unfold cnt; split <;> omega
theorem cnt_lt {n k : Nat} (h : k < cnt n) : 44 * k ≤ n := by unfold cnt at h; split at h <;> omega

/-- put, at a row of the caller's own. -/
theorem put64_own (w0 w : World) (u : Value) (l : List Int) (n : Int) (hl : l.length + 8 ≤ 140737488355328) (hB : Below w0.heap.size w0 w) (ho : Kd.R (Kd.int .u8) 5 w w0.heap.size (fun _ => True) u l) :
    Calls Tryd.prog 74 #[u, .int .u64 n, .int .i64 8] w fun e w' => ∃ v, e = .returned v ∧ Kd.R (Kd.int .u8) 5 w' w0.heap.size (fun _ => True) v (l ++ le64 n) ∧ Below w0.heap.size w0 w' := by
  refine (sector_put_uint64.calls 9 _ u l n 8 _ w0 w hB ho (put64_eq (Nat.le_refl _) l n hl)).mono ?_
  rintro e w' ⟨v, rfl, hR, hb, _⟩
  exact ⟨v, rfl, Kd.R_mono hR (fun _ _ => trivial), hb⟩
theorem put16_own (w0 w : World) (u : Value) (l : List Int) (n : Int) (hl : l.length + 2 ≤ 140737488355328) (hB : Below w0.heap.size w0 w) (ho : Kd.R (Kd.int .u8) 5 w w0.heap.size (fun _ => True) u l) :
    Calls Tryd.prog 75 #[u, .int .u16 n, .int .i64 2] w fun e w' => ∃ v, e = .returned v ∧ Kd.R (Kd.int .u8) 5 w' w0.heap.size (fun _ => True) v (l ++ le16 n) ∧ Below w0.heap.size w0 w' := by
  refine (sector_put_uint16.calls 3 _ u l n 2 _ w0 w hB ho (put16_eq (Nat.le_refl _) l n hl)).mono ?_
  rintro e w' ⟨v, rfl, hR, hb, _⟩
  exact ⟨v, rfl, Kd.R_mono hR (fun _ _ => trivial), hb⟩

theorem range_prefix {α : Type} (f : Nat → α) {a b : Nat} (h : a ≤ b) : (List.range a).map f <+: (List.range b).map f := by
  have e : List.range a = (List.range b).take a := by rw [List.take_range, Nat.min_eq_left h]
  rw [e, List.map_take]
  exact List.take_prefix _ _
theorem fresh_row (w : World) (base c : Nat) (hb : base ≤ w.heap.size) (hc : c ≤ maxLen) : Kd.R (Kd.int .u8) 5 (w.alloc (.cells (Array.replicate c (.int .u8 0)) 5)) base (fun _ => True) (.slice (some ⟨w.heap.size, 0, none⟩) 0 c) [] := by
  refine Kd.R_of_own (enc := Value.int .u8) (h1 := fun _ => rfl) ?_ (fun _ _ => trivial)
  exact ⟨rfl, .inr ⟨w.heap.size, c, _, rfl, hb, World.alloc_heap_new w _, Nat.zero_le _, hc, by simp, by simp [encs]⟩⟩

/-- What a round keeps for the iterator: its two boxes. -/
structure KeepsTwo (a b : Nat) (W W' : World) : Prop where
  size : W.heap.size ≤ W'.heap.size
  one : a < W.heap.size → W'.heap[a]? = W.heap[a]?
  two : b < W.heap.size → W'.heap[b]? = W.heap[b]?
theorem KeepsTwo.trans {a b : Nat} {A B C : World} (h : KeepsTwo a b A B) (k : KeepsTwo a b B C) : KeepsTwo a b A C :=
  ⟨Nat.le_trans h.size k.size, fun hl => (k.one (by have := h.size; omega)).trans (h.one hl), fun hl => (k.two (by have := h.size; omega)).trans (h.two hl)⟩
theorem keepsTwo_b {a b : Nat} {w : World} (ha : a < w.heap.size) (hb : b < w.heap.size) (W : World) (l : Nat) (o o' : Obj) (hl : w.heap.size ≤ l) (_ : W.heap[l]? = some o) (_ : o.isCells = false) (_ : o.isWalk = false) : KeepsTwo a b W (W.putObj l o') :=
  ⟨(grownBy_putObj' W l o').size, fun _ => World.putObj_heap_other (by omega), fun _ => World.putObj_heap_other (by omega)⟩
theorem cell_of_heap_eq {W W' : World} {a : Nat} (h : W'.heap[a]? = W.heap[a]?) (j : Nat) : W'.cell? ⟨a, j, none⟩ = W.cell? ⟨a, j, none⟩ := by simp [World.cell?, h]

/-- 'out = append(out, x)' into a box: the row lies beyond n₀, the box B may lie below. -/
theorem boxed_append {W w1 : World} {n₀ B b0 : Nat} {t e : TypeId} {size : Nat} {v v' : Value} {k m : Nat} {xs ys : List Value} {tmp : Obj}
    (hv : Boxed W B t v) (hte : t ≠ e) (hrow : W.ownsRow n₀ e size v k xs) (hb0 : b0 ≤ W.heap.size) (hB : b0 ≤ B) (hbn : b0 ≤ n₀)
    (hown' : w1.ownsRow n₀ e size v' m ys) (hgrow : (W.alloc tmp).grownBy w1 v.ownBlock) :
    Boxed w1 B t v ∧ Boxed (w1.setCell ⟨B, 0, none⟩ v') B t v' ∧ (w1.setCell ⟨B, 0, none⟩ v').ownsRow n₀ e size v' m ys ∧ KeepsOthers W (w1.setCell ⟨B, 0, none⟩ v') ∧ Below b0 W (w1.setCell ⟨B, 0, none⟩ v') ∧
      ∀ j, j < n₀ → j ≠ B → j < W.heap.size → (w1.setCell ⟨B, 0, none⟩ v').heap[j]? = W.heap[j]? := by
  have hv1 : Boxed w1 B t v := (hv.alloc tmp).kept hgrow (hv.not_row hte hrow)
  have hob : ∀ j, v.ownBlock = some j → n₀ ≤ j := fun j ej => own_base hrow j ej
  refine ⟨hv1, hv1.set v', hown'.kept (grownBy_setCell' w1 B v') (.inr (hv1.not_row hte hown').symm), ?_, ?_, ?_⟩
  · refine ((KeepsOthers.alloc W tmp).trans (KeepsOthers.of_grownBy hgrow fun j o ej hj => ?_)).trans (KeepsOthers.setCell _ _ _)
    rcases (hrow.alloc tmp).2 with ⟨rfl, _⟩ | ⟨g, cap, cur, rfl, _, hgb, _⟩
    · simp [Value.ownBlock] at ej
    · obtain rfl : g = j := by simpa [Value.ownBlock] using ej
      rw [hgb] at hj; cases hj; rfl
  · exact (((Below.refl b0 W).alloc hb0 tmp).grown hgrow (by simp; omega) fun j ej => by have := hob j ej; omega).setCell (p := ⟨B, 0, none⟩) hB v'
  · intro j hj hjB hjW
    have e1 := Below.heap_setCell w1 ⟨B, 0, none⟩ v' j hjB
    have e2 := hgrow.block j (by simp; omega) (fun e => by have := hob j e.symm; omega)
    have e3 := Below.heap_alloc W tmp j hjW
    exact e1.trans (e2.trans e3)

set_option maxRecDepth 100000 in
set_option maxHeartbeats 4000000 in
/-- The iterator. -/
theorem sec1_in (n : Nat) (hn : 1 ≤ n) (l Br Bn n₀ : Nat) (number : Int) (record : ByteArray) (h1 : 1 ≤ number) (h2 : number ≤ 4611686018427387904) (hr : record.size ≤ 8000) (hBr : Br < n₀) (hBn : Bn < n₀)
    (J Jx : List ByteArray → World → Prop)
    (hY : ∀ pre x W, J pre W → pre.length < cnt record.size → YieldAt Fence.wide (n - 1) Tryd.prog l #[.string x] W fun e W' =>
      (e = .returned (.bool true) ∧ J (pre ++ [x]) W' ∧ KeepsTwo Br Bn W W') ∨ (e = .returned (.bool false) ∧ Jx (pre ++ [x]) W'))
    (W : World) (hn₀ : n₀ ≤ W.heap.size) (hJ : AbidesFrom W.heap.size J) (cr : W.cell? ⟨Br, 0, none⟩ = some (.string record)) (cn : W.cell? ⟨Bn, 0, none⟩ = some (.int .i64 number)) (h0 : J [] W) :
    Calls Tryd.prog 73 #[.func (.yield l) #[] #[], .pointer (some ⟨Br, 0, none⟩), .pointer (some ⟨Bn, 0, none⟩)] W fun e W' => (∃ v, e = .returned v) ∧
      ((∃ ys, ys = (List.range (cnt record.size)).map (secOf number record) ∧ J ys W') ∨ (∃ pre, pre <+: (List.range (cnt record.size)).map (secOf number record) ∧ Jx pre W')) := by
  have hmk := sec_make
  go_enter Tryd.func73, Tryd.ntmps73
  go_wp2_with (go_at_call 24; refine (sector_Count.calls _ _ _ (count_eq record.size hr)).mono ?_; rintro e w1 ⟨rfl, hb1⟩)
  have hs1 := hb1.size
  have hJ1 : J [] w1 := hJ _ _ _ none h0 (grown_of_below hb1 none) (by simp)
  have cr1 : w1.cell? ⟨Br, 0, none⟩ = some (.string record) := (hb1.cell (p := ⟨Br, 0, none⟩) (by simp; omega)).trans cr
  have cn1 : w1.cell? ⟨Bn, 0, none⟩ = some (.int .i64 number) := (hb1.cell (p := ⟨Bn, 0, none⟩) (by simp; omega)).trans cn
  clear cr cn
  have hc182 := cnt_le hr
  go_loopw [10] (fun i wr => ∃ k : Nat, i = .int .i64 k ∧ k ≤ cnt record.size ∧ wr.cell? ⟨Br, 0, none⟩ = some (.string record) ∧ wr.cell? ⟨Bn, 0, none⟩ = some (.int .i64 number) ∧ n₀ ≤ wr.heap.size ∧ W.heap.size ≤ wr.heap.size ∧ J ((List.range k).map (secOf number record)) wr) (fun i _ => cnt record.size - (intOf i).toNat)
  case atStart => exact ⟨0, rfl, Nat.zero_le _, cr1, cn1, by omega, hs1, hJ1⟩
  case round =>
    obtain ⟨k, rfl, hk, cr, cn, hn₁, hWs, hJk⟩ := hrel
    clear cr1 cn1 hJ1
    by_cases hlt : k < cnt record.size
    · have hk44 := cnt_lt hlt
      have b1 : (0 : Int) ≤ (k : Int) * 44 := by omega
      have b2 : (k : Int) * 44 ≤ (record.size : Int) := by omega
      have b3 : (record.size : Int) ≤ 8000 := by omega
      have hrs : (restOf record k).size ≤ 8000 := by unfold restOf; rw [ByteArray.size_extract]; omega
      obtain ⟨rest, hrest⟩ : ∃ r_ : ByteArray, restOf record k = r_ := ⟨_, rfl⟩
      have hx : record.extract (k * 44) record.size = rest := hrest
      rw [hrest] at hrs
      have HR := Lib.hid hrest
      clear hrest
      go_wp2
      have hBl : Bn < wr.heap.size := by omega
      have hBl2 : Br < wr.heap.size := by omega
      have hne := World.new_ne wr ⟨Bn, 0, none⟩ cn
      go_region_held3 (fun w' => w'.cell? ⟨Bn, 0, none⟩ = some (.int .i64 number)) (go_keep) (first | (go_at_call 74; refine (put64_own wr _ _ [] _ (by simp) ?_ ?_).mono ?_; exact (below_alloc (Below.refl _ _) _).drew; exact Kd.R_drew (fresh_row wr _ 64 (Nat.le_refl _) (by unfold maxLen; omega)); rintro e w2 ⟨v2, rfl, hR2, hb2⟩; have cn2 := (hb2.cell (p := ⟨Bn, 0, none⟩) hBl).trans cn))
      have hu : IntKind.u64.wrap number = number := by unfold IntKind.wrap; simp [IntKind.bits, IntKind.signed]; omega
      have hR2' : Kd.R (Kd.int .u8) 5 w2 wr.heap.size (fun _ => True) v2 (le64 number) := by rw [hu] at hR2; exact hR2
      clear hR2
      have hBl3 : Bn < w2.heap.size := by have := hb2.size; omega
      obtain ⟨tl, htl⟩ : ∃ tl : Nat, min 44 rest.size = tl := ⟨_, rfl⟩
      have ht1 : tl ≤ 44 := by omega
      have ht2 : tl ≤ rest.size := by omega
      have ht3 : (tl : Int) ≤ (rest.size : Int) := by omega
      have hmn : (if (rest.size : Int) < 44 then (rest.size : Int) else 44) = (tl : Int) := by split <;> omega
      have HTL := Lib.hid htl
      clear htl
      obtain ⟨text, htext⟩ : ∃ t_ : ByteArray, rest.extract 0 tl = t_ := ⟨_, rfl⟩
      have hts : text.size = tl := by rw [← htext, ByteArray.size_extract]; omega
      have HTS := Lib.hid hts
      clear hts
      go_wp2_with fail
      refine (put16_own wr _ _ _ _ (by rw [le64_length]; omega) hb2 hR2').mono ?_
      rintro e w3 ⟨v3, rfl, hR3, hb3⟩
      go_wp2_with fail
      refine (put16_own wr _ _ _ _ (by rw [List.length_append, le64_length, le16_length]; omega) hb3 hR3).mono ?_
      rintro e w4 ⟨v4, rfl, hR4, hb4⟩
      have hl4 : (le64 number ++ le16 ↑k ++ le16 ↑rest.size).length = 12 := rfl
      obtain ⟨r4, hr4⟩ : ∃ r_, le64 number ++ le16 ↑k ++ le16 ↑rest.size = r_ := ⟨_, rfl⟩
      rw [hr4] at hR4 hl4
      have HR4 := Lib.hid hr4
      have HL4 := Lib.hid hl4
      clear hr4 hl4
      go_wp2_with (at_builtin; refine print_append_str (w0 := wr) wr.heap.size rfl _ _ 54 9 5 rfl Tryd.underlying54 Tryd.underlying9 info5 v4 r4 text rfl rfl (Kd.own_of_R hR4) hb4 (by have := hb4.size; omega) (by rw [HL4.out, HTS.out]; omega) ?_)
      intro v5 w5 own5 hb5 _
      have hR5 : Kd.R (Kd.int .u8) 5 w5 wr.heap.size (fun _ => True) v5 (r4 ++ bytesOf text) := Kd.R_of_own (by rw [List.length_append]; exact own5) (fun _ _ => trivial)
      clear own5
      have hl5 : (r4 ++ bytesOf text).length = 12 + tl := by rw [List.length_append, bytesOf_length, HL4.out, HTS.out]
      obtain ⟨r5, hr5⟩ : ∃ r_, r4 ++ bytesOf text = r_ := ⟨_, rfl⟩
      rw [hr5] at hR5 hl5
      have HR5 := Lib.hid hr5
      have HL5 := Lib.hid hl5
      clear hr5 hl5
      obtain ⟨A5, c5, hv5⟩ := Kd.R_slice hR5
      rw [HL5.out] at hv5
      subst hv5
      go_wp2_with (at_builtin; refine Kd.R_append_zeros (Kd.int .u8) (w0 := wr) wr.heap.size rfl _ _ 54 3 5 (.int .u8 0) 1 rfl Tryd.underlying54 Tryd.underlying3 info5 rfl (by decide) (by decide) _ r5 0 (56 - (12 + (tl : Int))) (fun _ => True) rfl rfl rfl (fun _ _ => trivial) hR5 (by omega) hb5 (by have := hb5.size; omega) (by rw [HL5.out]; omega) ?_)
      intro v6 w6 hR6 hb6 _ _
      have e44 : (56 - (12 + (tl : Int))).toNat = 44 - tl := by omega
      rw [e44] at hR6
      have hl6 : (r5 ++ List.replicate (44 - tl) (0 : Int)).length = 56 := by rw [List.length_append, List.length_replicate, HL5.out]; omega
      obtain ⟨r6, hr6⟩ : ∃ r_, r5 ++ List.replicate (44 - tl) (0 : Int) = r_ := ⟨_, rfl⟩
      rw [hr6] at hR6 hl6
      have HR6 := Lib.hid hr6
      have HL6 := Lib.hid hl6
      clear hr6 hl6 e44
      have cn6 := (hb6.cell (p := ⟨Bn, 0, none⟩) hBl).trans cn
      go_upto_region 8 with (fail)
      refine (wpIn_wide (n := n)).1 ?_
      gi_wp2_with fail
      refine ⟨trivial, (callsIn_wide.2 (put64_own wr _ _ _ _ (by rw [HL6.out]; omega) hb6 hR6)).mono ?_⟩
      rintro e w7 ⟨v7, rfl, hR7, hb7⟩
      have hcv := own_string (P := Tryd.prog) Tryd.underlying54 Tryd.underlying5 Tryd.underlying9 (Kd.own_of_R hR7)
      have hfin : strOfNums (r6 ++ le64 number) = secOf number record k := by
        rw [← HR6.out, ← HR5.out, ← HR4.out]
        unfold secOf secNums textOf
        rw [HR.out, HTL.out, htext, HTS.out]
      rw [hfin] at hcv
      have hJ7 : J ((List.range k).map (secOf number record)) w7 := hJ _ _ _ none hJk (grown_of_below hb7 none) (by simp)
      obtain ⟨fn, tmps, assign, body, hy, hRd⟩ := hY _ (secOf number record k) w7 hJ7 (by simpa using hlt)
      gi_wp2
      refine hRd.mono ?_
      have cr7 := (hb7.cell (p := ⟨Br, 0, none⟩) hBl2).trans cr
      have cn7 := (hb7.cell (p := ⟨Bn, 0, none⟩) hBl).trans cn
      have hs7 := hb7.size
      have hrg : (List.range (k + 1)).map (secOf number record) = (List.range k).map (secOf number record) ++ [secOf number record k] := by rw [List.range_succ, List.map_append]; rfl
      rintro e w8 (⟨rfl, hJ8, hk8⟩ | ⟨rfl, hJx8⟩)
      · have cr8 := (cell_of_heap_eq (hk8.one (by omega)) 0).trans cr7
        have cn8 := (cell_of_heap_eq (hk8.two (by omega)) 0).trans cn7
        have hs8 := hk8.size
        gi_wp2
        go_wp2
        go_roundw
        case rel => exact ⟨k + 1, by go_num, by omega, cr8, cn8, by omega, by omega, by rw [hrg]; exact hJ8⟩
        case measure => simp [intOf]; omega
      · gi_wp2
        go_wp2
        refine bodyPost_ret (results_none rfl _ _ _) rfl ?_
        refine ⟨⟨_, rfl⟩, .inr ⟨_, ?_, hJx8⟩⟩
        rw [← hrg]
        exact range_prefix _ (by omega)
    · go_wp2
      go_end0
      obtain rfl : k = cnt record.size := by omega
      exact ⟨⟨_, rfl⟩, .inl ⟨_, rfl, hJk⟩⟩

set_option maxRecDepth 100000 in
/-- sectors(number, record): both are boxed; the function value captures the boxes. -/
theorem sectors_calls (number : Int) (record : ByteArray) (w : World) :
    Calls Tryd.prog 63 #[.int .i64 number, .string record] w fun e w' => e = .returned (.func (.func 73) #[] #[.pointer (some ⟨w.heap.size + 1, 0, none⟩), .pointer (some ⟨w.heap.size, 0, none⟩)]) ∧
      w' = (w.alloc (.cells #[.int .i64 number] 3)).alloc (.cells #[.string record] 9) := by
  go_enter Tryd.func63, Tryd.ntmps63
  go_wp2
  go_ret
  exact ⟨rfl, rfl⟩

theorem sectors_stops (n : Nat) (hn : 1 ≤ n) (Br Bn n₀ : Nat) (number : Int) (record : ByteArray) (h1 : 1 ≤ number) (h2 : number ≤ 4611686018427387904) (hr : record.size ≤ 8000) (w : World) (hBr : Br < n₀) (hBn : Bn < n₀) (hn₀ : n₀ ≤ w.heap.size)
    (cr : w.cell? ⟨Br, 0, none⟩ = some (.string record)) (cn : w.cell? ⟨Bn, 0, none⟩ = some (.int .i64 number)) :
    SeqStopsK Fence.wide n Tryd.prog 73 #[.pointer (some ⟨Br, 0, none⟩), .pointer (some ⟨Bn, 0, none⟩)] (fun x : ByteArray => #[Value.string x]) (KeepsTwo Br Bn)
      (fun ys => ys = (List.range (cnt record.size)).map (secOf number record)) (fun pre => pre <+: (List.range (cnt record.size)).map (secOf number record)) (cnt record.size) w := fun l J Jx W hW hJ _ hY h0 =>
  callsIn_wide.2 (sec1_in n hn l Br Bn n₀ number record h1 h2 hr hBr hBn J Jx hY W (by have := hW.size; omega) hJ ((hW.cell (p := ⟨Br, 0, none⟩) (by simp; omega)).trans cr) ((hW.cell (p := ⟨Bn, 0, none⟩) (by simp; omega)).trans cn) h0)

/-- sector.Pack, as plain Lean. -/
def sector_Pack.f (a0 : Int) (a1 : ByteArray) : Option (List ByteArray × Int) :=
  if a0 < 1 then some ([], 1) else if 4611686018427387904 < a0 then some ([], 1) else if 8000 < a1.size then some ([], 2) else some ((List.range (cnt a1.size)).map (secOf a0 a1), 0)

theorem infoStr : (Tryd.prog.info? 9).map (fun i => (i.zero, i.size, i.bytes)) = some (some (.string ⟨#[]⟩), 1, 16) := by kernel_rfl

set_option maxRecDepth 100000 in
set_option maxHeartbeats 4000000 in
theorem pack_ok (number : Int) (record : ByteArray) (h1 : 1 ≤ number) (h2 : number ≤ 4611686018427387904) (hr : record.size ≤ 8000) (w : World) :
    Calls Tryd.prog 43 #[.int .i64 number, .string record] w fun e w' => ∃ v : Value, e = .returned (.tuple #[v, .int .i64 0]) ∧ w'.ownsRow w.heap.size 9 1 v ((List.range (cnt record.size)).map (secOf number record)).length (((List.range (cnt record.size)).map (secOf number record)).map Value.string) ∧ Below w.heap.size w w' := by
  obtain ⟨i0, hi, hz0, hz1, hz2⟩ := info_parts infoStr
  have hc182 := cnt_le hr
  have hro : Fence.wide.round = none := rfl
  have hr8 : (record.size : Int) ≤ 8000 := by omega
  refine (callsIn_wide (n := 5)).1 ?_
  refine callsIn_of_wp_marks Tryd.func43 rfl trivial ?_ hro
  simp only [Tryd.ntmps43, List.size_toArray, List.length_cons, List.length_nil, Nat.reduceAdd, Nat.reduceSub, Array.replicate_succ, Array.replicate_zero, List.push_toArray, List.append_toArray, List.nil_append, List.cons_append]
  have hd1 : decide (number < 1) = false := decide_eq_false (by omega)
  have hd2 : decide (4611686018427387904 < number) = false := decide_eq_false (by omega)
  have hd3 : decide ((8000 : Int) < (record.size : Int)) = false := decide_eq_false (by omega)
  have hd4 : decide (8000 < record.size) = false := decide_eq_false (by omega)
  gi_wp2_with (refine ⟨trivial, ?_⟩; gi_at_call 63; refine (callsIn_wide.2 (sectors_calls _ _ _)).mono ?_; rintro e w' ⟨rfl, rfl⟩)
  have bO := Boxed.new w 38 (.slice none 0 0)
  have bN := Boxed.new (w.alloc (.cells #[.slice none 0 0] 38)) 3 (.int .i64 number)
  have bR := Boxed.new ((w.alloc (.cells #[.slice none 0 0] 38)).alloc (.cells #[.int .i64 number] 3)) 9 (.string record)
  rw [World.size_alloc] at bN
  rw [World.size_alloc, World.size_alloc] at bR
  have hB0 : Below w.heap.size w (((w.alloc (.cells #[.slice none 0 0] 38)).alloc (.cells #[.int .i64 number] 3)).alloc (.cells #[.string record] 9)) := (((Below.refl _ w).alloc (Nat.le_refl _) _).alloc (by simp) _).alloc (by simp; omega) _
  refine wpIn_rangeFunc_ownG hro (by omega) (gf := 73) (lb := #[.pointer (some ⟨w.heap.size + 1 + 1, 0, none⟩), .pointer (some ⟨w.heap.size + 1, 0, none⟩)]) rfl trivial (enters_of Tryd.func73 (by kernel_rfl) rfl)
    (sectors_stops (5 - 1) (by omega) (w.heap.size + 1 + 1) (w.heap.size + 1) (w.heap.size + 3) number record h1 h2 hr _ (by omega) (by omega) (by simp) bR.cell (bN.alloc _).cell) (fun h k => h.trans k) (keepsTwo_b (by simp) (by simp)) (Below.refl _ _) (fun _ => rfl)
    (fun (pre : List ByteArray) W => (∃ v, Boxed W w.heap.size 38 v ∧ W.ownsRow (w.heap.size + 3) 9 1 v pre.length (pre.map Value.string) ∧ True) ∧ Below w.heap.size w W ∧ w.heap.size + 3 ≤ W.heap.size)
    (fun _ _ _ => False)
    (OwnFrom.and (Own.from (holdsRow_own (w.heap.size + 3) w.heap.size 38 9 1 (fun (pre : List ByteArray) => pre.length) (fun pre => pre.map Value.string) (fun _ _ => True)) _) (OwnFrom.and (ownFrom_below (Nat.le_refl _) (by simp; omega)) (fun _ _ _ _ hs hg _ => Nat.le_trans hs hg.size)))
    (fun _ _ _ _ _ hs _ _ => hs)
    ⟨⟨_, (bO.alloc _).alloc _, World.ownsRow_nil _ _ _ _, trivial⟩, hB0, by simp⟩
    (fun x => { tmps := #[.int .i64 number, .string record, undef, undef, .pointer (some ⟨w.heap.size, 0, none⟩), .int .i64 0, .string x, .bool false, .int .i64 number, .bool false, .bool false, .int .i64 number, .bool false, .bool false, .bool false, .string record, .int .i64 record.size, .bool false, .int .i64 number, .string record, .func (.func 73) #[] #[.pointer (some ⟨w.heap.size + 1 + 1, 0, none⟩), .pointer (some ⟨w.heap.size + 1, 0, none⟩)], .string x, undef, undef, undef, undef, undef], defers := [] }) ?assign ?body ?done ?stop
  case assign =>
    intro l x W K hK
    gi_wp2
    exact hK
  case body =>
    rintro l pre x W ⟨⟨v, hv, hrow, _⟩, hB, hW3⟩ hlt
    have hc := hv.cell
    gi_wp2_with (gi_at_builtin; refine wpListIn_append_own _ rfl _ _ 38 rfl (w.heap.size + 3) 9 i0 (.string ⟨#[]⟩) 1 16 Tryd.underlying38 hi hz0 hz1 hz2 rfl (by decide) _ _ _ rfl (hrow.alloc _) ⟨W.heap.size, 0, none⟩ 1 1 [.string x] rfl rfl (cell_one_new _ _ _) (by simp [Value.oneCell']) (by unfold maxLen; omega) (by omega) (by simp; omega) ?_; intro v' w1 hown' hgrow _; obtain ⟨g', cap', rfl⟩ := ownsRow_succ hown'; obtain ⟨hv1, hv2, hr2, hk2, hb2, hj2⟩ := boxed_append (b0 := w.heap.size) hv (by decide) hrow hB.size (Nat.le_refl _) (by omega) hown' hgrow; have hc1 := hv1.cell; have hf1 := hv1.frozen)
    refine ⟨hk2.from _, ⟨hk2.size, fun h => hj2 _ (by omega) (by omega) h, fun h => hj2 _ (by omega) (by omega) h⟩, ⟨_, hv2, ?_, trivial⟩, hB.trans hb2, ?_⟩
    · simpa using hr2
    · have := hk2.size; omega
  case done =>
    rintro D ys W hD rfl ⟨⟨v, hv, hrow, _⟩, hB, hW3⟩ hK
    obtain ⟨A, c, rfl⟩ := own_slice hrow
    have hc := hv.cell
    have hf := hv.frozen
    gi_wp2
    obtain ⟨u, hu⟩ : ∃ u : Value, Value.slice A (cnt record.size) c = u := ⟨_, rfl⟩
    have hv2 : Boxed W w.heap.size 38 u := by rw [← hu]; simpa using hv
    have hrow2 : W.ownsRow (w.heap.size + 3) 9 1 u ((List.range (cnt record.size)).map (secOf number record)).length (((List.range (cnt record.size)).map (secOf number record)).map Value.string) := by rw [← hu]; simpa using hrow
    rw [hu]
    have hK' := (KeepsOthers.setCell W ⟨w.heap.size, 0, none⟩ u).same D _ hK rfl
    refine ⟨by simp, .inl ⟨_, _, rfl, run_takeDeferred hK', ?_⟩⟩
    have hc5 := cell_kept (World.cell?_setCell_same' W ⟨w.heap.size, 0, none⟩ u (by rw [hv2.cell]; rfl)) (grownBy_putObj' _ D (.deferred none)) (fun r e => by cases e; exact ⟨_, hK', rfl⟩)
    refine ⟨.tuple #[u, .int .i64 0], ?_, _, rfl, ?_, ?_⟩
    · simp [results, Tryd.f43, go_sem, hc5]
    · exact own_weaken (ownsRow_putObj (hrow2.kept (grownBy_setCell' W w.heap.size u) (.inr (hv2.not_row (by decide) hrow2).symm)) _ hK' rfl) (by omega)
    · exact (hB.setCell (p := ⟨w.heap.size, 0, none⟩) (Nat.le_refl _) u).trans (belowK_b (w := w) (Nat.le_refl _) _ D _ _ (by simp at hD; omega) hK' rfl rfl)
  case stop =>
    rintro D c pre W _ _ h _
    exact h.elim

set_option maxRecDepth 100000 in
set_option maxHeartbeats 1000000 in
theorem pack_low (number : Int) (record : ByteArray) (h1 : number < 1) (w : World) :
    Calls Tryd.prog 43 #[.int .i64 number, .string record] w fun e w' => e = .returned (.tuple #[.slice none 0 0, .int .i64 1]) ∧ Below w.heap.size w w' := by
  have hd1 : decide (number < 1) = true := decide_eq_true h1
  go_enter Tryd.func43, Tryd.ntmps43
  go_wp2
  exact bodyPost_ret (v := .tuple #[.slice none 0 0, .int .i64 1]) (by simp [results, Tryd.f43, go_sem]) rfl ⟨rfl, (Below.refl _ _).alloc (Nat.le_refl _) _⟩
set_option maxRecDepth 100000 in
set_option maxHeartbeats 1000000 in
theorem pack_high (number : Int) (record : ByteArray) (h2 : 4611686018427387904 < number) (w : World) :
    Calls Tryd.prog 43 #[.int .i64 number, .string record] w fun e w' => e = .returned (.tuple #[.slice none 0 0, .int .i64 1]) ∧ Below w.heap.size w w' := by
  have hd1 : decide (number < 1) = false := decide_eq_false (by omega)
  have hd2 : decide (4611686018427387904 < number) = true := decide_eq_true h2
  go_enter Tryd.func43, Tryd.ntmps43
  go_wp2
  exact bodyPost_ret (v := .tuple #[.slice none 0 0, .int .i64 1]) (by simp [results, Tryd.f43, go_sem]) rfl ⟨rfl, (Below.refl _ _).alloc (Nat.le_refl _) _⟩
set_option maxRecDepth 100000 in
set_option maxHeartbeats 1000000 in
theorem pack_long (number : Int) (record : ByteArray) (h1 : 1 ≤ number) (h2 : number ≤ 4611686018427387904) (h3 : 8000 < record.size) (w : World) :
    Calls Tryd.prog 43 #[.int .i64 number, .string record] w fun e w' => e = .returned (.tuple #[.slice none 0 0, .int .i64 2]) ∧ Below w.heap.size w w' := by
  have hd1 : decide (number < 1) = false := decide_eq_false (by omega)
  have hd2 : decide (4611686018427387904 < number) = false := decide_eq_false (by omega)
  have hd3 : decide ((8000 : Int) < (record.size : Int)) = true := decide_eq_true (by omega)
  have hd4 : decide (8000 < record.size) = true := decide_eq_true h3
  go_enter Tryd.func43, Tryd.ntmps43
  go_wp2
  exact bodyPost_ret (v := .tuple #[.slice none 0 0, .int .i64 2]) (by simp [results, Tryd.f43, go_sem]) rfl ⟨rfl, (Below.refl _ _).alloc (Nat.le_refl _) _⟩

theorem sector_Pack.calls (a0 : Int) (a1 : ByteArray) (r1 : List ByteArray) (r2 : Int) (w : World) (h : sector_Pack.f a0 a1 = some (r1, r2)) :
    Calls Tryd.prog 43 #[.int .i64 a0, .string a1] w fun e w' => ∃ v0_ : Value, e = .returned (.tuple #[v0_, .int .i64 r2]) ∧ Kd.R Kd.string 9 w' w.heap.size (fun _ => True) v0_ r1 ∧ Below w.heap.size w w' := by
  unfold sector_Pack.f at h
  split at h
  · simp only [Option.some.injEq, Prod.mk.injEq] at h
    obtain ⟨rfl, rfl⟩ := h
    refine (pack_low a0 a1 (by assumption) w).mono ?_
    rintro e w' ⟨rfl, hb⟩
    exact ⟨_, rfl, Kd.R_nil _ _ _ _ _, hb⟩
  · split at h
    · simp only [Option.some.injEq, Prod.mk.injEq] at h
      obtain ⟨rfl, rfl⟩ := h
      refine (pack_high a0 a1 (by assumption) w).mono ?_
      rintro e w' ⟨rfl, hb⟩
      exact ⟨_, rfl, Kd.R_nil _ _ _ _ _, hb⟩
    · split at h
      · simp only [Option.some.injEq, Prod.mk.injEq] at h
        obtain ⟨rfl, rfl⟩ := h
        refine (pack_long a0 a1 (by omega) (by omega) (by assumption) w).mono ?_
        rintro e w' ⟨rfl, hb⟩
        exact ⟨_, rfl, Kd.R_nil _ _ _ _ _, hb⟩
      · simp only [Option.some.injEq, Prod.mk.injEq] at h
        obtain ⟨rfl, rfl⟩ := h
        refine (pack_ok a0 a1 (by omega) (by omega) (by omega) w).mono ?_
        rintro e w' ⟨v, rfl, ho, hb⟩
        exact ⟨v, rfl, Kd.R_of_own ho (fun _ _ => trivial), hb⟩
end Go.Proofs.YtcdgbdojopfkgaaDoor.P
