/- perm.Type and perm.Quorum: slices.IndexFunc with a closure over a captured variable. -/
import Derived.Lib.SliceRun
import Derived.Lib.Hide
import Derived.Test.YthldfkjnjcagjaaDoorShelf
import Derived.Test.YthldfkjnjcagjaaDoorPx0
namespace Go.Proofs.YthldfkjnjcagjaaDoor.P
open Go.RowKit Go.Shelf Go.Lib Go.Proofs.YthldfkjnjcagjaaDoorW.PrintWords Go.Proofs.YthldfkjnjcagjaaDoorW.PrintMore
attribute [local go_sem] Oper.semAt_some max2_int min2_int max_two min_two

instance : Inhabited S59 := ⟨z59⟩
instance : Inhabited S33 := ⟨z33⟩
def isNamed (name : ByteArray) (t : S59) : Bool := t.f0.toList == name.toList
def isFor (command : Int) (q : S33) : Bool := q.f0 == command
def typeIdx (l : List S59) (name : ByteArray) : Int := idxBy (fun _ y => isNamed name y) l z59
def quorumIdx (l : List S33) (command : Int) : Int := idxBy (fun _ y => isFor command y) l z33
def cells59 (t : S59) : List Value := [.string t.f0, .int .i64 t.f1, .int .i64 t.f2]
def cells33 (q : S33) : List Value := [.int .i64 q.f0, .int .i64 q.f1, .int .i64 q.f2, .int .i64 q.f3, .int .i64 q.f4]

theorem idxBy_none {α : Type} [Inhabited α] (eq : α → α → Bool) (x : α) : ∀ (l : List α) (i : Nat), -1 ≤ idxByFrom eq x l i ∧ idxByFrom eq x l i < ((i + l.length : Nat) : Int)
  | [], i => by simp [idxByFrom]; omega
  | y :: r, i => by
    have := idxBy_none eq x r (i + 1)
    simp only [idxByFrom, List.length_cons]
    split <;> omega

theorem type1_below (name : ByteArray) (B : Nat) (w : World) (hB : B < w.heap.size) (hcell : w.cell? ⟨B, 0, none⟩ = some (.string name)) :
    PredBelow Tryd.prog 33 #[.pointer (some ⟨B, 0, none⟩)] (fun x => .agg (cells59 x).toArray) (isNamed name) w := fun W x hb => by
  have hc : W.cell? ⟨B, 0, none⟩ = some (.string name) := (hb.cell (p := ⟨B, 0, none⟩) hB).trans hcell
  have hBW : B < W.heap.size := Nat.lt_of_lt_of_le hB hb.size
  have hne : B ≠ W.heap.size := by omega
  show Calls Tryd.prog 33 #[.agg #[.string x.f0, .int .i64 x.f1, .int .i64 x.f2], .pointer (some ⟨B, 0, none⟩)] W _
  go_enter Tryd.func33, Tryd.ntmps33
  go_wp2
  all_goals (go_ret; exact ⟨by simp_all [isNamed], hb.alloc hb.size _⟩)
theorem quorum1_below (command : Int) (B : Nat) (w : World) (hB : B < w.heap.size) (hcell : w.cell? ⟨B, 0, none⟩ = some (.int .i64 command)) :
    PredBelow Tryd.prog 35 #[.pointer (some ⟨B, 0, none⟩)] (fun x => .agg (cells33 x).toArray) (isFor command) w := fun W x hb => by
  have hc : W.cell? ⟨B, 0, none⟩ = some (.int .i64 command) := (hb.cell (p := ⟨B, 0, none⟩) hB).trans hcell
  have hBW : B < W.heap.size := Nat.lt_of_lt_of_le hB hb.size
  have hne : B ≠ W.heap.size := by omega
  show Calls Tryd.prog 35 #[.agg #[.int .i64 x.f0, .int .i64 x.f1, .int .i64 x.f2, .int .i64 x.f3, .int .i64 x.f4], .pointer (some ⟨B, 0, none⟩)] W _
  go_enter Tryd.func35, Tryd.ntmps35
  go_wp2
  all_goals (go_ret; exact ⟨by simp_all [isFor], hb.alloc hb.size _⟩)

theorem idxT_empty (a : Option Addr) (c : Nat) (fv : Value) (w : World) : Calls Tryd.prog 32 #[.slice a 0 c, fv] w fun e w' => e = .returned (.int .i64 (-1)) ∧ w' = w := by
  go_enter Tryd.func32, Tryd.ntmps32
  go_wp2
  go_loopg [5, 8] 0 (fun _ _ s8 wr => s8 = .int .i64 0 ∧ wr = w)
  case atStart => exact ⟨rfl, rfl⟩
  case round =>
    obtain ⟨rfl, rfl⟩ := hrel
    go_wp2
    go_ret
    exact ⟨rfl, rfl⟩
theorem idxQ_empty (a : Option Addr) (c : Nat) (fv : Value) (w : World) : Calls Tryd.prog 34 #[.slice a 0 c, fv] w fun e w' => e = .returned (.int .i64 (-1)) ∧ w' = w := by
  go_enter Tryd.func34, Tryd.ntmps34
  go_wp2
  go_loopg [5, 8] 0 (fun _ _ s8 wr => s8 = .int .i64 0 ∧ wr = w)
  case atStart => exact ⟨rfl, rfl⟩
  case round =>
    obtain ⟨rfl, rfl⟩ := hrel
    go_wp2
    go_ret
    exact ⟨rfl, rfl⟩

theorem cell_lies {w : World} {b off : Nat} {sp : Option Nat} {v : Value} (h : w.cell? ⟨b, off, sp⟩ = some v) : sp = none ∧ b < w.heap.size := by
  unfold World.cell? at h
  split at h
  · rename_i hh
    split at h
    · cases h
    · rename_i hs
      exact ⟨by simpa using hs, (Array.getElem?_eq_some_iff.1 hh).1⟩
  · cases h
theorem row_lies {α : Type} {d : Kd α} {w : World} {A : Option Addr} {l : List α} (h : Kd.C d w A l.length l) (hl : l.length ≠ 0) (hsz : 0 < d.sz) : ∃ b off, A = some ⟨b, off, none⟩ ∧ b < w.heap.size := by
  obtain ⟨ad, rfl, hc⟩ := h.2.2 (by omega)
  obtain ⟨x, hx⟩ : ∃ x, l[0]? = some x := ⟨l[0], List.getElem?_eq_getElem (by omega)⟩
  obtain ⟨c, hs, hk, hcell⟩ := hc 0 x hx
  obtain ⟨v, hv⟩ : ∃ v, c[0]? = some v := ⟨c[0]'(by omega), List.getElem?_eq_getElem (by omega)⟩
  have h1 := hcell 0 v hv
  rw [Nat.zero_mul, Nat.zero_add, Addr.add_zero'] at h1
  obtain ⟨b, off, sp⟩ := ad
  obtain ⟨rfl, hb⟩ := cell_lies h1
  exact ⟨b, off, rfl, hb⟩
theorem row_cells {α : Type} [Inhabited α] {d : Kd α} {w : World} {b off : Nat} {l : List α} (h : Kd.C d w (some ⟨b, off, none⟩) l.length l) (enc : α → List Value) (hK : ∀ x c, d.K w x c → c = enc x) :
    ∀ j, j < l.length → ∀ i v, (enc l[j]!)[i]? = some v → w.cell? ⟨b, off + j * d.sz + i, none⟩ = some v := fun j hj i v hi => by
  obtain ⟨ad, e, hc⟩ := h.2.2 (by omega)
  obtain rfl := Option.some.inj e
  obtain ⟨c, hs, hk, hcell⟩ := hc j l[j] (List.getElem?_eq_getElem hj)
  obtain rfl := hK _ _ hk
  rw [getElem!_pos l j hj] at hi
  have := hcell i v hi
  rw [Addr.add_lit] at this
  rw [Nat.add_assoc]
  exact this

/-- slices.IndexFunc over a list of types, whatever its length. -/
theorem idxT_calls (name : ByteArray) (A : Option Addr) (c : Nat) (l : List S59) (B : Nat) (w : World) (hr : Kd.C k59 w A l.length l) (hB : B < w.heap.size) (hcell : w.cell? ⟨B, 0, none⟩ = some (.string name)) :
    Calls Tryd.prog 32 #[.slice A l.length c, .func (.func 33) #[] #[.pointer (some ⟨B, 0, none⟩)]] w fun e w' => e = .returned (.int .i64 (typeIdx l name)) ∧ Below w.heap.size w w' := by
  have eg : ∀ args w, (callFunc 33 args).run Tryd.prog w = .ok (.enter 33 args) w := enters_of Tryd.func33 (by kernel_rfl) rfl
  by_cases h0 : l.length = 0
  · obtain rfl := List.eq_nil_of_length_eq_zero h0
    refine (idxT_empty A c _ w).mono ?_
    rintro e w' ⟨rfl, rfl⟩
    exact ⟨rfl, Below.refl _ _⟩
  · have hlen := hr.2.1
    obtain ⟨b, off, rfl, hb⟩ := row_lies hr h0 (by decide)
    have := AnyQ.slices_IndexFunc Tryd.idxType 3 Tryd.isAgg59 Tryd.sizeOf59 cells59 (fun _ => rfl) (isNamed name) 33 #[.pointer (some ⟨B, 0, none⟩)] eg b off l.length c l w
      (type1_below name B w hB hcell) (Nat.le_refl _) hlen hb (row_cells hr cells59 (fun _ _ hk => k59_open hk))
    rw [List.take_length] at this
    exact this
theorem idxQ_calls (command : Int) (A : Option Addr) (c : Nat) (l : List S33) (B : Nat) (w : World) (hr : Kd.C k33 w A l.length l) (hB : B < w.heap.size) (hcell : w.cell? ⟨B, 0, none⟩ = some (.int .i64 command)) :
    Calls Tryd.prog 34 #[.slice A l.length c, .func (.func 35) #[] #[.pointer (some ⟨B, 0, none⟩)]] w fun e w' => e = .returned (.int .i64 (quorumIdx l command)) ∧ Below w.heap.size w w' := by
  have eg : ∀ args w, (callFunc 35 args).run Tryd.prog w = .ok (.enter 35 args) w := enters_of Tryd.func35 (by kernel_rfl) rfl
  by_cases h0 : l.length = 0
  · obtain rfl := List.eq_nil_of_length_eq_zero h0
    refine (idxQ_empty A c _ w).mono ?_
    rintro e w' ⟨rfl, rfl⟩
    exact ⟨rfl, Below.refl _ _⟩
  · have hlen := hr.2.1
    obtain ⟨b, off, rfl, hb⟩ := row_lies hr h0 (by decide)
    have := AnyQ.slices_IndexFunc Tryd.idxQuorum 5 Tryd.isAgg33 Tryd.sizeOf33 cells33 (fun _ => rfl) (isFor command) 35 #[.pointer (some ⟨B, 0, none⟩)] eg b off l.length c l w
      (quorum1_below command B w hB hcell) (Nat.le_refl _) hlen hb (row_cells hr cells33 (fun _ _ hk => k33_open hk))
    rw [List.take_length] at this
    exact this

def perm_Type.f (_a0_0 : ByteArray) (l0_1 : List S59) (_l0_2 : List S55) (_l0_3 : List S33) (a1 : ByteArray) : Option (Int × Bool) := some (if typeIdx l0_1 a1 < 0 then 0 else typeIdx l0_1 a1, decide (0 ≤ typeIdx l0_1 a1))
theorem perm_Type.calls (a0_0 : ByteArray) (A0_1 : Option Addr) (c0_1 : Nat) (l0_1 : List S59) (A0_2 : Option Addr) (c0_2 : Nat) (l0_2 : List S55) (A0_3 : Option Addr) (c0_3 : Nat) (l0_3 : List S33) (a1 : ByteArray) (r1 : Int) (r2 : Bool) (w : World) (hr0_1 : Kd.C k59 w A0_1 l0_1.length l0_1) (_hc0_1 : l0_1.length ≤ c0_1) (_hr0_2 : Kd.C k55 w A0_2 l0_2.length l0_2) (_hc0_2 : l0_2.length ≤ c0_2) (_hr0_3 : Kd.C k33 w A0_3 l0_3.length l0_3) (_hc0_3 : l0_3.length ≤ c0_3) (h : perm_Type.f a0_0 l0_1 l0_2 l0_3 a1 = some (r1, r2)) :
    Calls Tryd.prog 11 #[.agg #[.string a0_0, .slice A0_1 l0_1.length c0_1, .slice A0_2 l0_2.length c0_2, .slice A0_3 l0_3.length c0_3], .string a1] w fun e w' => e = .returned (.tuple #[.int .i64 r1, .bool r2]) ∧ Below w.heap.size w w' := by
  have hb0 : Below w.heap.size w ((w.alloc (.cells #[.string a0_0, .slice A0_1 l0_1.length c0_1, .slice A0_2 l0_2.length c0_2, .slice A0_3 l0_3.length c0_3] 26)).alloc (.cells #[.string a1] 9)) :=
    ((Below.refl _ w).alloc (Nat.le_refl _) _).alloc (by simp) _
  have hcon := idxT_calls a1 A0_1 c0_1 l0_1 (w.heap.size + 1) _ (Kd.C_below hr0_1 hb0) (by simp) (by simp)
  unfold perm_Type.f at h
  simp only [Option.some.injEq, Prod.mk.injEq] at h
  obtain ⟨h1, h2⟩ := h
  generalize typeIdx l0_1 a1 = r at hcon h1 h2
  subst h1 h2
  clear hr0_1
  go_enter Tryd.func11, Tryd.ntmps11
  go_wp2_with (go_at_call 32; refine hcon.mono ?_; rintro e w' ⟨rfl, hb'⟩)
  · exact bodyPost_ret (v := .tuple #[.int .i64 0, .bool (decide (0 ≤ r))]) (by simp [results, Tryd.results11, go_sem]) rfl ⟨rfl, hb0.trans (hb'.mono hb0.size)⟩
  · exact bodyPost_ret (v := .tuple #[.int .i64 r, .bool true]) (by simp [results, Tryd.results11, go_sem]) rfl ⟨rfl, hb0.trans (hb'.mono hb0.size)⟩
theorem block_cell {w : World} {b i : Nat} {cs : Array Value} {t : TypeId} {v : Value} (h : w.heap[b]? = some (.cells cs t (0, 0))) (hv : cs[i]? = some v) : w.cell? ⟨b, i, none⟩ = some v := by simp [World.cell?, h, hv]
theorem block_free {w : World} {b i : Nat} {cs : Array Value} {t : TypeId} (h : w.heap[b]? = some (.cells cs t (0, 0))) : w.frozen? ⟨b, i, none⟩ = false := by simp [World.frozen?, h]

theorem three_blocks (w : World) (o0 o1 o2 : Obj) : (((w.alloc o0).alloc o1).alloc o2).heap.size = w.heap.size + 3 ∧ (((w.alloc o0).alloc o1).alloc o2).heap[w.heap.size]? = some o0 ∧ (((w.alloc o0).alloc o1).alloc o2).heap[w.heap.size + 1]? = some o1 ∧ (((w.alloc o0).alloc o1).alloc o2).heap[w.heap.size + 1 + 1]? = some o2 := by
  show (((w.heap.push o0).push o1).push o2).size = w.heap.size + 3 ∧ (((w.heap.push o0).push o1).push o2)[w.heap.size]? = some o0 ∧ (((w.heap.push o0).push o1).push o2)[w.heap.size + 1]? = some o1 ∧ (((w.heap.push o0).push o1).push o2)[w.heap.size + 1 + 1]? = some o2
  refine ⟨by simp, ?_, ?_, ?_⟩
  · rw [Array.getElem?_push, if_neg (by simp; omega), Array.getElem?_push, if_neg (by simp), Array.getElem?_push, if_pos rfl]
  · rw [Array.getElem?_push, if_neg (by simp), Array.getElem?_push, if_pos (by simp)]
  · rw [Array.getElem?_push, if_pos (by simp)]

def perm_Quorum.f (_a0_0 : ByteArray) (_l0_1 : List S59) (_l0_2 : List S55) (l0_3 : List S33) (a1 : Int) : Option (Int × Int × Int × Int × Int × Bool) :=
  if quorumIdx l0_3 a1 < 0 then some (0, 0, 0, 0, 0, false) else some ((rd_T33 l0_3 (quorumIdx l0_3 a1)).f0, (rd_T33 l0_3 (quorumIdx l0_3 a1)).f1, (rd_T33 l0_3 (quorumIdx l0_3 a1)).f2, (rd_T33 l0_3 (quorumIdx l0_3 a1)).f3, (rd_T33 l0_3 (quorumIdx l0_3 a1)).f4, true)
set_option maxHeartbeats 1000000 in
theorem perm_Quorum.calls (a0_0 : ByteArray) (A0_1 : Option Addr) (c0_1 : Nat) (l0_1 : List S59) (A0_2 : Option Addr) (c0_2 : Nat) (l0_2 : List S55) (A0_3 : Option Addr) (c0_3 : Nat) (l0_3 : List S33) (a1 : Int) (r1 : Int) (r2 : Int) (r3 : Int) (r4 : Int) (r5 : Int) (r6 : Bool) (w : World) (_hr0_1 : Kd.C k59 w A0_1 l0_1.length l0_1) (_hc0_1 : l0_1.length ≤ c0_1) (_hr0_2 : Kd.C k55 w A0_2 l0_2.length l0_2) (_hc0_2 : l0_2.length ≤ c0_2) (hr0_3 : Kd.C k33 w A0_3 l0_3.length l0_3) (_hc0_3 : l0_3.length ≤ c0_3) (h : perm_Quorum.f a0_0 l0_1 l0_2 l0_3 a1 = some (r1, r2, r3, r4, r5, r6)) :
    Calls Tryd.prog 13 #[.agg #[.string a0_0, .slice A0_1 l0_1.length c0_1, .slice A0_2 l0_2.length c0_2, .slice A0_3 l0_3.length c0_3], .int .i64 a1] w fun e w' => e = .returned (.tuple #[.agg #[.int .i64 r1, .int .i64 r2, .int .i64 r3, .int .i64 r4, .int .i64 r5], .bool r6]) ∧ Below w.heap.size w w' := by
  have hb0 : Below w.heap.size w (((w.alloc (.cells #[.string a0_0, .slice A0_1 l0_1.length c0_1, .slice A0_2 l0_2.length c0_2, .slice A0_3 l0_3.length c0_3] 26)).alloc (.cells #[.int .i64 a1] 3)).alloc (.cells #[.int .i64 0, .int .i64 0, .int .i64 0, .int .i64 0, .int .i64 0] 33)) :=
    (fun h2 => h2.alloc h2.size _) (((Below.refl _ w).alloc (Nat.le_refl _) _).alloc (by simp) _)
  have h3 := three_blocks w (.cells #[.string a0_0, .slice A0_1 l0_1.length c0_1, .slice A0_2 l0_2.length c0_2, .slice A0_3 l0_3.length c0_3] 26) (.cells #[.int .i64 a1] 3) (.cells #[.int .i64 0, .int .i64 0, .int .i64 0, .int .i64 0, .int .i64 0] 33)
  have hcon := idxQ_calls a1 A0_3 c0_3 l0_3 (w.heap.size + 1) _ (Kd.C_below hr0_3 hb0) (by simp) ((World.cell?_alloc_past _ _ _ (by simp)).trans (by simp))
  have hlt : quorumIdx l0_3 a1 < (l0_3.length : Int) := by have := (idxBy_none (fun _ y => isFor a1 y) z33 l0_3 0).2; rw [Nat.zero_add] at this; exact this
  unfold perm_Quorum.f at h
  generalize quorumIdx l0_3 a1 = r at hcon h hlt
  by_cases hneg : r < 0
  · rw [if_pos hneg] at h
    simp only [Option.some.injEq, Prod.mk.injEq] at h
    obtain ⟨rfl, rfl, rfl, rfl, rfl, rfl⟩ := h
    clear hr0_3
    have H3 := Aside0.mk h3
    clear h3
    go_enter Tryd.func13, Tryd.ntmps13
    go_wp2_with fail
    refine hcon.mono ?_
    rintro e w' ⟨rfl, hb'⟩
    have h3 := H3.out
    have hB0 := (hb'.block w.heap.size (by omega)).trans h3.2.1
    have hB2 := (hb'.block (w.heap.size + 1 + 1) (by omega)).trans h3.2.2.2
    have p3 := block_cell hB0 (i := 3) rfl
    have x0 := block_cell hB2 (i := 0) rfl
    have x1 := block_cell hB2 (i := 1) rfl
    have x2 := block_cell hB2 (i := 2) rfl
    have x3 := block_cell hB2 (i := 3) rfl
    have x4 := block_cell hB2 (i := 4) rfl
    have f0 := block_free hB2 (i := 0)
    have f1 := block_free hB2 (i := 1)
    have f2 := block_free hB2 (i := 2)
    have f3 := block_free hB2 (i := 3)
    have f4 := block_free hB2 (i := 4)
    have hlw := hb'.size
    rw [h3.1] at hlw
    clear h3
    clear hB0 hB2
    go_wp2
    have hbw : Below w.heap.size w w' := hb0.trans (hb'.mono hb0.size)
    exact bodyPost_ret (v := .tuple #[.agg #[.int .i64 0, .int .i64 0, .int .i64 0, .int .i64 0, .int .i64 0], .bool false]) (by simp [results, Tryd.f13, go_sem, x0, x1, x2, x3, x4]) rfl ⟨rfl, by repeat (first | exact hbw | refine Below.setCell ?_ (by simp; omega) _)⟩
  · rw [if_neg hneg] at h
    simp only [Option.some.injEq, Prod.mk.injEq] at h
    obtain ⟨rfl, rfl, rfl, rfl, rfl, rfl⟩ := h
    have hge : 0 ≤ r := by omega
    have HR := Aside0.mk hr0_3
    clear hr0_3
    have H3 := Aside0.mk h3
    clear h3
    go_enter Tryd.func13, Tryd.ntmps13
    go_wp2_with fail
    refine hcon.mono ?_
    rintro e w' ⟨rfl, hb'⟩
    have h3 := H3.out
    have hB0 := (hb'.block w.heap.size (by omega)).trans h3.2.1
    have hB2 := (hb'.block (w.heap.size + 1 + 1) (by omega)).trans h3.2.2.2
    have p3 := block_cell hB0 (i := 3) rfl
    have x0 := block_cell hB2 (i := 0) rfl
    have x1 := block_cell hB2 (i := 1) rfl
    have x2 := block_cell hB2 (i := 2) rfl
    have x3 := block_cell hB2 (i := 3) rfl
    have x4 := block_cell hB2 (i := 4) rfl
    have f0 := block_free hB2 (i := 0)
    have f1 := block_free hB2 (i := 1)
    have f2 := block_free hB2 (i := 2)
    have f3 := block_free hB2 (i := 3)
    have f4 := block_free hB2 (i := 4)
    have hlw := hb'.size
    rw [h3.1] at hlw
    clear h3
    clear hB0 hB2
    have hK := Kd.C_below HR.out (hb0.trans (hb'.mono hb0.size))
    obtain ⟨ad, rfl, q0, q1, q2, q3, q4⟩ := at_T33 hK r hge hlt
    clear hK
    go_wp2
    have hbw : Below w.heap.size w w' := hb0.trans (hb'.mono hb0.size)
    exact bodyPost_ret (v := .tuple #[.agg #[.int .i64 (rd_T33 l0_3 r).f0, .int .i64 (rd_T33 l0_3 r).f1, .int .i64 (rd_T33 l0_3 r).f2, .int .i64 (rd_T33 l0_3 r).f3, .int .i64 (rd_T33 l0_3 r).f4], .bool true]) (by simp [results, Tryd.f13, go_sem, x0, x1, x2, x3, x4]) rfl ⟨rfl, by repeat (first | exact hbw | refine Below.setCell ?_ (by simp; omega) _)⟩
end Go.Proofs.YthldfkjnjcagjaaDoor.P
