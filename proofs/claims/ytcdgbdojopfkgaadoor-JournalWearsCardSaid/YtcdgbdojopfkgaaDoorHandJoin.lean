/- sector.Join: the loop over the sectors, with its strings.Builder. -/
import Derived.Outline
import Derived.Deep.RegionHeld3
import Derived.RangeFuncBox
import Derived.Lib.Hide
import Derived.Test.YtcdgbdojopfkgaaDoorBuilder
import Derived.Test.YtcdgbdojopfkgaaDoorPx5
import Derived.Test.YtcdgbdojopfkgaaDoorPx3
namespace Go.Proofs.YtcdgbdojopfkgaaDoor.P
open Go.RowKit Go.Shelf Go.Proofs.YtcdgbdojopfkgaaDoorW.PrintWords Go.Proofs.YtcdgbdojopfkgaaDoorW.PrintMore

/-- The sectors from number i on, what they hold behind acc. -/
def sector_Join.go (k : Nat) (num left n : Int) : List ByteArray → Nat → ByteArray → Option (Int × ByteArray × Int × Int)
  | [], _, acc => some (num, acc, n, 0)
  | s :: ss, i, acc => (sector_Open.f k s).bind fun q =>
    if q.2.2.2.2 = 0 ∧ q.1 = num ∧ q.2.1 = (i : Int) ∧ q.2.2.1 = wrap64 (left - (i : Int) * 44) then
      (if acc.size + q.2.2.2.1.size ≤ 140737488355328 then sector_Join.go k num left n ss (i + 1) (acc ++ q.2.2.2.1) else none)
    else some (0, ⟨#[]⟩, 0, 7)
def sector_Join.f (k : Nat) (l0 : List ByteArray) : Option (Int × ByteArray × Int × Int) :=
  if l0.length = 0 then some (0, ⟨#[]⟩, 0, 11) else
  (sector_Open.f k (rdOf ByteArray.empty l0 0)).bind fun q =>
    if q.2.2.2.2 = 0 ∧ q.2.1 = 0 then
      (sector_Count.f q.2.2.1).bind fun n => if n < 0 ∨ 182 < n then none else if (l0.length : Int) < n then some (0, ⟨#[]⟩, 0, 7) else sector_Join.go k q.1 q.2.2.1 n (l0.take n.toNat) 0 ⟨#[]⟩
    else some (0, ⟨#[]⟩, 0, 11)
theorem sector_Join.go_mono (k : Nat) (num left n : Int) : ∀ (l : List ByteArray) (i : Nat) (acc : ByteArray), LeO (sector_Join.go k num left n l i acc) (sector_Join.go (k + 1) num left n l i acc)
  | [], _, _ => LeO.refl _
  | s :: ss, i, acc => by
    unfold sector_Join.go
    refine LeO.bind (sector_Open.mono _ _) (fun q => ?_)
    refine LeO.ite (LeO.ite (sector_Join.go_mono k num left n ss _ _) (LeO.refl _)) (LeO.refl _)
theorem sector_Join.mono : ∀ a0 k, LeO (sector_Join.f k a0) (sector_Join.f (k + 1) a0) := by
  intro a0 k
  unfold sector_Join.f
  refine LeO.ite (LeO.refl _) (LeO.bind (sector_Open.mono _ _) (fun q => LeO.ite (LeO.bind (LeO.refl _) (fun n => LeO.ite (LeO.refl _) (LeO.ite (LeO.refl _) (sector_Join.go_mono k _ _ _ _ _ _)))) (LeO.refl _)))

theorem builder_below {T e : TypeId} {B b : Nat} {bs : List Value} {w w' : World} (h : Lib.IsBuilder T e B b bs w) (hb : Below w.heap.size w w') : Lib.IsBuilder T e B b bs w' := by
  have one : ∀ p, Lib.BuilderAt T e B b p bs w → Lib.BuilderAt T e B b p bs w' := by
    rintro p ⟨h1, v, h2, h3, h4⟩
    exact ⟨h1, v, (hb.block b (Array.getElem?_eq_some_iff.1 h2).1).trans h2, pw_own_below h3 hb, h4⟩
  exact h.elim (fun h => .inl (one _ h)) (fun h => .inr (one _ h))

theorem take_drop_cons (l : List ByteArray) {n j : Nat} (hj : j < n) (hn : n ≤ l.length) : (l.take n).drop j = rdOf ByteArray.empty l j :: (l.take n).drop (j + 1) := by
  have h1 : j < (l.take n).length := by rw [List.length_take]; omega
  rw [List.drop_eq_getElem_cons h1, List.getElem_take]
  congr 1
  unfold rdOf
  rw [Int.toNat_natCast, List.getD_eq_getElem?_getD, List.getElem?_eq_getElem (by omega)]
  rfl
theorem take_drop_nil (l : List ByteArray) (n : Nat) : (l.take n).drop n = [] := List.drop_eq_nil_of_le (by rw [List.length_take]; omega)
theorem keep_first {wr w4 : World} {g T : Nat} {cs : Array Value} (hF : wr.heap[g]? = some (.cells cs T (0, 0))) (hb4 : Below wr.heap.size wr w4) (o : Obj) (i : Nat) {v : Value} (hv : cs[i]? = some v) : (w4.alloc o).cell? ⟨g, i, none⟩ = some v := by
  have hl := (Array.getElem?_eq_some_iff.1 hF).1
  have e1 : (w4.alloc o).heap[g]? = wr.heap[g]? := (Below.heap_alloc w4 o g (by have := hb4.size; omega)).trans (hb4.block g hl)
  simp [World.cell?, e1, hF, hv]
theorem cells_append (a b : ByteArray) : Lib.byteCells a.data.toList ++ Lib.strCells b = Lib.byteCells (a ++ b).data.toList := by
  simp [Lib.byteCells, Lib.strCells]

set_option maxRecDepth 100000 in
set_option maxHeartbeats 4000000 in
theorem sector_Join.calls (k : Nat) (A0 : Option Addr) (c0 : Nat) (l0 : List ByteArray) (r1 : Int) (r2 : ByteArray) (r3 : Int) (r4 : Int) (w : World) (hr0 : Kd.C Kd.string w A0 l0.length l0) (hc0 : l0.length ≤ c0) (h : sector_Join.f k l0 = some (r1, r2, r3, r4)) :
    Calls Tryd.prog 55 #[.slice A0 l0.length c0] w fun e w' => e = .returned (.tuple #[.int .i64 r1, .string r2, .int .i64 r3, .int .i64 r4]) ∧ Below w.heap.size w w' := by
  unfold sector_Join.f at h
  by_cases h0 : l0.length = 0
  · rw [if_pos h0] at h
    simp only [Option.some.injEq, Prod.mk.injEq] at h
    obtain ⟨rfl, rfl, rfl, rfl⟩ := h
    have hz : ((l0.length : Int) == 0) = true := beq_iff_eq.mpr (by omega)
    clear hr0
    go_enter Tryd.func55, Tryd.ntmps55
    go_wp2
    exact bodyPost_ret (v := .tuple #[.int .i64 0, .string ⟨#[]⟩, .int .i64 0, .int .i64 11]) (by simp [results, Tryd.results55, go_sem]) rfl ⟨rfl, Below.refl _ _⟩
  · rw [if_neg h0] at h
    have hz : ((l0.length : Int) == 0) = false := beq_eq_false_iff_ne.mpr (by omega)
    have hlp : (0 : Int) < (l0.length : Int) := by omega
    obtain ⟨⟨q1, q2, q3, q4, q5⟩, hq, h⟩ := Option.bind_eq_some_iff.mp h
    obtain ⟨ad, rfl, hx0⟩ := Kd.at_string hr0 0 (by omega) hlp
    simp only [Int.toNat_zero] at hx0
    have hx : w.cell? ad = some (.string (rdOf ByteArray.empty l0 0)) := by rw [Addr.add_zero'] at hx0; exact hx0
    clear hx0
    have HQ := Aside0.mk hq
    clear hq
    have HR0 := Aside0.mk hr0
    clear hr0
    have HH := Aside0.mk h
    clear h
    by_cases h5 : q5 = 0
    · by_cases h2 : q2 = 0
      · have h := HH.out
        simp only at h
        rw [if_pos ⟨h5, h2⟩] at h
        clear HH
        obtain ⟨n, hn, h⟩ := Option.bind_eq_some_iff.mp h
        have hnb : ¬ (n < 0 ∨ 182 < n) := fun z => by rw [if_pos z] at h; cases h
        rw [if_neg hnb] at h
        obtain ⟨n, rfl⟩ : ∃ m : Nat, n = (m : Int) := ⟨n.toNat, by omega⟩
        have hn182 : n ≤ 182 := by omega
        clear hnb
        have HN := Aside0.mk hn
        clear hn
        have e1 : (q5 != 0) = false := bne_eq_false_iff_eq.mpr h5
        have e2 : (q2 != 0) = false := bne_eq_false_iff_eq.mpr h2
        clear h5 h2
        by_cases hl : (l0.length : Int) < (n : Int)
        · rw [if_pos hl] at h
          simp only [Option.some.injEq, Prod.mk.injEq] at h
          obtain ⟨rfl, rfl, rfl, rfl⟩ := h
          have e3 : decide ((l0.length : Int) < (n : Int)) = true := decide_eq_true hl
          have e4 : decide (l0.length < n) = true := decide_eq_true (by omega)
          go_enter Tryd.func55, Tryd.ntmps55
          go_wp2_with (first | (go_at_call 70; refine (sector_Open.calls k _ q1 q2 q3 q4 q5 _ HQ.out).mono ?_; rintro e w1 ⟨rfl, hb1⟩) | (go_at_call 24; refine (sector_Count.calls q3 n _ HN.out).mono ?_; rintro e w2 ⟨rfl, hb2⟩))
          exact bodyPost_ret (v := .tuple #[.int .i64 0, .string ⟨#[]⟩, .int .i64 0, .int .i64 7]) (by simp [results, Tryd.results55, go_sem]) rfl ⟨rfl, (below_alloc hb1 _).trans (hb2.mono (by have := hb1.size; simp; omega))⟩
        · rw [if_neg hl] at h
          have e3 : decide ((l0.length : Int) < (n : Int)) = false := decide_eq_false hl
          have e4 : decide (l0.length < n) = false := decide_eq_false (by omega)
          have hnl : n ≤ l0.length := by omega
          have hnc : n ≤ c0 := by omega
          clear hl
          rw [Int.toNat_natCast] at h
          have HG := Aside0.mk h
          clear h
          go_enter Tryd.func55, Tryd.ntmps55
          go_wp2_with (first | (go_at_call 70; refine (sector_Open.calls k _ q1 q2 q3 q4 q5 _ HQ.out).mono ?_; rintro e w1 ⟨rfl, hb1⟩) | (go_at_call 24; refine (sector_Count.calls q3 n _ HN.out).mono ?_; rintro e w2 ⟨rfl, hb2⟩))
          have s1 := hb1.size
          have s2 := hb2.size
          simp only [World.size_alloc] at s2
          have hF0 : w2.heap[w1.heap.size]? = some (.cells #[.int .i64 q1, .int .i64 q2, .int .i64 q3, .string q4] 126 (0, 0)) := (hb2.block _ (by simp)).trans (World.alloc_heap_new w1 _)
          have hF : (w2.alloc (.cells #[.pointer none, .slice none 0 0] 84)).heap[w1.heap.size]? = some (.cells #[.int .i64 q1, .int .i64 q2, .int .i64 q3, .string q4] 126 (0, 0)) := (Below.heap_alloc _ _ _ (by omega)).trans hF0
          have hBd := Aside0.mk (Lib.fresh_isBuilder 84 5 w2)
          have hBel := Aside0.mk (below_alloc ((below_alloc hb1 (.cells #[.int .i64 q1, .int .i64 q2, .int .i64 q3, .string q4] 126)).trans (hb2.mono (by simp; omega))) (.cells #[.pointer none, .slice none 0 0] 84))
          clear hF0 hx
          obtain ⟨gF, hgF⟩ : ∃ g_, w1.heap.size = g_ := ⟨_, rfl⟩
          obtain ⟨gB, hgB⟩ : ∃ g_, w2.heap.size = g_ := ⟨_, rfl⟩
          rw [hgF] at s1 s2 hF
          rw [hgB] at s2 hBd
          have hwB : w.heap.size ≤ gB := by omega
          simp only [hgF, hgB]
          clear hgF hb1 hb2
          go_loopw [42] (fun i wr => ∃ (j : Nat) (acc : ByteArray), i = .int .i64 j ∧ j ≤ n ∧ Aside0 (sector_Join.go k q1 q3 n ((l0.take n).drop j) j acc = some (r1, r2, r3, r4)) ∧ Aside0 (wr.heap[gF]? = some (.cells #[.int .i64 q1, .int .i64 q2, .int .i64 q3, .string q4] 126 (0, 0))) ∧ Aside0 (Lib.IsBuilder 84 5 gB gB (Lib.byteCells acc.data.toList) wr) ∧ Aside0 (Below w.heap.size w wr)) (fun i _ => n - (intOf i).toNat)
          case atStart => exact ⟨0, ⟨#[]⟩, rfl, Nat.zero_le _, HG, ⟨hF⟩, hBd, hBel⟩
          case round =>
            obtain ⟨j, acc, rfl, hj, HG, HF, HB, HW⟩ := hrel
            by_cases hlt : j < n
            · have hg := HG.out
              rw [take_drop_cons l0 hlt hnl] at hg
              unfold sector_Join.go at hg
              obtain ⟨⟨p1, p2, p3, p4, p5⟩, hp, hg⟩ := Option.bind_eq_some_iff.mp hg
              simp only at hg
              have HP := Aside0.mk hp
              clear hp
              obtain ⟨ad', hsome, hx0⟩ := Kd.at_string (Kd.C_below HR0.out HW.out) (j : Int) (by omega) (by omega)
              cases hsome
              simp only [Int.toNat_natCast] at hx0
              have hgFl : gF < wr.heap.size := (Array.getElem?_eq_some_iff.1 HF.out).1
              have hjb : (j : Int) ≤ 182 := by omega
              by_cases g5 : p5 = 0
              · have f1 : (p5 != 0) = false := bne_eq_false_iff_eq.mpr g5
                by_cases g1 : p1 = q1
                · have f2 : (p1 != q1) = false := bne_eq_false_iff_eq.mpr g1
                  by_cases g2 : p2 = (j : Int)
                  · have f3 : (p2 != (j : Int)) = false := bne_eq_false_iff_eq.mpr g2
                    by_cases g3 : p3 = wrap64 (q3 - (j : Int) * 44)
                    · have f4 : (p3 != wrap64 (q3 - (j : Int) * 44)) = false := bne_eq_false_iff_eq.mpr g3
                      rw [if_pos ⟨g5, g1, g2, g3⟩] at hg
                      clear g5 g1 g2 g3
                      have hsz : acc.size + p4.size ≤ 140737488355328 := by
                        apply Classical.byContradiction
                        intro z
                        rw [if_neg z] at hg
                        cases hg
                      rw [if_pos hsz] at hg
                      have HG2 := Aside0.mk hg
                      have hgBl : gB < wr.heap.size := HB.out.elim (fun h => h.lt) (fun h => h.lt)
                      have hlen : (Lib.byteCells acc.data.toList).length + p4.size ≤ 140737488355328 := by rw [Lib.byteCells_length]; simpa using hsz
                      clear hg
                      go_wp2_with (first | (go_at_call 70; refine (sector_Open.calls k _ p1 p2 p3 p4 p5 _ HP.out).mono ?_; rintro e w4 ⟨rfl, hb4⟩; have cF0 : (w4.alloc (.cells #[.int .i64 p1, .int .i64 p2, .int .i64 p3, .string p4] 126)).cell? ⟨gF, 0, none⟩ = some (.int .i64 q1) := keep_first HF.out hb4 _ _ rfl; have cF2 : (w4.alloc (.cells #[.int .i64 p1, .int .i64 p2, .int .i64 p3, .string p4] 126)).cell? ⟨gF, 2, none⟩ = some (.int .i64 q3) := keep_first HF.out hb4 _ _ rfl; have hB4 := Aside0.mk (builder_below HB.out (below_alloc hb4 (.cells #[.int .i64 p1, .int .i64 p2, .int .i64 p3, .string p4] 126)))) | (go_at_call 38; refine (Bld.writeString gB gB _ p4 _ hB4.out hlen ?_).mono ?_; (have z1 := hb4.size; simp; omega); rintro e w5 ⟨rfl, hB5, hb5⟩))
                      have hgF5 : w5.heap[gF]? = some (.cells #[.int .i64 q1, .int .i64 q2, .int .i64 q3, .string q4] 126 (0, 0)) := by
                        have z1 := hb4.size
                        refine (hb5.block gF (by omega)).trans ((Below.heap_alloc w4 _ gF (by omega)).trans ((hb4.block gF hgFl).trans HF.out))
                      rw [cells_append] at hB5
                      have hW5 : Below w.heap.size w w5 := (below_alloc (HW.out.trans (hb4.mono HW.out.size)) _).trans (hb5.mono hwB)
                      go_roundw
                      case rel => exact ⟨j + 1, acc ++ p4, by go_num, by omega, HG2, ⟨hgF5⟩, ⟨.inr hB5⟩, ⟨hW5⟩⟩
                      case measure => simp [intOf]; omega
                    · rw [if_neg (fun z => g3 z.2.2.2)] at hg
                      simp only [Option.some.injEq, Prod.mk.injEq] at hg
                      obtain ⟨rfl, rfl, rfl, rfl⟩ := hg
                      have f4 : (p3 != wrap64 (q3 - (j : Int) * 44)) = true := bne_iff_ne.mpr g3
                      clear g3 g5 g1 g2
                      go_wp2_with (go_at_call 70; refine (sector_Open.calls k _ p1 p2 p3 p4 p5 _ HP.out).mono ?_; rintro e w4 ⟨rfl, hb4⟩; have cF0 : (w4.alloc (.cells #[.int .i64 p1, .int .i64 p2, .int .i64 p3, .string p4] 126)).cell? ⟨gF, 0, none⟩ = some (.int .i64 q1) := keep_first HF.out hb4 _ _ rfl; have cF2 : (w4.alloc (.cells #[.int .i64 p1, .int .i64 p2, .int .i64 p3, .string p4] 126)).cell? ⟨gF, 2, none⟩ = some (.int .i64 q3) := keep_first HF.out hb4 _ _ rfl)
                      exact bodyPost_ret (v := .tuple #[.int .i64 0, .string ⟨#[]⟩, .int .i64 0, .int .i64 7]) (by simp [results, Tryd.results55, go_sem]) rfl ⟨rfl, below_alloc (HW.out.trans (hb4.mono HW.out.size)) _⟩
                  · rw [if_neg (fun z => g2 z.2.2.1)] at hg
                    simp only [Option.some.injEq, Prod.mk.injEq] at hg
                    obtain ⟨rfl, rfl, rfl, rfl⟩ := hg
                    have f3 : (p2 != (j : Int)) = true := bne_iff_ne.mpr g2
                    clear g2 g5 g1
                    go_wp2_with (go_at_call 70; refine (sector_Open.calls k _ p1 p2 p3 p4 p5 _ HP.out).mono ?_; rintro e w4 ⟨rfl, hb4⟩; have cF0 : (w4.alloc (.cells #[.int .i64 p1, .int .i64 p2, .int .i64 p3, .string p4] 126)).cell? ⟨gF, 0, none⟩ = some (.int .i64 q1) := keep_first HF.out hb4 _ _ rfl; have cF2 : (w4.alloc (.cells #[.int .i64 p1, .int .i64 p2, .int .i64 p3, .string p4] 126)).cell? ⟨gF, 2, none⟩ = some (.int .i64 q3) := keep_first HF.out hb4 _ _ rfl)
                    exact bodyPost_ret (v := .tuple #[.int .i64 0, .string ⟨#[]⟩, .int .i64 0, .int .i64 7]) (by simp [results, Tryd.results55, go_sem]) rfl ⟨rfl, below_alloc (HW.out.trans (hb4.mono HW.out.size)) _⟩
                · rw [if_neg (fun z => g1 z.2.1)] at hg
                  simp only [Option.some.injEq, Prod.mk.injEq] at hg
                  obtain ⟨rfl, rfl, rfl, rfl⟩ := hg
                  have f2 : (p1 != q1) = true := bne_iff_ne.mpr g1
                  clear g1 g5
                  go_wp2_with (go_at_call 70; refine (sector_Open.calls k _ p1 p2 p3 p4 p5 _ HP.out).mono ?_; rintro e w4 ⟨rfl, hb4⟩; have cF0 : (w4.alloc (.cells #[.int .i64 p1, .int .i64 p2, .int .i64 p3, .string p4] 126)).cell? ⟨gF, 0, none⟩ = some (.int .i64 q1) := keep_first HF.out hb4 _ _ rfl; have cF2 : (w4.alloc (.cells #[.int .i64 p1, .int .i64 p2, .int .i64 p3, .string p4] 126)).cell? ⟨gF, 2, none⟩ = some (.int .i64 q3) := keep_first HF.out hb4 _ _ rfl)
                  exact bodyPost_ret (v := .tuple #[.int .i64 0, .string ⟨#[]⟩, .int .i64 0, .int .i64 7]) (by simp [results, Tryd.results55, go_sem]) rfl ⟨rfl, below_alloc (HW.out.trans (hb4.mono HW.out.size)) _⟩
              · rw [if_neg (fun z => g5 z.1)] at hg
                simp only [Option.some.injEq, Prod.mk.injEq] at hg
                obtain ⟨rfl, rfl, rfl, rfl⟩ := hg
                have f1 : (p5 != 0) = true := bne_iff_ne.mpr g5
                clear g5
                go_wp2_with (go_at_call 70; refine (sector_Open.calls k _ p1 p2 p3 p4 p5 _ HP.out).mono ?_; rintro e w4 ⟨rfl, hb4⟩)
                exact bodyPost_ret (v := .tuple #[.int .i64 0, .string ⟨#[]⟩, .int .i64 0, .int .i64 7]) (by simp [results, Tryd.results55, go_sem]) rfl ⟨rfl, below_alloc (HW.out.trans (hb4.mono HW.out.size)) _⟩
            · obtain rfl : j = n := by omega
              have hg := HG.out
              rw [take_drop_nil] at hg
              simp only [sector_Join.go, Option.some.injEq, Prod.mk.injEq] at hg
              obtain ⟨rfl, rfl, rfl, rfl⟩ := hg
              have cF : wr.cell? ⟨gF, 0, none⟩ = some (.int .i64 q1) := by simp [World.cell?, HF.out]
              have hBld := HB.out
              have hgBl : gB < wr.heap.size := hBld.elim (fun h => h.lt) (fun h => h.lt)
              have hne := World.new_ne wr ⟨gF, 0, none⟩ cF
              go_wp2
              go_region_held3 (fun w' => w'.cell? ⟨gF, 0, none⟩ = some (.int .i64 q1)) (go_keep) (first | (go_at_call 40; refine (Tryd.Builder_String_any gB gB acc.data.toList _ ?_ ?_).mono ?_; exact hBld.elim (fun h => .inl h.drew) (fun h => .inr h.drew); exact Nat.le_of_lt hgBl; rintro e w5 ⟨rfl, hb5⟩; have cF5 := (hb5.cell (p := ⟨gF, 0, none⟩) (by simp; omega)).trans cF))
              go_wp2
              refine bodyPost_ret (v := .tuple #[.int .i64 q1, .string acc, .int .i64 j, .int .i64 0]) (by simp [results, Tryd.results55, go_sem]) rfl ⟨rfl, ?_⟩
              exact (HW.out.drew).trans (hb5.mono hwB)
      · have h := HH.out
        simp only at h
        rw [if_neg (fun z => h2 z.2)] at h
        simp only [Option.some.injEq, Prod.mk.injEq] at h
        obtain ⟨rfl, rfl, rfl, rfl⟩ := h
        clear HH
        have e1 : (q5 != 0) = false := bne_eq_false_iff_eq.mpr h5
        have e2 : (q2 != 0) = true := bne_iff_ne.mpr h2
        clear h5 h2
        go_enter Tryd.func55, Tryd.ntmps55
        go_wp2_with (go_at_call 70; refine (sector_Open.calls k _ q1 q2 q3 q4 q5 _ HQ.out).mono ?_; rintro e w1 ⟨rfl, hb1⟩)
        exact bodyPost_ret (v := .tuple #[.int .i64 0, .string ⟨#[]⟩, .int .i64 0, .int .i64 11]) (by simp [results, Tryd.results55, go_sem]) rfl ⟨rfl, below_alloc hb1 _⟩
    · have h := HH.out
      simp only at h
      rw [if_neg (fun z => h5 z.1)] at h
      simp only [Option.some.injEq, Prod.mk.injEq] at h
      obtain ⟨rfl, rfl, rfl, rfl⟩ := h
      clear HH
      have e1 : (q5 != 0) = true := bne_iff_ne.mpr h5
      clear h5
      go_enter Tryd.func55, Tryd.ntmps55
      go_wp2_with (go_at_call 70; refine (sector_Open.calls k _ q1 q2 q3 q4 q5 _ HQ.out).mono ?_; rintro e w1 ⟨rfl, hb1⟩)
      exact bodyPost_ret (v := .tuple #[.int .i64 0, .string ⟨#[]⟩, .int .i64 0, .int .i64 11]) (by simp [results, Tryd.results55, go_sem]) rfl ⟨rfl, below_alloc hb1 _⟩
end Go.Proofs.YtcdgbdojopfkgaaDoor.P
