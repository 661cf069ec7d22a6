/- memory.New: strings.Repeat, slices.Repeat at sectors. -/
import Derived.Laws.CopyRow
import Derived.Laws.CopyOwn
import Derived.Laws.MakeOwn
import Derived.Deep.RegionLaw
import Derived.Shelf.Spec.SlicesInsert
import Derived.Test.YtcdgbdojopfkgaaDoorShelf
import Derived.Test.YtcdgbdojopfkgaaDoorMem
namespace Go.Proofs.YtcdgbdojopfkgaaDoor.P
open Go.RowKit Go.Proofs.YtcdgbdojopfkgaaDoorW.PrintWords Go.Proofs.YtcdgbdojopfkgaaDoorW.PrintMore

/-- 'copy' between two slices of elements of sz cells. -/
theorem run_copy_rows {P : Program} (w : World) (dT sT ty elem : TypeId) (g o dLen dCap : Nat) (a : Addr) (sLen sCap sz : Nat) (cur : Array Value) (t : TypeId) (cs : List Value)
    (hu : P.underlying dT = some (.slice elem)) (hs : (P.info? elem).map (·.size) = some sz)
    (hg : w.heap[g]? = some (.cells cur t (0, 0))) (hn : cs.length = Nat.min sLen dLen * sz)
    (hsrc : ∀ j v, cs[j]? = some v → w.cell? (a.add j) = some v) (hfit : o + cs.length ≤ cur.size) (h1 : ∀ v ∈ cs, v.oneCell' = true) :
    (Builtin.copy_ #[dT, sT] ty #[.slice (some ⟨g, o, none⟩) dLen dCap, .slice (some a) sLen sCap]).run P w =
      .ok (goInt (Nat.min sLen dLen)) (w.setRow g (cur.toList.take o ++ cs ++ cur.toList.drop (o + cs.length)).toArray) := by
  have hl := run_loadCells_list (P := P) w a cs hsrc
  have hst := run_storeCells_at P g o t cs 0 cur w hg (by simpa using hfit) h1
  cases hq : P.info? elem with
  | none => simp [hq] at hs
  | some i =>
    have hi : i.size = sz := by simpa [hq] using hs
    simp [Builtin.copy_, run_underlying hu, Builtin.lenOf, Builtin.firstCells, sizeOf, typeInfo, hq, hi, ← hn, hl, hst]
theorem Sec.cells_one (s : Sec) : ∀ v ∈ s.cells, v.oneCell' = true := by
  intro v hv
  simp only [Sec.cells, List.mem_cons, List.mem_nil_iff, or_false] at hv
  rcases hv with rfl | rfl | rfl | rfl | rfl <;> rfl
theorem secCells_one : ∀ (l : List Sec), ∀ v ∈ secCells l, v.oneCell' = true
  | [], v, hv => by simp [secCells] at hv
  | s :: l, v, hv => by
    rcases List.mem_append.1 hv with h | h
    · exact s.cells_one v h
    · exact secCells_one l v h
theorem secCells_append : ∀ (l m : List Sec), secCells (l ++ m) = secCells l ++ secCells m
  | [], _ => rfl
  | s :: l, m => by
    show s.cells ++ secCells (l ++ m) = (s.cells ++ secCells l) ++ secCells m
    rw [secCells_append l m, List.append_assoc]
def zSec : Sec := ⟨⟨#[]⟩, ⟨#[]⟩, ⟨#[]⟩, false, false⟩
theorem infoSec : (Tryd.prog.info? 101).map (fun i => (i.zero, i.size, i.bytes)) = some (some (.agg #[.string ⟨#[]⟩, .string ⟨#[]⟩, .string ⟨#[]⟩, .bool false, .bool false]), 5, 56) := by kernel_rfl
theorem made_secs (n : Nat) : madeCells #[.string ⟨#[]⟩, .string ⟨#[]⟩, .string ⟨#[]⟩, .bool false, .bool false] (n * 5) = (secCells (List.replicate n zSec)).toArray := by
  apply Array.ext
  · rw [size_madeCells, List.size_toArray, secCells_length, List.length_replicate]
  · intro i h1 h2
    rw [size_madeCells] at h1
    have e : i = i / 5 * 5 + i % 5 := by omega
    have h3 : (secCells (List.replicate n zSec))[i]? = zSec.cells[i % 5]? := by
      conv => lhs; rw [e]
      exact secCells_get _ (i / 5) (i % 5) zSec (by rw [List.getElem?_replicate, if_pos (by omega)]) (by omega)
    have h4 : (secCells (List.replicate n zSec))[i]? = some ((secCells (List.replicate n zSec))[i]'(by simpa using h2)) := List.getElem?_eq_getElem _
    rw [h4] at h3
    have h5 : (madeCells #[.string ⟨#[]⟩, .string ⟨#[]⟩, .string ⟨#[]⟩, .bool false, .bool false] (n * 5))[i]'(by rw [size_madeCells]; exact h1) = #[Value.string ⟨#[]⟩, .string ⟨#[]⟩, .string ⟨#[]⟩, .bool false, .bool false][i % 5]! := by simp [madeCells]
    refine h5.trans ?_
    rw [List.getElem_toArray]
    have h6 : i % 5 < 5 := by omega
    generalize i % 5 = j at h3 h6 ⊢
    match j, h6 with
    | 0, _ => exact (Option.some.inj h3).symm
    | 1, _ => exact (Option.some.inj h3).symm
    | 2, _ => exact (Option.some.inj h3).symm
    | 3, _ => exact (Option.some.inj h3).symm
    | 4, _ => exact (Option.some.inj h3).symm
theorem sec_makeRow (n : Nat) (hn : n ≤ 4096) : ∀ w : World, (Instr.makeSlice 115 (.int .i64 (n : Int)) (.int .i64 (n : Int))).run Tryd.prog w = .ok (.slice (some ⟨w.heap.size, 0, none⟩) n n) (w.alloc (.cells (secCells (List.replicate n zSec)).toArray 101)) := fun w => by
  obtain ⟨i, hi, hz, h5, h56⟩ := info_parts infoSec
  have := run_make (P := Tryd.prog) w 115 101 i _ Tryd.underlying115 hi hz .i64 .i64 n n (by omega) (Int.le_refl _) (by rw [h56]; omega) (by omega)
  rw [this, h5, Int.toNat_natCast]
  simp only [Value.cells, made_secs]
theorem mul_one (n : Nat) (hn : n ≤ 4096) (w : World) : Calls Tryd.prog 35 #[.int .u64 1, .int .u64 (n : Int)] w fun e w' => e = .returned (.tuple #[.int .u64 0, .int .u64 (n : Int)]) ∧ w' = w := by
  refine (Tryd.bits_Mul 1 n (by omega) (by omega) w).mono ?_
  rintro e w' ⟨rfl, rfl⟩
  rw [Nat.one_mul, Nat.div_eq_of_lt (by omega), Nat.mod_eq_of_lt (by omega)]
  exact ⟨rfl, rfl⟩
def rowAt (s : Sec) (n k : Nat) : List Sec := List.replicate k s ++ List.replicate (n - k) zSec
theorem rowAt_step (s : Sec) (n k m : Nat) (hk : k + m ≤ n) : (secCells (rowAt s n k)).take (k * 5) ++ secCells (List.replicate m s) ++ (secCells (rowAt s n k)).drop (k * 5 + (secCells (List.replicate m s)).length) = secCells (rowAt s n (k + m)) := by
  have e0 : (secCells (List.replicate k s)).length = k * 5 := by rw [secCells_length, List.length_replicate]
  have e1 : (secCells (List.replicate m s)).length = m * 5 := by rw [secCells_length, List.length_replicate]
  have e2 : (secCells (List.replicate m zSec)).length = m * 5 := by rw [secCells_length, List.length_replicate]
  have e3 : List.replicate (n - k) zSec = List.replicate m zSec ++ List.replicate (n - (k + m)) zSec := by
    rw [List.replicate_append_replicate]
    congr 1
    omega
  unfold rowAt
  rw [secCells_append, e1, List.take_left' e0, e3, secCells_append (List.replicate m zSec), ← List.append_assoc (secCells (List.replicate k s)), List.drop_left' (by rw [List.length_append, e0, e2]),
    ← secCells_append, ← secCells_append, List.replicate_append_replicate]
theorem Blk.setRow {w : World} {g : Nat} {cs : List Value} (h : Blk w g cs) (ds : List Value) : Blk (w.setRow g ds.toArray) g ds := by
  obtain ⟨t, h⟩ := h
  exact ⟨t, setRow_heap w g _ _ t _ h⟩
theorem Mod.setRow {S : Nat → Prop} {a b : World} (h : Mod S a b) {g : Nat} (hg : S g ∨ a.heap.size ≤ g) (cs : Array Value) : Mod S a (b.setRow g cs) :=
  ⟨h.os, h.tape, h.output, by rw [show (b.setRow g cs).heap.size = b.heap.size by simp [World.setRow]]; exact h.size, fun i hi hn => by
    rw [setRow_other b g i cs (fun e => by subst e; rcases hg with hg | hg; exact hn hg; omega)]
    exact h.block i hi hn⟩

set_option maxRecDepth 100000 in
set_option maxHeartbeats 4000000 in
theorem repeat_secs (gx n : Nat) (s : Sec) (hn1 : 1 ≤ n) (hn : n ≤ 4096) (w : World) (hx : Blk w gx s.cells) :
    Calls Tryd.prog 61 #[.slice (some ⟨gx, 0, none⟩) 1 1, .int .i64 n] w fun e w' => ∃ g, e = .returned (.slice (some ⟨g, 0, none⟩) n n) ∧ w.heap.size ≤ g ∧ Blk w' g (secCells (List.replicate n s)) ∧ Mod (fun _ => False) w w' := by
  have hmk := sec_makeRow n hn
  have hu1 : IntKind.u64.wrap 1 = 1 := by unfold IntKind.wrap; simp [IntKind.bits, IntKind.signed]
  have hu2 : IntKind.u64.wrap (n : Int) = (n : Int) := by unfold IntKind.wrap; simp [IntKind.bits, IntKind.signed]; omega
  have hi2 : IntKind.i64.wrap (n : Int) = (n : Int) := by rw [IntKind.wrap_i64]; omega
  have hd1 : decide ((n : Int) < 0) = false := decide_eq_false (by omega)
  have hd2 : decide ((9223372036854775807 : Int) < (n : Int)) = false := decide_eq_false (by omega)
  have HX := Aside0.mk hx
  clear hx
  go_enter Tryd.func61, Tryd.ntmps61
  go_wp2_with fail
  refine (mul_one n hn _).mono ?_
  rintro e w' ⟨rfl, hw⟩
  obtain rfl : w = w' := hw.symm
  go_wp2_with fail
  have hg : Blk (w.alloc (.cells (secCells (List.replicate n zSec)).toArray 101)) w.heap.size (secCells (rowAt s n 0)) := by
    have := Blk.new w (secCells (List.replicate n zSec)).toArray 101
    simpa [rowAt] using this
  have hxa := HX.out.alloc (.cells (secCells (List.replicate n zSec)).toArray 101)
  have hm0 : Mod (fun _ => False) w (w.alloc (.cells (secCells (List.replicate n zSec)).toArray 101)) := (Mod.refl _ _).alloc _
  generalize w.alloc (.cells (secCells (List.replicate n zSec)).toArray 101) = W0 at hg hxa hm0 ⊢
  have hg1 := hg.setRow (secCells (rowAt s n 1))
  obtain ⟨t0, hg0⟩ := hg
  have hrow : ((secCells (rowAt s n 0)).toArray.toList.take 0 ++ s.cells ++ (secCells (rowAt s n 0)).toArray.toList.drop (0 + s.cells.length)).toArray = (secCells (rowAt s n 1)).toArray := by
    have := rowAt_step s n 0 1 (by omega)
    have e1 : secCells (List.replicate 1 s) = s.cells := by show s.cells ++ [] = _; rw [List.append_nil]
    rw [e1] at this
    exact congrArg List.toArray this
  have hmin : Nat.min 1 n = 1 := Nat.min_eq_left hn1
  rw [run_copy_rows W0 115 115 _ 101 w.heap.size 0 n n ⟨gx, 0, none⟩ 1 1 5 _ t0 s.cells Tryd.underlying115 (by obtain ⟨i, hi, _, h5, _⟩ := info_parts infoSec; rw [hi]; exact congrArg some h5) hg0 (by rw [hmin]; rfl)
    (fun j v hv => by rw [add_plain]; exact hxa.cell j hv) (by rw [List.size_toArray, secCells_length]; show 0 + 5 ≤ _; simp [rowAt]; omega) s.cells_one, hrow, hmin]
  simp only [Result.andThen]
  rw [Oper.upon_value]
  have hm1 : Mod (fun _ => False) w (W0.setRow w.heap.size (secCells (rowAt s n 1)).toArray) := hm0.setRow (.inr (Nat.le_refl _)) _
  generalize W0.setRow w.heap.size (secCells (rowAt s n 1)).toArray = W1 at hg1 hm1 ⊢
  have HG := Aside0.mk hg1
  have HM := Aside0.mk hm1
  clear hg0 hrow hxa hm0 hg1 hm1 hmk hmin hw
  go_wp2
  go_loopw [8] (fun i wr => ∃ k : Nat, i = .int .i64 k ∧ 1 ≤ k ∧ k ≤ n ∧ Aside0 (Blk wr w.heap.size (secCells (rowAt s n k))) ∧ Aside0 (Mod (fun _ => False) w wr)) (fun i _ => n - (intOf i).toNat)
  case atStart => exact ⟨1, rfl, Nat.le_refl _, hn1, HG, HM⟩
  case round =>
    obtain ⟨k, rfl, hk1, hk2, HGk, HMk⟩ := hrel
    clear HG HM
    by_cases hlt : k < n
    · have hlt2 : (k : Int) < (n : Int) := by omega
      have hp1 : 0 ≤ (k : Int) := by omega
      have hp2 : (k : Int) ≤ (n : Int) := by omega
      have hne : ¬ n = k := by omega
      obtain ⟨m, hm⟩ : ∃ m, Nat.min k (n - k) = m := ⟨_, rfl⟩
      have hm0 : min k (n - k) = m := hm
      have hm1 : 1 ≤ m := by omega
      have hm2 : k + m ≤ n := by omega
      have hcopy : Sem.run Tryd.prog (Builtin.copy_ #[115, 115] 3 #[.slice (some ⟨w.heap.size, k * 5, none⟩) (n - k) (n - k), .slice (some ⟨w.heap.size, 0, none⟩) k n]) wr.drew =
          .ok (.int .i64 (m : Int)) (wr.drew.setRow w.heap.size (secCells (rowAt s n (k + m))).toArray) := by
        obtain ⟨t1, hg1⟩ := HGk.out
        have hrow := rowAt_step s n k m hm2
        have hlen : (secCells (List.replicate m s)).length = m * 5 := by rw [secCells_length, List.length_replicate]
        have := run_copy_rows (P := Tryd.prog) wr.drew 115 115 3 101 w.heap.size (k * 5) (n - k) (n - k) ⟨w.heap.size, 0, none⟩ k n 5 (secCells (rowAt s n k)).toArray t1 (secCells (List.replicate m s)) Tryd.underlying115 (by obtain ⟨i, hi, _, h5, _⟩ := info_parts infoSec; rw [hi]; exact congrArg some h5) hg1 (by rw [hm, hlen])
          (fun j v hv => by
            rw [add_plain]
            refine HGk.out.cell j ?_
            have hj : j < (secCells (List.replicate m s)).length := (List.getElem?_eq_some_iff.1 hv).1
            have e : rowAt s n k = List.replicate m s ++ (List.replicate (k - m) s ++ List.replicate (n - k) zSec) := by
              unfold rowAt
              rw [← List.append_assoc, List.replicate_append_replicate]
              congr 2
              have : m ≤ k := by rw [← hm]; exact Nat.min_le_left _ _
              omega
            rw [e, secCells_append, List.getElem?_append_left hj]
            exact hv) (by rw [hlen, List.size_toArray, secCells_length]; simp only [rowAt, List.length_append, List.length_replicate]; omega) (secCells_one _)
        rw [this, hm, hrow]
        rfl
      clear hm hm0
      have hw1 : IntKind.i64.wrap ((k : Int) + (m : Int)) = (k : Int) + (m : Int) := by rw [IntKind.wrap_i64]; omega
      go_wp2
      go_region
      clear hcopy hw1
      have hg2 := (HGk.out.drew).setRow (secCells (rowAt s n (k + m)))
      have hm3 : Mod (fun _ => False) w (wr.drew.setRow w.heap.size (secCells (rowAt s n (k + m))).toArray) := HMk.out.drew.setRow (.inr (Nat.le_refl _)) _
      go_wp2
      go_roundw
      case rel => exact ⟨k + m, by first | rfl | go_num, by omega, hm2, ⟨hg2⟩, ⟨hm3⟩⟩
      case measure => simp [intOf]; omega
    · have hge : ¬ (k : Int) < (n : Int) := by omega
      go_wp2
      go_ret
      obtain rfl : k = n := by omega
      have hg2 := HGk.out
      rw [show rowAt s k k = List.replicate k s by simp [rowAt]] at hg2
      exact ⟨_, rfl, Nat.le_refl _, hg2, HMk.out⟩
theorem below_new (w : World) (o : Obj) : Below w.heap.size w (w.alloc o) := (Below.refl _ w).alloc (Nat.le_refl _) _
/-- A string of equal bytes. -/
def same_ (c : UInt8) (n : Nat) : ByteArray := ⟨(List.replicate n c).toArray⟩
theorem same_size (c : UInt8) (n : Nat) : (same_ c n).size = n := by
  show (List.replicate n c).toArray.size = n
  simp
theorem repeatL_one (c : UInt8) : ∀ n, Lib.repeatL [c] n = List.replicate n c
  | 0 => rfl
  | n + 1 => by
    show [c] ++ Lib.repeatL [c] n = _
    rw [repeatL_one c n]
    rfl
theorem repeat_one (c : UInt8) (n : Nat) (hn : n ≤ 100000) (w : World) : Calls Tryd.prog 20 #[.string ⟨#[c]⟩, .int .i64 (n : Int)] w fun e w' => e = .returned (.string (same_ c n)) ∧ Below w.heap.size w w' := by
  refine (Tryd.strings_Repeat ⟨#[c]⟩ n w (by omega) (by show 1 * n ≤ _; omega)).mono ?_
  rintro e w' ⟨rfl, hb⟩
  refine ⟨?_, hb⟩
  show Ending.returned (.string ⟨(Lib.repeatL [c] n).toArray⟩) = _
  rw [repeatL_one]
  rfl
def sec0 : Sec := ⟨same_ 0 64, same_ 0 64, ⟨#[]⟩, false, false⟩
set_option maxRecDepth 100000 in
set_option maxHeartbeats 4000000 in
theorem mem_new (n : Nat) (hn1 : 1 ≤ n) (hn : n ≤ 4096) (w : World) :
    Calls Tryd.prog 41 #[.int .i64 n] w fun e w' => ∃ bm bs, e = .returned (.tuple #[.pointer (some ⟨bm, 0, none⟩), .int .i64 0]) ∧ w.heap.size ≤ bm ∧ w.heap.size ≤ bs ∧ MemRep w' bm bs n (List.replicate n sec0) ∧ Below w.heap.size w w' := by
  have hd1 : decide ((n : Int) < 1) = false := decide_eq_false (by omega)
  have hd2 : decide ((4096 : Int) < (n : Int)) = false := decide_eq_false (by omega)
  have hrep := fun W => repeat_one 0 64 (by omega) W
  have HREP := Aside0.mk hrep
  clear hrep
  go_enter Tryd.func41, Tryd.ntmps41
  go_wp2_with fail
  refine (HREP.out _).mono ?_
  rintro e w1 ⟨rfl, hb1⟩
  go_wp2_with fail
  have hx := Blk.new w1 sec0.cells.toArray 101
  have hb2 := below_new w1 (.cells sec0.cells.toArray 101 (0, 0))
  refine (repeat_secs w1.heap.size n sec0 hn1 hn _ hx).mono ?_
  rintro e w3 ⟨g, rfl, hg, hblk, hm⟩
  have hb3 : Below w.heap.size w w3 := (hb1.trans (hb2.mono hb1.size)).trans ((hm.toBelow (Nat.le_refl _) (fun _ h => h.elim)).mono (Nat.le_trans hb1.size hb2.size))
  have hg2 : w.heap.size ≤ g := Nat.le_trans (Nat.le_trans hb1.size hb2.size) hg
  have HB := Aside0.mk hb3
  have HK := Aside0.mk hblk
  clear hx hb1 hb2 hm hblk hb3
  go_wp2
  go_ret2
  have h3 := HB.out.size
  have hlt := HK.out.lt
  refine ⟨_, _, rfl, h3, hg2, ⟨?_, HK.out.alloc _, by omega, by simp, by simpa using hn⟩, HB.out.alloc h3 _⟩
  have := Blk.new w3 #[.slice (some ⟨g, 0, none⟩) n n] 118
  simpa using this
end Go.Proofs.YtcdgbdojopfkgaaDoor.P
