/- How a row's parameters read: a step of a script, a script. -/
import Derived.ChangeArms
import Derived.WideShapes
import Derived.OpenShut
import Derived.SliceStrings
import Derived.Lib.LaidTab
import Derived.Test.YtcdgbdojopfkgaaDoorRows
import Derived.Test.YtcdgbdojopfkgaaDoorLawSanity
namespace Go.Proofs.YtcdgbdojopfkgaaDoor.P
open Go.RowKit Go.ChangeShapes Go.WideShapes Go.Proofs.YtcdgbdojopfkgaaDoorW.PrintWords Go.Proofs.YtcdgbdojopfkgaaDoorW.PrintMore

theorem exists_list {α : Type} (Q : Nat → α → Prop) : ∀ n : Nat, (∀ i, i < n → ∃ x, Q i x) → ∃ l : List α, l.length = n ∧ ∀ i x, l[i]? = some x → Q i x
  | 0, _ => ⟨[], rfl, fun i x h => by simp at h⟩
  | n + 1, h => by
    obtain ⟨l, hl, hq⟩ := exists_list Q n (fun i hi => h i (by omega))
    obtain ⟨x, hx⟩ := h n (by omega)
    refine ⟨l ++ [x], by simp [hl], fun i y hy => ?_⟩
    by_cases hi : i < n
    · rw [List.getElem?_append_left (by omega)] at hy
      exact hq i y hy
    · rw [List.getElem?_append_right (by omega)] at hy
      have hin : i - l.length = 0 := by
        have := (List.getElem?_eq_some_iff.1 hy).1
        simp at this
        omega
      rw [hin] at hy
      obtain rfl : x = y := by simpa using hy
      have : i = n := by omega
      rw [this]; exact hx
section
variable {H : Type} {enc : TypeId × Value → H} {P : Program} {W : World} {base : Nat} {sp : Nat → Bool} {held : Bool}
theorem open_C {α : Type} (d : Kd α) {t e : TypeId} (ht : P.underlying t = some (.slice e)) (hcell : P.cellsOf e = d.sz) (ok : α → Prop)
    (he : ∀ n cs y, DataW.trod enc P W base sp held n e cs = some y → ∃ x, d.K W x cs ∧ ok x) {fuel : Nat} {cs : List Value} {y : DataW H × List MemPlace} (h : DataW.trod enc P W base sp held fuel t cs = some y) :
    ∃ (A : Option Addr) (c : Nat) (xs : List α), cs = [.slice A xs.length c] ∧ xs.length ≤ c ∧ Kd.C d W A xs.length xs ∧ ∀ x ∈ xs, ok x := by
  rcases DataW.trod_slice ht h with ⟨rfl, _⟩ | ⟨a, len, cap, elems, rest, n, _, rfl, _, _, hl, hm, hlen, hel, _, _⟩
  · exact ⟨none, 0, [], rfl, Nat.le_refl _, Kd.C_nil _ _, fun x hx => by simp at hx⟩
  · obtain ⟨xs, hxl, hx⟩ := exists_list (fun i x => ok x ∧ ∃ c, c.length = d.sz ∧ d.K W x c ∧ ∀ j u, c[j]? = some u → W.cell? (a.add (i * d.sz + j)) = some u) len (fun i hi => by
      have hE := hel i hi
      rw [List.getElem?_eq_getElem (by omega), Option.bind_eq_some_iff] at hE
      obtain ⟨c1, hc1, hy1⟩ := hE
      obtain ⟨_, hcl, hcell2⟩ := World.cells?_some hc1
      obtain ⟨x, hK, hok⟩ := he _ _ _ hy1
      refine ⟨x, hok, c1, hcl.trans hcell, hK, fun j u hu => ?_⟩
      have hj := (List.getElem?_eq_some_iff.1 hu).1
      have := hcell2 j (by omega)
      rw [hu, hcell] at this
      rw [← this]
      congr 1
      unfold Addr.add
      by_cases z1 : i * d.sz = 0
      · rw [if_pos z1]
        by_cases z2 : j = 0
        · rw [if_pos z2, if_pos (by omega)]
        · rw [if_neg z2, if_neg (by omega)]
          congr 1
          omega
      · rw [if_neg z1, if_neg (by omega)]
        by_cases z2 : j = 0
        · rw [if_pos z2]; congr 1; omega
        · rw [if_neg z2]; congr 1; simp only; omega)
    subst hxl
    refine ⟨some a, cap, xs, rfl, hl, ⟨rfl, by unfold maxLen at hm; omega, fun _ => ⟨a, rfl, fun j p hp => (hx j p hp).2⟩⟩, fun x hxm => ?_⟩
    obtain ⟨i, hi⟩ := List.getElem?_of_mem hxm
    exact (hx i x hi).1
end
section
variable {H : Type} {enc : TypeId × Value → H} {W : World} {base : Nat} {sp : Nat → Bool} {held : Bool}
theorem cell1 {n : Nat} (t : TypeId) (h : (Tryd.prog.cellsOf t == n) = true) : Tryd.prog.cellsOf t = n := by simpa using h
set_option maxRecDepth 100000 in
theorem field_i64 {n : Nat} {cs : List Value} {i : Nat} {y : Option (DataW H × List MemPlace)} (hy : y.isSome = true) (h : DataW.trod enc Tryd.prog W base sp held n 3 ((cs.drop i).take (Tryd.prog.cellsOf 3)) = y) : ∃ z, cs[i]? = some (.int .i64 z) := by
  obtain ⟨x, hx⟩ := Option.isSome_iff_exists.1 hy
  rw [hx] at h
  obtain ⟨z, hz, -, -⟩ := DataW.trod_int Tryd.underlying3 h
  rw [cell1 (n := 1) 3 (by kernel_rfl)] at hz
  refine ⟨z, ?_⟩
  have := congrArg (·[0]?) hz
  simpa [List.getElem?_take, List.getElem?_drop] using this
set_option maxRecDepth 100000 in
theorem field_u8 {n : Nat} {cs : List Value} {i : Nat} {y : Option (DataW H × List MemPlace)} (hy : y.isSome = true) (h : DataW.trod enc Tryd.prog W base sp held n 5 ((cs.drop i).take (Tryd.prog.cellsOf 5)) = y) : ∃ z, cs[i]? = some (.int .u8 z) := by
  obtain ⟨x, hx⟩ := Option.isSome_iff_exists.1 hy
  rw [hx] at h
  obtain ⟨z, hz, -, -⟩ := DataW.trod_int Tryd.underlying5 h
  rw [cell1 (n := 1) 5 (by kernel_rfl)] at hz
  refine ⟨z, ?_⟩
  have := congrArg (·[0]?) hz
  simpa [List.getElem?_take, List.getElem?_drop] using this
set_option maxRecDepth 100000 in
theorem open_stp (n : Nat) (cs : List Value) (y : DataW H × List MemPlace) (h : DataW.trod enc Tryd.prog W base sp held n 30 cs = some y) : ∃ x, kStp.K W x cs ∧ True := by
  obtain ⟨xs, m, rfl, rfl, hl, hxl, hf⟩ := DataW.trod_struct Tryd.underlying30 h
  rw [cell1 (n := 5) 30 (by kernel_rfl)] at hl
  have hx5 : xs.length = 5 := hxl
  obtain ⟨z0, hz0⟩ := field_i64 (i := 0) (by rw [List.getElem?_eq_getElem (by omega)]; rfl) (hf 0 _ rfl)
  obtain ⟨z1, hz1⟩ := field_i64 (i := 1) (by rw [List.getElem?_eq_getElem (by omega)]; rfl) (hf 1 _ rfl)
  obtain ⟨z2, hz2⟩ := field_i64 (i := 2) (by rw [List.getElem?_eq_getElem (by omega)]; rfl) (hf 2 _ rfl)
  obtain ⟨z3, hz3⟩ := field_u8 (i := 3) (by rw [List.getElem?_eq_getElem (by omega)]; rfl) (hf 3 _ rfl)
  have e4 := hf 4 _ rfl
  rw [List.getElem?_eq_getElem (by omega : 4 < xs.length)] at e4
  obtain ⟨A, c, l, q4, g4, C4, -⟩ := open_C (Kd.int .i64) Tryd.underlying28 (cell1 _ (by kernel_rfl)) (fun _ => True) (fun n cs y h => by
    obtain ⟨z, hz, -, -⟩ := DataW.trod_int Tryd.underlying3 h
    exact ⟨z, hz, trivial⟩) e4
  match cs, hl with
  | [a, b, d, e, f], _ =>
    have h0 : a = .int .i64 z0 := by simpa using hz0
    have h1 : b = .int .i64 z1 := by simpa using hz1
    have h2 : d = .int .i64 z2 := by simpa using hz2
    have h3 : e = .int .u8 z3 := by simpa using hz3
    have h4 : f = .slice A l.length c := by
      replace q4 : List.take (Tryd.prog.cellsOf 28) (List.drop 4 [a, b, d, e, f]) = [.slice A l.length c] := q4
      rw [cell1 (n := 1) 28 (by kernel_rfl)] at q4
      simpa using q4
    subst h0 h1 h2 h3 h4
    exact ⟨⟨z0, z1, z2, z3, l⟩, kStp_mk (x := ⟨z0, z1, z2, z3, l⟩) g4 C4, trivial⟩
set_option maxRecDepth 100000 in
/-- A script that came in. -/
theorem open_script {v : Value} {d : DataW H} {ps : List MemPlace} {b : Nat} {r : Reach} (hv : Value.okWide Tryd.prog W r b 22 v) (h : DataW.Trod enc Tryd.prog W base sp held 22 v d ps) :
    ∃ (A : Option Addr) (c : Nat) (l : List Stp), v = .slice A l.length c ∧ l.length ≤ c ∧ Kd.C kStp W A l.length l := by
  obtain ⟨a, n, cap, rfl⟩ := okWide_slice Tryd.underlying22 hv
  obtain ⟨fuel, h⟩ := h
  obtain ⟨A, c, l, q, g, C, -⟩ := open_C kStp Tryd.underlying22 (cell1 _ (by kernel_rfl)) (fun _ => True) open_stp h
  refine ⟨A, c, l, ?_, g, C⟩
  replace q : [Value.slice a n cap] = [.slice A l.length c] := q
  exact List.singleton_inj.1 q
end
end Go.Proofs.YtcdgbdojopfkgaaDoor.P
