/- How a row's parameters read: a policy (a struct of a string and three slices of structs), an array of three integers. -/
import Derived.ChangeArms
import Derived.WideShapes
import Derived.OpenShut
import Derived.SliceStrings
import Derived.Lib.LaidTab
import Derived.Test.YthldfkjnjcagjaaDoorRows
import Derived.Test.YthldfkjnjcagjaaDoorHandSanity
namespace Go.Proofs.YthldfkjnjcagjaaDoor.P
open Go.RowKit Go.ChangeShapes Go.WideShapes Go.Proofs.YthldfkjnjcagjaaDoorW.PrintWords Go.Proofs.YthldfkjnjcagjaaDoorW.PrintMore

theorem exists_list {α : Type} (Q : Nat → α → Prop) : ∀ n : Nat, (∀ i, i < n → ∃ x, Q i x) → ∃ l : List α, l.length = n ∧ ∀ i x, l[i]? = some x → Q i x
  | 0, _ => ⟨[], rfl, fun i x h => by simp at h⟩
  | n + 1, h => by
    obtain ⟨l, hl, hq⟩ := exists_list Q n (fun i hi => h i (by omega))
    obtain ⟨x, hx⟩ := h n (by omega)
    refine ⟨l ++ [x], by simp [hl], fun i y hy => ?_⟩
    by_cases hi : i < n
    · rw [List.getElem?_append_left (by omega)] at hy
      exact hq i y hy
    · rw [List.getElem?_append_right (by omega)] at hy
      have hin : i - l.length = 0 := by
        have := (List.getElem?_eq_some_iff.1 hy).1
        simp at this
        omega
      rw [hin] at hy
      obtain rfl : x = y := by simpa using hy
      have : i = n := by omega
      rw [this]; exact hx
section
variable {H : Type} {enc : TypeId × Value → H} {P : Program} {W : World} {base : Nat} {sp : Nat → Bool} {held : Bool}
theorem open_C {α : Type} (d : Kd α) {t e : TypeId} (ht : P.underlying t = some (.slice e)) (hcell : P.cellsOf e = d.sz) (ok : α → Prop)
    (he : ∀ n cs y, DataW.trod enc P W base sp held n e cs = some y → ∃ x, d.K W x cs ∧ ok x) {fuel : Nat} {cs : List Value} {y : DataW H × List MemPlace} (h : DataW.trod enc P W base sp held fuel t cs = some y) :
    ∃ (A : Option Addr) (c : Nat) (xs : List α), cs = [.slice A xs.length c] ∧ xs.length ≤ c ∧ Kd.C d W A xs.length xs ∧ ∀ x ∈ xs, ok x := by
  rcases DataW.trod_slice ht h with ⟨rfl, _⟩ | ⟨a, len, cap, elems, rest, n, _, rfl, _, _, hl, hm, hlen, hel, _, _⟩
  · exact ⟨none, 0, [], rfl, Nat.le_refl _, Kd.C_nil _ _, fun x hx => by simp at hx⟩
  · obtain ⟨xs, hxl, hx⟩ := exists_list (fun i x => ok x ∧ ∃ c, c.length = d.sz ∧ d.K W x c ∧ ∀ j u, c[j]? = some u → W.cell? (a.add (i * d.sz + j)) = some u) len (fun i hi => by
      have hE := hel i hi
      rw [List.getElem?_eq_getElem (by omega), Option.bind_eq_some_iff] at hE
      obtain ⟨c1, hc1, hy1⟩ := hE
      obtain ⟨_, hcl, hcell2⟩ := World.cells?_some hc1
      obtain ⟨x, hK, hok⟩ := he _ _ _ hy1
      refine ⟨x, hok, c1, hcl.trans hcell, hK, fun j u hu => ?_⟩
      have hj := (List.getElem?_eq_some_iff.1 hu).1
      have := hcell2 j (by omega)
      rw [hu, hcell] at this
      rw [← this]
      congr 1
      unfold Addr.add
      by_cases z1 : i * d.sz = 0
      · rw [if_pos z1]
        by_cases z2 : j = 0
        · rw [if_pos z2, if_pos (by omega)]
        · rw [if_neg z2, if_neg (by omega)]
          congr 1
          omega
      · rw [if_neg z1, if_neg (by omega)]
        by_cases z2 : j = 0
        · rw [if_pos z2]; congr 1; omega
        · rw [if_neg z2]; congr 1; simp only; omega)
    subst hxl
    refine ⟨some a, cap, xs, rfl, hl, ⟨rfl, by unfold maxLen at hm; omega, fun _ => ⟨a, rfl, fun j p hp => (hx j p hp).2⟩⟩, fun x hxm => ?_⟩
    obtain ⟨i, hi⟩ := List.getElem?_of_mem hxm
    exact (hx i x hi).1
end
def wf (n : Int) : Prop := (Lit.int .i64 n).wf = true
def ok59 (x : S59) : Prop := wf x.f1 ∧ wf x.f2
def ok55 (x : S55) : Prop := wf x.f0 ∧ wf x.f1 ∧ wf x.f2
def ok33 (x : S33) : Prop := wf x.f0 ∧ wf x.f1 ∧ wf x.f2 ∧ wf x.f3 ∧ wf x.f4
section
variable {H : Type} {enc : TypeId × Value → H} {W : World} {base : Nat} {sp : Nat → Bool} {held : Bool}
theorem cell1 {n : Nat} (t : TypeId) (h : (Tryd.prog.cellsOf t == n) = true) : Tryd.prog.cellsOf t = n := by simpa using h
theorem field_int {n : Nat} {cs : List Value} {i : Nat} {y : Option (DataW H × List MemPlace)} (hy : y.isSome = true) (h : DataW.trod enc Tryd.prog W base sp held n 3 ((cs.drop i).take (Tryd.prog.cellsOf 3)) = y) : ∃ z, cs[i]? = some (.int .i64 z) ∧ wf z := by
  obtain ⟨x, hx⟩ := Option.isSome_iff_exists.1 hy
  rw [hx] at h
  obtain ⟨z, hz, -, hw⟩ := DataW.trod_int Tryd.underlying3 h
  rw [cell1 (n := 1) 3 (by kernel_rfl)] at hz
  refine ⟨z, ?_, hw⟩
  have := congrArg (·[0]?) hz
  simpa [List.getElem?_take, List.getElem?_drop] using this
theorem open59 (n : Nat) (cs : List Value) (y : DataW H × List MemPlace) (h : DataW.trod enc Tryd.prog W base sp held n 59 cs = some y) : ∃ x, k59.K W x cs ∧ ok59 x := by
  obtain ⟨xs, m, rfl, rfl, hl, hxl, hf⟩ := DataW.trod_struct Tryd.underlying59 h
  rw [cell1 (n := 3) 59 (by kernel_rfl)] at hl
  have e0 := hf 0 _ rfl
  have e1 := hf 1 _ rfl
  have e2 := hf 2 _ rfl
  have hx3 : xs.length = 3 := hxl
  obtain ⟨z1, hz1, w1⟩ := field_int (i := 1) (by rw [List.getElem?_eq_getElem (by omega)]; rfl) e1
  obtain ⟨z2, hz2, w2⟩ := field_int (i := 2) (by rw [List.getElem?_eq_getElem (by omega)]; rfl) e2
  rw [List.getElem?_eq_getElem (by omega : 0 < xs.length)] at e0
  obtain ⟨s, hs, -, hsz⟩ := DataW.trod_string Tryd.underlying9 e0
  match cs, hl with
  | [a, b, c], _ =>
    have h0 : a = .string s := by
      replace hs : List.take (Tryd.prog.cellsOf 9) (List.drop 0 [a, b, c]) = [.string s] := hs
      rw [cell1 (n := 1) 9 (by kernel_rfl)] at hs
      simpa using hs
    have h1 : b = .int .i64 z1 := by simpa using hz1
    have h2 : c = .int .i64 z2 := by simpa using hz2
    subst h0 h1 h2
    exact ⟨⟨s, z1, z2⟩, k59_mk W ⟨s, z1, z2⟩, w1, w2⟩
theorem open55 (n : Nat) (cs : List Value) (y : DataW H × List MemPlace) (h : DataW.trod enc Tryd.prog W base sp held n 55 cs = some y) : ∃ x, k55.K W x cs ∧ ok55 x := by
  obtain ⟨xs, m, rfl, rfl, hl, hxl, hf⟩ := DataW.trod_struct Tryd.underlying55 h
  rw [cell1 (n := 3) 55 (by kernel_rfl)] at hl
  have hx3 : xs.length = 3 := hxl
  obtain ⟨z0, hz0, w0⟩ := field_int (i := 0) (by rw [List.getElem?_eq_getElem (by omega)]; rfl) (hf 0 _ rfl)
  obtain ⟨z1, hz1, w1⟩ := field_int (i := 1) (by rw [List.getElem?_eq_getElem (by omega)]; rfl) (hf 1 _ rfl)
  obtain ⟨z2, hz2, w2⟩ := field_int (i := 2) (by rw [List.getElem?_eq_getElem (by omega)]; rfl) (hf 2 _ rfl)
  match cs, hl with
  | [a, b, c], _ =>
    have h0 : a = .int .i64 z0 := by simpa using hz0
    have h1 : b = .int .i64 z1 := by simpa using hz1
    have h2 : c = .int .i64 z2 := by simpa using hz2
    subst h0 h1 h2
    exact ⟨⟨z0, z1, z2⟩, k55_mk W ⟨z0, z1, z2⟩, w0, w1, w2⟩
theorem open33 (n : Nat) (cs : List Value) (y : DataW H × List MemPlace) (h : DataW.trod enc Tryd.prog W base sp held n 33 cs = some y) : ∃ x, k33.K W x cs ∧ ok33 x := by
  obtain ⟨xs, m, rfl, rfl, hl, hxl, hf⟩ := DataW.trod_struct Tryd.underlying33 h
  rw [cell1 (n := 5) 33 (by kernel_rfl)] at hl
  have hx5 : xs.length = 5 := hxl
  obtain ⟨z0, hz0, w0⟩ := field_int (i := 0) (by rw [List.getElem?_eq_getElem (by omega)]; rfl) (hf 0 _ rfl)
  obtain ⟨z1, hz1, w1⟩ := field_int (i := 1) (by rw [List.getElem?_eq_getElem (by omega)]; rfl) (hf 1 _ rfl)
  obtain ⟨z2, hz2, w2⟩ := field_int (i := 2) (by rw [List.getElem?_eq_getElem (by omega)]; rfl) (hf 2 _ rfl)
  obtain ⟨z3, hz3, w3⟩ := field_int (i := 3) (by rw [List.getElem?_eq_getElem (by omega)]; rfl) (hf 3 _ rfl)
  obtain ⟨z4, hz4, w4⟩ := field_int (i := 4) (by rw [List.getElem?_eq_getElem (by omega)]; rfl) (hf 4 _ rfl)
  match cs, hl with
  | [a, b, c, d, e], _ =>
    have h0 : a = .int .i64 z0 := by simpa using hz0
    have h1 : b = .int .i64 z1 := by simpa using hz1
    have h2 : c = .int .i64 z2 := by simpa using hz2
    have h3 : d = .int .i64 z3 := by simpa using hz3
    have h4 : e = .int .i64 z4 := by simpa using hz4
    subst h0 h1 h2 h3 h4
    exact ⟨⟨z0, z1, z2, z3, z4⟩, k33_mk W ⟨z0, z1, z2, z3, z4⟩, w0, w1, w2, w3, w4⟩
/-- A policy that came in. -/
theorem open_policy {b : Nat} {r : Reach} {v : Value} {d : DataW H} {ps : List MemPlace} (hv : Value.okWide Tryd.prog W r b 26 v) (h : DataW.Trod enc Tryd.prog W base sp held 26 v d ps) :
    ∃ (a0 : ByteArray) (A1 : Option Addr) (c1 : Nat) (l1 : List S59) (A2 : Option Addr) (c2 : Nat) (l2 : List S55) (A3 : Option Addr) (c3 : Nat) (l3 : List S33),
      v = .agg #[.string a0, .slice A1 l1.length c1, .slice A2 l2.length c2, .slice A3 l3.length c3] ∧ Kd.C k59 W A1 l1.length l1 ∧ l1.length ≤ c1 ∧ Kd.C k55 W A2 l2.length l2 ∧ l2.length ≤ c2 ∧ Kd.C k33 W A3 l3.length l3 ∧ l3.length ≤ c3 ∧ (∀ x ∈ l1, ok59 x) ∧ (∀ x ∈ l2, ok55 x) ∧ (∀ x ∈ l3, ok33 x) := by
  obtain ⟨fuel, h⟩ := h
  obtain ⟨xs, m, rfl, -, hl, hxl, hf⟩ := DataW.trod_struct Tryd.underlying26 h
  rw [cell1 (n := 4) 26 (by kernel_rfl)] at hl
  have hx4 : xs.length = 4 := hxl
  unfold Value.okWide at hv
  rw [Tryd.underlying26] at hv
  obtain ⟨ca, rfl, hca, -⟩ := hv
  have hcs : (Value.agg ca).cells.toList = ca.toList := rfl
  rw [hcs] at hl hf
  have e0 := hf 0 _ rfl
  have e1 := hf 1 _ rfl
  have e2 := hf 2 _ rfl
  have e3 := hf 3 _ rfl
  rw [List.getElem?_eq_getElem (by omega : 0 < xs.length)] at e0
  rw [List.getElem?_eq_getElem (by omega : 1 < xs.length)] at e1
  rw [List.getElem?_eq_getElem (by omega : 2 < xs.length)] at e2
  rw [List.getElem?_eq_getElem (by omega : 3 < xs.length)] at e3
  obtain ⟨s, hs, -, hsz⟩ := DataW.trod_string Tryd.underlying9 e0
  obtain ⟨A1, c1, l1, q1, g1, C1, k1⟩ := open_C k59 Tryd.underlying22 (cell1 _ (by kernel_rfl)) ok59 open59 e1
  obtain ⟨A2, c2, l2, q2, g2, C2, k2⟩ := open_C k55 Tryd.underlying23 (cell1 _ (by kernel_rfl)) ok55 open55 e2
  obtain ⟨A3, c3, l3, q3, g3, C3, k3⟩ := open_C k33 Tryd.underlying24 (cell1 _ (by kernel_rfl)) ok33 open33 e3
  refine ⟨s, A1, c1, l1, A2, c2, l2, A3, c3, l3, ?_, C1, g1, C2, g2, C3, g3, k1, k2, k3⟩
  replace hs : List.take (Tryd.prog.cellsOf 9) (List.drop 0 ca.toList) = [.string s] := hs
  replace q1 : List.take (Tryd.prog.cellsOf 22) (List.drop 1 ca.toList) = [.slice A1 l1.length c1] := q1
  replace q2 : List.take (Tryd.prog.cellsOf 23) (List.drop 2 ca.toList) = [.slice A2 l2.length c2] := q2
  replace q3 : List.take (Tryd.prog.cellsOf 24) (List.drop 3 ca.toList) = [.slice A3 l3.length c3] := q3
  rw [cell1 (n := 1) 9 (by kernel_rfl)] at hs
  rw [cell1 (n := 1) 22 (by kernel_rfl)] at q1
  rw [cell1 (n := 1) 23 (by kernel_rfl)] at q2
  rw [cell1 (n := 1) 24 (by kernel_rfl)] at q3
  obtain ⟨cl⟩ := ca
  match cl, hl with
  | [a, b, c, d], _ =>
    have h0 : a = .string s := by simpa using hs
    have h1 : b = .slice A1 l1.length c1 := by simpa using q1
    have h2 : c = .slice A2 l2.length c2 := by simpa using q2
    have h3 : d = .slice A3 l3.length c3 := by simpa using q3
    rw [h0, h1, h2, h3]
/-- Three integers that came in as an array. -/
theorem open_three {b : Nat} {r : Reach} {v : Value} {d : DataW H} {ps : List MemPlace} (hv : Value.okWide Tryd.prog W r b 27 v) (h : DataW.Trod enc Tryd.prog W base sp held 27 v d ps) :
    ∃ n0 n1 n2 : Int, v = .agg #[.int .i64 n0, .int .i64 n1, .int .i64 n2] ∧ wf n0 ∧ wf n1 ∧ wf n2 := by
  obtain ⟨fuel, h⟩ := h
  obtain ⟨xs, m, rfl, -, hl, hxl, hf⟩ := DataW.trod_array Tryd.underlying27 h
  rw [cell1 (n := 3) 27 (by kernel_rfl)] at hl
  unfold Value.okWide at hv
  rw [Tryd.underlying27] at hv
  obtain ⟨ca, rfl, hca, -⟩ := hv
  have hcs : (Value.agg ca).cells.toList = ca.toList := rfl
  rw [hcs] at hl hf
  have e0 := hf 0 (by decide)
  have e1 := hf 1 (by decide)
  have e2 := hf 2 (by decide)
  have ci := cell1 (n := 1) 3 (by kernel_rfl)
  rw [ci] at e0 e1 e2
  obtain ⟨z0, hz0, w0⟩ := field_int (i := 0) (y := xs[0]?) (by rw [List.getElem?_eq_getElem (by omega)]; rfl) (by rw [ci]; exact e0)
  obtain ⟨z1, hz1, w1⟩ := field_int (i := 1) (y := xs[1]?) (by rw [List.getElem?_eq_getElem (by omega)]; rfl) (by rw [ci]; exact e1)
  obtain ⟨z2, hz2, w2⟩ := field_int (i := 2) (y := xs[2]?) (by rw [List.getElem?_eq_getElem (by omega)]; rfl) (by rw [ci]; exact e2)
  refine ⟨z0, z1, z2, ?_, w0, w1, w2⟩
  obtain ⟨cl⟩ := ca
  match cl, hl with
  | [a, b, c], _ =>
    have h0 : a = .int .i64 z0 := by simpa using hz0
    have h1 : b = .int .i64 z1 := by simpa using hz1
    have h2 : c = .int .i64 z2 := by simpa using hz2
    rw [h0, h1, h2]
theorem field_lit {n : Nat} {cs : List Value} {i : Nat} {z : Int} {y : Option (DataW H × List MemPlace)} (hy : y.map (·.1) = some (.lit (.int .i64 z))) (h : DataW.trod enc Tryd.prog W base sp held n 3 ((cs.drop i).take (Tryd.prog.cellsOf 3)) = y) : cs[i]? = some (.int .i64 z) := by
  obtain ⟨x, rfl, hx⟩ := Option.map_eq_some_iff.1 hy
  obtain ⟨z', hz, hx2, -⟩ := DataW.trod_int Tryd.underlying3 h
  rw [cell1 (n := 1) 3 (by kernel_rfl)] at hz
  rw [hx2] at hx
  obtain rfl : z' = z := by simpa using hx
  have := congrArg (·[0]?) hz
  simpa [List.getElem?_take, List.getElem?_drop] using this
theorem three_lits {n : Nat} {cs : List Value} {a b c : Int} {y : Option (DataW H × List MemPlace)} (hy : y.map (·.1) = some (.agg [.lit (.int .i64 a), .lit (.int .i64 b), .lit (.int .i64 c)])) (h : DataW.trod enc Tryd.prog W base sp held n 69 cs = y) : cs = [.int .i64 a, .int .i64 b, .int .i64 c] := by
  obtain ⟨x, rfl, hx⟩ := Option.map_eq_some_iff.1 hy
  obtain ⟨xs, m, rfl, rfl, hl, hxl, hf⟩ := DataW.trod_struct Tryd.underlying69 h
  rw [cell1 (n := 3) 69 (by kernel_rfl)] at hl
  have hm : xs.map (·.1) = [.lit (.int .i64 a), .lit (.int .i64 b), .lit (.int .i64 c)] := by simpa using hx
  have g : ∀ i : Nat, (xs[i]?).map (fun z : DataW H × List MemPlace => z.1) = ([.lit (.int .i64 a), .lit (.int .i64 b), .lit (.int .i64 c)] : List (DataW H))[i]? := fun i => by rw [← hm, List.getElem?_map]
  have h0 := field_lit (i := 0) (g 0) (hf 0 _ rfl)
  have h1 := field_lit (i := 1) (g 1) (hf 1 _ rfl)
  have h2 := field_lit (i := 2) (g 2) (hf 2 _ rfl)
  match cs, hl with
  | [p, q, r], _ =>
    have k0 : p = .int .i64 a := by simpa using h0
    have k1 : q = .int .i64 b := by simpa using h1
    have k2 : r = .int .i64 c := by simpa using h2
    rw [k0, k1, k2]
end
/-- The table, out of a row's condition. -/
theorem byRule_of_laid {W : World} (h : laidMet Tryd.prog [("custody/perm.byRule", Rows.laid_custody_perm_byRule)] W) : ByRule W := by
  obtain ⟨ps, ⟨g', t', cs, fuel, p, q, hg', ht', hvar, hd, _, _⟩, _⟩ := h
  obtain rfl : g' = 0 := Option.some.inj (hg'.symm.trans (by kernel_rfl))
  obtain rfl : t' = 70 := Option.some.inj (ht'.symm.trans (by kernel_rfl))
  obtain ⟨xs, m, rfl, hx, hl, hxl, hf⟩ := DataW.trod_array Tryd.underlying70 hd
  rw [cell1 (n := 15) 70 (by kernel_rfl)] at hl
  have hx1 := congrArg Prod.fst hx
  have hm : xs.map (·.1) = [.agg [.lit (.int .i64 1), .lit (.int .i64 128), .lit (.int .i64 512)], .agg [.lit (.int .i64 2), .lit (.int .i64 128), .lit (.int .i64 0)], .agg [.lit (.int .i64 3), .lit (.int .i64 128), .lit (.int .i64 512)], .agg [.lit (.int .i64 4), .lit (.int .i64 128), .lit (.int .i64 0)], .agg [.lit (.int .i64 5), .lit (.int .i64 256), .lit (.int .i64 0)]] := by
    have := hx1
    unfold Rows.laid_custody_perm_byRule at this
    simpa using this.symm
  have g : ∀ i : Nat, (xs[i]?).map (fun z : DataW Unit × List MemPlace => z.1) = ([.agg [.lit (.int .i64 1), .lit (.int .i64 128), .lit (.int .i64 512)], .agg [.lit (.int .i64 2), .lit (.int .i64 128), .lit (.int .i64 0)], .agg [.lit (.int .i64 3), .lit (.int .i64 128), .lit (.int .i64 512)], .agg [.lit (.int .i64 4), .lit (.int .i64 128), .lit (.int .i64 0)], .agg [.lit (.int .i64 5), .lit (.int .i64 256), .lit (.int .i64 0)]] : List (DataW Unit))[i]? := fun i => by rw [← hm, List.getElem?_map]
  have c3 := cell1 (n := 3) 69 (by kernel_rfl)
  have e0 := three_lits (g 0) (hf 0 (by decide))
  have e1 := three_lits (g 1) (hf 1 (by decide))
  have e2 := three_lits (g 2) (hf 2 (by decide))
  have e3 := three_lits (g 3) (hf 3 (by decide))
  have e4 := three_lits (g 4) (hf 4 (by decide))
  rw [c3] at e0 e1 e2 e3 e4
  obtain ⟨cl⟩ := cs
  have hcs : cl = byRuleC.toList := by
    match cl, hl with
    | [a0, a1, a2, a3, a4, a5, a6, a7, a8, a9, a10, a11, a12, a13, a14], _ =>
      simp only [List.drop_succ_cons, List.drop_zero, List.take_succ_cons, List.take_zero, Nat.zero_mul, Nat.one_mul, Nat.reduceMul, List.cons.injEq, and_true] at e0 e1 e2 e3 e4
      obtain ⟨rfl, rfl, rfl⟩ := e0
      obtain ⟨rfl, rfl, rfl⟩ := e1
      obtain ⟨rfl, rfl, rfl⟩ := e2
      obtain ⟨rfl, rfl, rfl⟩ := e3
      obtain ⟨rfl, rfl, rfl⟩ := e4
      rfl
  subst hcs
  unfold World.var? at hvar
  rw [hg', Option.bind_some] at hvar
  split at hvar
  · rename_i cs t fr hh
    obtain rfl : cs = byRuleC := Option.some.inj hvar
    exact ⟨(Array.getElem?_eq_some_iff.1 hh).1, t, fr, hh⟩
  · cases hvar
end Go.Proofs.YthldfkjnjcagjaaDoor.P
