/- Plain Lean: a sector of the memory, its five cells, a list of sectors as a row of cells; and what a block of memory holds. -/
import Derived.Test.YtcdgbdojopfkgaaDoorProg
import Derived.Test.YtcdgbdojopfkgaaDoorWKept
import Derived.Test.YtcdgbdojopfkgaaDoorWMore
namespace Go.Proofs.YtcdgbdojopfkgaaDoor.P
open Go.RowKit Go.Proofs.YtcdgbdojopfkgaaDoorW.PrintWords Go.Proofs.YtcdgbdojopfkgaaDoorW.PrintMore

/-- A sector: what it holds, what it held before, what was written and is not yet certain. -/
structure Sec where
  now : ByteArray
  before : ByteArray
  fresh : ByteArray
  dirty : Bool
  worn : Bool
def Sec.cells (s : Sec) : List Value := [.string s.now, .string s.before, .string s.fresh, .bool s.dirty, .bool s.worn]
def secCells : List Sec → List Value
  | [] => []
  | s :: l => s.cells ++ secCells l
theorem secCells_length : ∀ l : List Sec, (secCells l).length = l.length * 5
  | [] => rfl
  | s :: l => by
    show (s.cells ++ secCells l).length = (l.length + 1) * 5
    rw [List.length_append, secCells_length l]
    show 5 + l.length * 5 = _
    omega
theorem secCells_get : ∀ (l : List Sec) (i j : Nat) (s : Sec), l[i]? = some s → j < 5 → (secCells l)[i * 5 + j]? = s.cells[j]?
  | [], i, j, s, h, _ => by simp at h
  | t :: l, 0, j, s, h, hj => by
    obtain rfl : t = s := by simpa using h
    show (t.cells ++ secCells l)[0 * 5 + j]? = _
    rw [Nat.zero_mul, Nat.zero_add, List.getElem?_append_left (by show j < 5; exact hj)]
  | t :: l, i + 1, j, s, h, hj => by
    show (t.cells ++ secCells l)[(i + 1) * 5 + j]? = _
    rw [List.getElem?_append_right (by show 5 ≤ _; omega), show (i + 1) * 5 + j - t.cells.length = i * 5 + j by show (i + 1) * 5 + j - 5 = _; omega]
    exact secCells_get l i j s (by simpa using h) hj
theorem secCells_set : ∀ (l : List Sec) (i j : Nat) (s s' : Sec) (v : Value), l[i]? = some s → j < 5 → s'.cells = s.cells.set j v → (secCells l).set (i * 5 + j) v = secCells (l.set i s')
  | [], i, j, s, s', v, h, _, _ => by simp at h
  | t :: l, 0, j, s, s', v, h, hj, hs => by
    obtain rfl : t = s := by simpa using h
    show (t.cells ++ secCells l).set (0 * 5 + j) v = s'.cells ++ secCells l
    rw [Nat.zero_mul, Nat.zero_add, List.set_append_left _ _ (by show j < 5; exact hj), hs]
  | t :: l, i + 1, j, s, s', v, h, hj, hs => by
    show (t.cells ++ secCells l).set ((i + 1) * 5 + j) v = t.cells ++ secCells (l.set i s')
    rw [List.set_append_right _ _ (by show 5 ≤ _; omega), show (i + 1) * 5 + j - t.cells.length = i * 5 + j by show (i + 1) * 5 + j - 5 = _; omega, secCells_set l i j s s' v (by simpa using h) hj hs]

/-- What has been written since w lies in the blocks of S, or is new. -/
structure Mod (S : Nat → Prop) (w w' : World) : Prop where
  os : w'.os = w.os
  tape : w'.tape = w.tape
  output : w'.output = w.output
  size : w.heap.size ≤ w'.heap.size
  block : ∀ k, k < w.heap.size → ¬ S k → w'.heap[k]? = w.heap[k]?
theorem Mod.refl (S : Nat → Prop) (w : World) : Mod S w w := ⟨rfl, rfl, rfl, Nat.le_refl _, fun _ _ _ => rfl⟩
theorem Mod.trans {S : Nat → Prop} {a b c : World} (h : Mod S a b) (k : Mod S b c) : Mod S a c :=
  ⟨k.os.trans h.os, k.tape.trans h.tape, k.output.trans h.output, Nat.le_trans h.size k.size, fun i hi hn => (k.block i (Nat.lt_of_lt_of_le hi h.size) hn).trans (h.block i hi hn)⟩
theorem Mod.mono {S S' : Nat → Prop} {a b : World} (h : Mod S a b) (hs : ∀ k, S k → S' k) : Mod S' a b := ⟨h.os, h.tape, h.output, h.size, fun i hi hn => h.block i hi (fun z => hn (hs i z))⟩
/-- What the later step writes is allowed, or new since the first world. -/
theorem Mod.then_ {S S' : Nat → Prop} {a b c : World} (h : Mod S a b) (k : Mod S' b c) (hs : ∀ i, S' i → S i ∨ a.heap.size ≤ i) : Mod S a c :=
  ⟨k.os.trans h.os, k.tape.trans h.tape, k.output.trans h.output, Nat.le_trans h.size k.size, fun i hi hn => (k.block i (Nat.lt_of_lt_of_le hi h.size) (fun z => (hs i z).elim hn (fun q => by omega))).trans (h.block i hi hn)⟩
theorem Mod.of_below {S : Nat → Prop} {w w' : World} (h : Below w.heap.size w w') : Mod S w w' := ⟨h.os, h.tape, h.output, h.size, fun k hk _ => h.block k hk⟩
theorem Mod.below_ {S : Nat → Prop} {a b c : World} (h : Mod S a b) (hb : Below b.heap.size b c) : Mod S a c := h.trans (Mod.of_below hb)
theorem Mod.setCell {S : Nat → Prop} {a b : World} (h : Mod S a b) {p : Addr} (hp : S p.block ∨ a.heap.size ≤ p.block) (u : Value) : Mod S a (b.setCell p u) :=
  ⟨h.os, h.tape, h.output, by rw [show (b.setCell p u).heap.size = b.heap.size by simp [World.setCell]]; exact h.size, fun i hi hn => by
    rw [Below.heap_setCell b p u i (fun e => by subst e; rcases hp with hp | hp; exact hn hp; omega)]
    exact h.block i hi hn⟩
theorem Mod.at_ {S : Nat → Prop} {a b : World} (h : Mod S a b) {g : Nat} (hg : S g) (i : Nat) (u : Value) : Mod S a (b.setCell ⟨g, i, none⟩ u) := h.setCell (.inl hg) u
theorem Mod.alloc {S : Nat → Prop} {a b : World} (h : Mod S a b) (o : Obj) : Mod S a (b.alloc o) := h.below_ (below_alloc (Below.refl _ _) o)
theorem Mod.drew {S : Nat → Prop} {a b : World} (h : Mod S a b) : Mod S a b.drew := ⟨h.os, h.tape, h.output, h.size, h.block⟩
theorem Mod.drewN {S : Nat → Prop} {a b : World} (h : Mod S a b) (n : Nat) : Mod S a (b.drewN n) := ⟨h.os, h.tape, h.output, h.size, h.block⟩
theorem Mod.kept {S : Nat → Prop} {w w' : World} (h : Mod S w w') : Kept w w' S := ⟨h.size, h.block⟩
theorem Mod.toBelow {S : Nat → Prop} {w w' : World} {B : Nat} (h : Mod S w w') (hB : B ≤ w.heap.size) (hs : ∀ k, S k → B ≤ k) : Below B w w' :=
  ⟨h.os, h.tape, h.output, h.size, fun k hk => h.block k (by omega) (fun z => by have := hs k z; omega)⟩

/-- Block b holds exactly these cells. -/
def Blk (w : World) (b : Nat) (cs : List Value) : Prop := ∃ t, w.heap[b]? = some (.cells cs.toArray t (0, 0))
theorem Blk.lt {w : World} {b : Nat} {cs : List Value} (h : Blk w b cs) : b < w.heap.size := by obtain ⟨t, h⟩ := h; exact blk_lt h
theorem Blk.cell {w : World} {b : Nat} {cs : List Value} (h : Blk w b cs) (i : Nat) {v : Value} (hv : cs[i]? = some v) : w.cell? ⟨b, i, none⟩ = some v := by
  obtain ⟨t, h⟩ := h
  rw [blk_cell h]
  simpa using hv
theorem Blk.frozen {w : World} {b : Nat} {cs : List Value} (h : Blk w b cs) (i : Nat) : w.frozen? ⟨b, i, none⟩ = false := by obtain ⟨t, h⟩ := h; exact blk_frozen h i
theorem Blk.set {w : World} {b : Nat} {cs : List Value} (h : Blk w b cs) (i : Nat) (v : Value) : Blk (w.setCell ⟨b, i, none⟩ v) b (cs.set i v) := by
  obtain ⟨t, h⟩ := h
  refine ⟨t, ?_⟩
  rw [blk_set h]
  simp
theorem Blk.far {w : World} {b : Nat} {cs : List Value} (h : Blk w b cs) {p : Addr} (hp : b ≠ p.block) (v : Value) : Blk (w.setCell p v) b cs := by obtain ⟨t, h⟩ := h; exact ⟨t, blk_far h hp v⟩
theorem Blk.alloc {w : World} {b : Nat} {cs : List Value} (h : Blk w b cs) (o : Obj) : Blk (w.alloc o) b cs := by obtain ⟨t, h⟩ := h; exact ⟨t, blk_alloc h o⟩
theorem Blk.drew {w : World} {b : Nat} {cs : List Value} (h : Blk w b cs) : Blk w.drew b cs := h
theorem Blk.drewN {w : World} {b : Nat} {cs : List Value} (h : Blk w b cs) (n : Nat) : Blk (w.drewN n) b cs := h
theorem Blk.below {w w' : World} {b : Nat} {cs : List Value} (h : Blk w b cs) (hb : Below w.heap.size w w') : Blk w' b cs := by obtain ⟨t, h⟩ := h; exact ⟨t, blk_below h hb⟩
theorem Blk.mod {S : Nat → Prop} {w w' : World} {b : Nat} {cs : List Value} (h : Blk w b cs) (hm : Mod S w w') (hn : ¬ S b) : Blk w' b cs := by
  obtain ⟨t, h⟩ := h
  exact ⟨t, (hm.block b (blk_lt h) hn).trans h⟩
theorem Blk.new (w : World) (cs : Array Value) (t : TypeId) : Blk (w.alloc (.cells cs t (0, 0))) w.heap.size cs.toList := ⟨t, by rw [Array.toArray_toList]; exact blk_new w _⟩
end Go.Proofs.YtcdgbdojopfkgaaDoor.P
