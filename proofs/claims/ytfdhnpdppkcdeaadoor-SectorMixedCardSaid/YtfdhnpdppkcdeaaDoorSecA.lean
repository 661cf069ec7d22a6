/- Plain Lean about layer 24: bytes, numbers and their readings. -/
import Derived.Laws.Bits64
import Derived.Test.YtfdhnpdppkcdeaaDoorWMore
import Derived.Test.YtfdhnpdppkcdeaaDoorWLast
namespace Go.Proofs.YtfdhnpdppkcdeaaDoor.P
open Go.RowKit Go.Proofs.YtfdhnpdppkcdeaaDoorW.PrintWords Go.Proofs.YtfdhnpdppkcdeaaDoorW.PrintMore

/-- The value of bytes, the least significant first. -/
def leval : List Int → Int
  | [] => 0
  | b :: bs => b + 256 * leval bs
def Byte (l : List Int) : Prop := ∀ b ∈ l, 0 ≤ b ∧ b ≤ 255
theorem Byte.take {l : List Int} (h : Byte l) (n : Nat) : Byte (l.take n) := fun b hb => h b (List.mem_of_mem_take hb)
theorem Byte.drop {l : List Int} (h : Byte l) (n : Nat) : Byte (l.drop n) := fun b hb => h b (List.mem_of_mem_drop hb)
theorem Byte.append {l m : List Int} (h : Byte l) (k : Byte m) : Byte (l ++ m) := fun b hb => (List.mem_append.1 hb).elim (h b) (k b)
theorem byte_bytesOf (s : ByteArray) : Byte (bytesOf s) := by
  intro b hb
  obtain ⟨x, _, rfl⟩ := List.mem_map.1 hb
  have := x.toNat_lt
  omega
theorem leval_bd : ∀ (l : List Int), Byte l → 0 ≤ leval l ∧ leval l < 256 ^ l.length
  | [], _ => by simp [leval]
  | b :: bs, h => by
    have h1 := h b (List.mem_cons_self)
    have h2 := leval_bd bs (fun x hx => h x (List.mem_cons_of_mem _ hx))
    simp only [leval, List.length_cons, Int.pow_succ]
    omega
theorem leval_append : ∀ (l m : List Int), leval (l ++ m) = leval l + 256 ^ l.length * leval m
  | [], m => by simp [leval]
  | b :: bs, m => by
    simp only [List.cons_append, leval, List.length_cons, leval_append bs m, Int.pow_succ, Int.mul_add]
    rw [Int.mul_comm (256 ^ bs.length) 256, Int.mul_assoc]
    omega
theorem bytesOf_get (s : ByteArray) (i : Nat) (h : i < s.size) : (bytesOf s)[i]? = some (bt s i) := by
  unfold bytesOf bt
  rw [Int.toNat_natCast, dif_pos h, List.getElem?_map, List.getElem?_eq_getElem (by simpa using h)]
  rfl
theorem bytesOf_take_succ (s : ByteArray) (i : Nat) (h : i < s.size) : (bytesOf s).take (i + 1) = (bytesOf s).take i ++ [bt s i] := by
  rw [List.take_add_one, bytesOf_get s i h]; rfl
theorem bytesOf_append (a b : ByteArray) : bytesOf (a ++ b) = bytesOf a ++ bytesOf b := by simp [bytesOf]
theorem bytesOf_extract (s : ByteArray) (a b : Nat) : bytesOf (s.extract a b) = ((bytesOf s).take b).drop a := by
  simp [bytesOf, ByteArray.data_extract, List.map_drop, List.map_take, List.drop_take]
theorem bytesOf_inj {a b : ByteArray} (h : bytesOf a = bytesOf b) : a = b := by
  have h2 : a.data.toList = b.data.toList := by
    exact (List.map_inj_right (fun x y e => UInt8.toNat_inj.1 (Int.ofNat_inj.1 e))).1 h
  have h3 : a.data = b.data := Array.toList_inj.1 h2
  cases a; cases b; simp_all
theorem bytesOf_strOfNums {l : List Int} (h : Byte l) : bytesOf (strOfNums l) = l := by
  unfold bytesOf
  rw [strOfNums_data, List.map_map]
  conv => rhs; rw [← List.map_id l]
  refine List.map_congr_left (fun x hx => ?_)
  have := h x hx
  simp only [Function.comp, id]
  rw [UInt8.toNat_ofNat']
  omega
theorem toList_eq (s : ByteArray) : s.toList = s.data.toList := ByteArray.toList_eq s
end Go.Proofs.YtfdhnpdppkcdeaaDoor.P
