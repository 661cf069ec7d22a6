/- What the printed 'put' comes to: the number's bytes, the least significant first. Plain Lean. -/
import Derived.Test.YtcdgbdojopfkgaaDoorPx1
import Derived.Test.YtcdgbdojopfkgaaDoorPx2
namespace Go.Proofs.YtcdgbdojopfkgaaDoor.P
open Go.RowKit Go.Proofs.YtcdgbdojopfkgaaDoorW.PrintWords Go.Proofs.YtcdgbdojopfkgaaDoorW.PrintMore

def le64 (n : Int) : List Int := [n % 256, n / 256 % 256, n / 65536 % 256, n / 16777216 % 256, n / 4294967296 % 256, n / 1099511627776 % 256, n / 281474976710656 % 256, n / 72057594037927936 % 256]
def le16 (n : Int) : List Int := [n % 256, n / 256 % 256]
theorem le64_length (n : Int) : (le64 n).length = 8 := rfl
theorem le16_length (n : Int) : (le16 n).length = 2 := rfl

theorem put64_round {k : Nat} {l : List Int} {n j : Int} {d : Int} (h0 : 0 ≤ j) (h8 : j < 8) (hl : l.length < 140737488355328) (hd : n / 2 ^ (8 * j).toNat = d) :
    sector_put_uint64.l0 (k + 1) l n 8 j = sector_put_uint64.l0 k (l ++ [d % 256]) n 8 (j + 1) := by
  have e1 : wrap64 (8 * j) = 8 * j := by unfold wrap64; omega
  have e2 : wrap64 (j + 1) = j + 1 := by unfold wrap64; omega
  have e3 : shr .u64 n (8 * j) = d := by
    unfold shr
    rw [show min (8 * j).toNat (IntKind.bits .u64) = (8 * j).toNat from by simp only [IntKind.bits]; omega, hd]
  simp only [sector_put_uint64.l0]
  rw [if_pos h8, e1, if_pos (by omega), if_pos hl, e2, e3]
theorem put64_eq {k : Nat} (hk : 9 ≤ k) (l : List Int) (n : Int) (hl : l.length + 8 ≤ 140737488355328) : sector_put_uint64.f k l n 8 = some (l ++ le64 n) := by
  obtain ⟨k, rfl⟩ : ∃ m, k = m + 9 := ⟨k - 9, by omega⟩
  unfold sector_put_uint64.f
  rw [put64_round (j := 0) (d := n) (by omega) (by omega) (by omega) (by simp)]
  rw [put64_round (d := n / 256) (by omega) (by omega) (by simp; omega) (by simp)]
  rw [put64_round (d := n / 65536) (by omega) (by omega) (by simp; omega) (by simp)]
  rw [put64_round (d := n / 16777216) (by omega) (by omega) (by simp; omega) (by simp)]
  rw [put64_round (d := n / 4294967296) (by omega) (by omega) (by simp; omega) (by simp)]
  rw [put64_round (d := n / 1099511627776) (by omega) (by omega) (by simp; omega) (by simp)]
  rw [put64_round (d := n / 281474976710656) (by omega) (by omega) (by simp; omega) (by simp)]
  rw [put64_round (d := n / 72057594037927936) (by omega) (by omega) (by simp; omega) (by simp)]
  simp only [sector_put_uint64.l0]
  rw [if_neg (by omega)]
  simp [le64]
theorem put16_round {k : Nat} {l : List Int} {n j : Int} {d : Int} (h0 : 0 ≤ j) (h8 : j < 2) (hl : l.length < 140737488355328) (hd : n / 2 ^ (8 * j).toNat = d) :
    sector_put_uint16.l0 (k + 1) l n 2 j = sector_put_uint16.l0 k (l ++ [d % 256]) n 2 (j + 1) := by
  have e1 : wrap64 (8 * j) = 8 * j := by unfold wrap64; omega
  have e2 : wrap64 (j + 1) = j + 1 := by unfold wrap64; omega
  have e3 : shr .u16 n (8 * j) = d := by
    unfold shr
    rw [show min (8 * j).toNat (IntKind.bits .u16) = (8 * j).toNat from by simp only [IntKind.bits]; omega, hd]
  simp only [sector_put_uint16.l0]
  rw [if_pos h8, e1, if_pos (by omega), if_pos hl, e2, e3]
theorem put16_eq {k : Nat} (hk : 3 ≤ k) (l : List Int) (n : Int) (hl : l.length + 2 ≤ 140737488355328) : sector_put_uint16.f k l n 2 = some (l ++ le16 n) := by
  obtain ⟨k, rfl⟩ : ∃ m, k = m + 3 := ⟨k - 3, by omega⟩
  unfold sector_put_uint16.f
  rw [put16_round (j := 0) (d := n) (by omega) (by omega) (by omega) (by simp)]
  rw [put16_round (d := n / 256) (by omega) (by omega) (by simp; omega) (by simp)]
  simp only [sector_put_uint16.l0]
  rw [if_neg (by omega)]
  simp [le16]
end Go.Proofs.YtcdgbdojopfkgaaDoor.P
