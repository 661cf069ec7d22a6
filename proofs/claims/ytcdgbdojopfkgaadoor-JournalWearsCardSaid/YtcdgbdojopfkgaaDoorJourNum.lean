/- journal.number: the number in eight bytes. -/
import Derived.Test.YtcdgbdojopfkgaaDoorPx9
import Derived.Test.YtcdgbdojopfkgaaDoorSecJ
namespace Go.Proofs.YtcdgbdojopfkgaaDoor.P
open Go.RowKit Go.Proofs.YtcdgbdojopfkgaaDoorW.PrintWords Go.Proofs.YtcdgbdojopfkgaaDoorW.PrintMore Go.Proofs.YtcdgbdojopfkgaaDoorW.PrintLast

theorem or_high (a b : Int) (h0 : 0 ≤ a) (h1 : a < 72057594037927936) (h2 : 0 ≤ b) (h3 : b ≤ 255) :
    Go.bits .or .u64 (IntKind.u64.wrap (a * 256)) (IntKind.u64.wrap b) = b + 256 * a := by
  obtain ⟨x, rfl⟩ := Int.eq_ofNat_of_zero_le h0
  obtain ⟨y, rfl⟩ := Int.eq_ofNat_of_zero_le h2
  have hw : ∀ n : Int, 0 ≤ n → n < 2 ^ 64 → IntKind.u64.wrap n = n := fun n h h' => by rw [IntKind.wrap_u64]; exact Int.emod_eq_of_lt h h'
  have e1 : IntKind.u64.wrap ((x : Int) * 256) = ((256 * x : Nat) : Int) := by
    rw [IntKind.wrap_u64]
    omega
  have e2 : IntKind.u64.wrap (y : Int) = (y : Int) := by rw [IntKind.wrap_u64]; omega
  have hor : (256 * x) ||| y = 256 * x + y := (Nat.two_pow_add_eq_or_of_lt (show y < 2 ^ 8 by omega) x).symm
  rw [e1, e2, (bits_nat .u64 64 (by decide) hw _ y (by omega) (by omega)).2, hor]
  omega
theorem number_loop (s : ByteArray) (hs : s.size ≤ 8) : ∀ (i k : Nat), i ≤ s.size → i < k → journal_number.l0 k s (leval ((bytesOf s).drop i)) ((i : Int) - 1) = some (leval (bytesOf s))
  | 0, k, hi, hk => by
    obtain ⟨k, rfl⟩ : ∃ m, k = m + 1 := ⟨k - 1, by omega⟩
    simp only [journal_number.l0]
    rw [if_neg (by omega), List.drop_zero]
  | i + 1, k, hi, hk => by
    obtain ⟨k, rfl⟩ : ∃ m, k = m + 1 := ⟨k - 1, by omega⟩
    have e1 : ((i + 1 : Nat) : Int) - 1 = (i : Int) := by omega
    have e2 : wrap64 ((i : Int) - 1) = (i : Int) - 1 := by unfold wrap64; omega
    have hb := bt_range s i
    have hl := leval_bd _ ((byte_bytesOf s).drop (i + 1))
    rw [List.length_drop, bytesOf_length] at hl
    have hp : (256 : Int) ^ (s.size - (i + 1)) ≤ 72057594037927936 := by
      obtain ⟨m, hm⟩ : ∃ m, s.size - (i + 1) = m := ⟨_, rfl⟩
      rw [hm]
      have : m = 0 ∨ m = 1 ∨ m = 2 ∨ m = 3 ∨ m = 4 ∨ m = 5 ∨ m = 6 ∨ m = 7 := by omega
      rcases this with rfl | rfl | rfl | rfl | rfl | rfl | rfl | rfl <;> decide
    simp only [journal_number.l0]
    rw [e1, if_pos (by omega), if_pos (by omega), if_pos (by omega), e2, or_high _ _ hl.1 (by omega) hb.1 hb.2, ← leval_drop_cons s i (by omega)]
    exact number_loop s hs i k (by omega) (by omega)
theorem number_eq {k : Nat} (s : ByteArray) (hs : s.size ≤ 8) (hk : 9 ≤ k) : journal_number.f k s = some (leval (bytesOf s)) := by
  unfold journal_number.f
  have e : wrap64 ((s.size : Int) - 1) = (s.size : Int) - 1 := by unfold wrap64; omega
  have := number_loop s hs s.size k (Nat.le_refl _) (by omega)
  rw [List.drop_eq_nil_of_le (by rw [bytesOf_length]; exact Nat.le_refl _)] at this
  rw [e]
  exact this
/-- The number, to be reckoned. -/
def numC (s : ByteArray) : Int := (journal_number.f 20 s).getD 0
theorem numC_eq (s : ByteArray) (hs : s.size ≤ 8) : numC s = leval (bytesOf s) := by unfold numC; rw [number_eq s hs (by omega)]; rfl
theorem numC_some (s : ByteArray) (hs : s.size ≤ 8) : journal_number.f 20 s = some (numC s) := by rw [numC_eq s hs, number_eq s hs (by omega)]
theorem numC_bd (s : ByteArray) (hs : s.size = 8) : 0 ≤ numC s ∧ numC s ≤ 18446744073709551615 := by
  rw [numC_eq s (by omega)]
  have hl := leval_bd _ (byte_bytesOf s)
  rw [bytesOf_length, hs] at hl
  have : (256 : Int) ^ 8 = 18446744073709551616 := by decide
  omega
end Go.Proofs.YtcdgbdojopfkgaaDoor.P
