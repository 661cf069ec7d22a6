/- strings.Trim at the cutset of one zero byte, and strings.Clone: their contracts in the printed form. -/
import Derived.Test.YtcdgbdojopfkgaaDoorShelf
import Derived.Test.YtcdgbdojopfkgaaDoorPx0
namespace Go.Proofs.YtcdgbdojopfkgaaDoor.P
open Go.RowKit Go.Proofs.YtcdgbdojopfkgaaDoorW.PrintWords

/-- strings.Trim(a0, "\x00"). -/
def strings_Trim.f (a0 a1 : ByteArray) : Option ByteArray :=
  if a1 = ⟨#[0]⟩ then if a0.size ≤ 9223372036854775807 then some ⟨(Lib.trimB a0.data.toList 0).toArray⟩ else none else none
theorem strings_Trim.calls (a0 a1 : ByteArray) (r : ByteArray) (w : World) (h : strings_Trim.f a0 a1 = some r) :
    Calls Tryd.prog 77 #[.string a0, .string a1] w fun e w' => e = .returned (.string r) ∧ Drawn0 w w' := by
  unfold strings_Trim.f at h
  split at h
  · rename_i h1
    split at h
    · rename_i h2
      obtain rfl := Option.some.inj h
      subst h1
      refine (Tryd.strings_Trim_one a0 0 (by decide) w h2).mono ?_
      rintro e w' ⟨rfl, hw⟩
      refine ⟨rfl, ?_⟩
      rcases hw with rfl | rfl
      · exact Drawn0.refl _
      · exact ⟨⟨1, rfl⟩⟩
    · cases h
  · cases h

/-- strings.Clone. -/
def strings_Clone.f (a0 : ByteArray) : Option ByteArray := if a0.size ≤ 281474976710656 then some a0 else none
theorem strings_Clone.calls (a0 : ByteArray) (r : ByteArray) (w : World) (h : strings_Clone.f a0 = some r) :
    Calls Tryd.prog 78 #[.string a0] w fun e w' => e = .returned (.string r) ∧ Below w.heap.size w w' := by
  unfold strings_Clone.f at h
  split at h
  · rename_i h1
    obtain rfl := Option.some.inj h
    go_enter Tryd.func78, Tryd.ntmps78
    go_wp2_with (go_at_call 86; refine (Tryd.stringslite_Clone a0 _ h1).mono ?_; rintro e w' ⟨rfl, hb⟩)
    go_ret
    exact ⟨rfl, hb⟩
  · cases h
end Go.Proofs.YtcdgbdojopfkgaaDoor.P
