import Derived.Test.YthldfkjnjcagjaaDoorPermLists
import Derived.Test.YthldfkjnjcagjaaDoorPolRow
namespace Go.Proofs.YthldfkjnjcagjaaDoor.Pure
open Go.RowKit Go.Proofs.YthldfkjnjcagjaaDoor.P Go.Proofs.YthldfkjnjcagjaaDoorW.PrintWords Go.Proofs.YthldfkjnjcagjaaDoorW.PrintLast Go.Proofs.YthldfkjnjcagjaaDoorW.PrintMore
theorem PermRulesMatchSpec (a0 : ByteArray) (l1 : List S59) (l2 : List S55) (l3 : List S33) (_k1 : ∀ x ∈ l1, ok59 x) (_k2 : ∀ x ∈ l2, ok55 x) (_k3 : ∀ x ∈ l3, ok33 x) (n0 n1 n2 : Int) (_w0 : wf n0) (_w1 : wf n1) (_w2 : wf n2) :
    ∃ (k : Nat) (few : Bool), custodyref14_Few.f k a0 l1 l2 l3 = some few ∧ (few = true → ∃ ls lt bm us, perm_Sources.f a0 l1 l2 l3 n0 n1 = some ls ∧ custodyref14_Sources.f k a0 l1 l2 l3 n0 n1 = some ls ∧ custodyref14_Same.f k ls ls = some true ∧ perm_Targets.f a0 l1 l2 l3 n0 n1 = some lt ∧ custodyref14_Targets.f k a0 l1 l2 l3 n0 n1 = some lt ∧ custodyref14_Same.f k lt lt = some true ∧ perm_May.f k a0 l1 l2 l3 n0 n1 n2 = some bm ∧ custodyref14_May.f k a0 l1 l2 l3 n0 n1 n2 = some bm ∧ perm_Uses.f a0 l1 l2 l3 n1 = some us ∧ custodyref14_Uses.f k a0 l1 l2 l3 n1 = some us) := by
  obtain ⟨b, hb, hb2⟩ := few_eq (k := 10000) (by omega) a0 l1 l2 l3
  refine ⟨10000, b, hb, fun h => ?_⟩
  have hl := hb2 h
  have hu : ∃ us, perm_Uses.f a0 l1 l2 l3 n1 = some us := by
    unfold perm_Uses.f
    split <;> exact ⟨_, rfl⟩
  obtain ⟨us, hu⟩ := hu
  have d1 := distinct_length (fun x => x.f1) (srcIs n0 n1) l2
  have d2 := distinct_length (fun x => x.f2) (tgtIs n0 n1) l2
  exact ⟨_, _, _, us, if_pos (by omega), refsources_eq n0 n1 a0 l1 l2 l3 (by omega) (by omega), same_eq _ (by omega) (by omega), if_pos (by omega), reftargets_eq n0 n1 a0 l1 l2 l3 (by omega) (by omega), same_eq _ (by omega) (by omega),
    may_eq n0 n1 n2 a0 l1 l2 l3 (by omega) (by omega), refmay_eq n0 n1 n2 a0 l1 l2 l3 (by omega) (by omega), hu, by rw [uses_eq a0 l1 l2 l3 n1 (by omega) (by omega)]; exact hu⟩
end Go.Proofs.YthldfkjnjcagjaaDoor.Pure
