import Derived.Test.YthldfkjnjcagjaaDoorPermLists
import Derived.Test.YthldfkjnjcagjaaDoorPolRow
namespace Go.Proofs.YthldfkjnjcagjaaDoor.Pure
open Go.RowKit Go.Proofs.YthldfkjnjcagjaaDoor.P Go.Proofs.YthldfkjnjcagjaaDoorW.PrintWords Go.Proofs.YthldfkjnjcagjaaDoorW.PrintLast Go.Proofs.YthldfkjnjcagjaaDoorW.PrintMore
theorem PermSourcesAreTargets (a0 : ByteArray) (l1 : List S59) (l2 : List S55) (l3 : List S33) (_k1 : ∀ x ∈ l1, ok59 x) (_k2 : ∀ x ∈ l2, ok55 x) (_k3 : ∀ x ∈ l3, ok33 x) (n0 n1 n2 : Int) (_w0 : wf n0) (_w1 : wf n1) (_w2 : wf n2) :
    ∃ (k : Nat) (few : Bool), custodyref14_Few.f k a0 l1 l2 l3 = some few ∧ (few = true → ∃ ls lt bm, perm_Sources.f a0 l1 l2 l3 n0 n2 = some ls ∧ perm_Targets.f a0 l1 l2 l3 n0 n1 = some lt ∧ ls.length ≤ 1000 ∧ lt.length ≤ 1000 ∧ Aside0 (ls.Pairwise (· < ·)) ∧ Aside0 (lt.Pairwise (· < ·)) ∧ perm_May.f k a0 l1 l2 l3 n0 n1 n2 = some bm ∧ custodyref14_Holds.f k ls n1 = some bm ∧ custodyref14_Holds.f k lt n2 = some bm) := by
  obtain ⟨b, hb, hb2⟩ := few_eq (k := 10000) (by omega) a0 l1 l2 l3
  refine ⟨10000, b, hb, fun h => ?_⟩
  have hl := hb2 h
  have d1 := distinct_length (fun x => x.f1) (srcIs n0 n2) l2
  have d2 := distinct_length (fun x => x.f2) (tgtIs n0 n1) l2
  exact ⟨_, _, _, if_pos (by omega), if_pos (by omega), by omega, by omega, ⟨(distinctOf_strict _ _ _).1⟩, ⟨(distinctOf_strict _ _ _).1⟩, may_eq n0 n1 n2 a0 l1 l2 l3 (by omega) (by omega),
    by rw [holds_eq _ _ (by omega) (by omega), src_holds], by rw [holds_eq _ _ (by omega) (by omega), tgt_holds]⟩
end Go.Proofs.YthldfkjnjcagjaaDoor.Pure
