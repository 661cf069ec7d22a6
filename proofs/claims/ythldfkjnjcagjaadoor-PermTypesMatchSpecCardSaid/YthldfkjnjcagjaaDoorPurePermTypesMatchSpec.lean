import Derived.Test.YthldfkjnjcagjaaDoorPermTypes
import Derived.Test.YthldfkjnjcagjaaDoorPolRow
namespace Go.Proofs.YthldfkjnjcagjaaDoor.Pure
open Go.RowKit Go.Proofs.YthldfkjnjcagjaaDoor.P Go.Proofs.YthldfkjnjcagjaaDoorW.PrintWords Go.Proofs.YthldfkjnjcagjaaDoorW.PrintLast Go.Proofs.YthldfkjnjcagjaaDoorW.PrintMore
theorem wf_fits {n : Int} (h : wf n) : Fits n := by
  unfold wf at h
  simp only [Lit.wf, Bool.and_eq_true, decide_eq_true_eq] at h
  exact ⟨by have := h.1; simp [IntKind.min, IntKind.bits, IntKind.signed] at this; omega, by have := h.2; simp [IntKind.max, IntKind.bits, IntKind.signed] at this; omega⟩
theorem PermTypesMatchSpec (a0 : ByteArray) (l1 : List S59) (l2 : List S55) (l3 : List S33) (_k1 : ∀ x ∈ l1, ok59 x) (_k2 : ∀ x ∈ l2, ok55 x) (_k3 : ∀ x ∈ l3, ok33 x) (name : ByteArray) (_wn : name.size ≤ 140737488355328) (n0 n1 n2 : Int) (_w0 : wf n0) (w1 : wf n1) (w2 : wf n2) :
    ∃ (k : Nat) (few : Bool), custodyref14_Few.f k a0 l1 l2 l3 = some few ∧ (few = true → name.size ≤ 40 → ∃ t is q1 q2 q3 q4 q5 there b1 b2, perm_Type.f a0 l1 l2 l3 name = some (t, is) ∧ custodyref14_Type.f k a0 l1 l2 l3 name = some (t, is) ∧ perm_Quorum.f a0 l1 l2 l3 n0 = some (q1, q2, q3, q4, q5, there) ∧ custodyref14_Quorum.f k a0 l1 l2 l3 n0 = some (q1, q2, q3, q4, q5, there) ∧ perm_Has.f a0 l1 l2 l3 n1 n2 = some b1 ∧ custodyref14_Has.f a0 l1 l2 l3 n1 n2 = some b1 ∧ perm_Subset.f n1 n2 = some b2 ∧ custodyref14_Subset.f n1 n2 = some b2) := by
  obtain ⟨b, hb, hb2⟩ := few_eq (k := 10000) (by omega) a0 l1 l2 l3
  refine ⟨10000, b, hb, fun h _ => ?_⟩
  have hl := hb2 h
  obtain ⟨q1, q2, q3, q4, q5, there, hq⟩ : ∃ q1 q2 q3 q4 q5 there, perm_Quorum.f a0 l1 l2 l3 n0 = some (q1, q2, q3, q4, q5, there) := by
    unfold perm_Quorum.f
    split
    · exact ⟨_, _, _, _, _, _, rfl⟩
    · exact ⟨_, _, _, _, _, _, rfl⟩
  obtain ⟨b1, h1, h2⟩ := has_eq a0 l1 l2 l3 n1 n2 (wf_fits w2)
  exact ⟨_, _, q1, q2, q3, q4, q5, there, b1, _, rfl, by rw [reftype_eq name a0 l1 l2 l3 (by omega) (by omega)]; rfl, hq, by rw [refquorum_eq n0 a0 l1 l2 l3 (by omega) (by omega)]; exact hq, h1, h2, by rw [subset_eq _ (wf_fits w1)]; exact refsub n1 n2, refsub n1 n2⟩
end Go.Proofs.YthldfkjnjcagjaaDoor.Pure
