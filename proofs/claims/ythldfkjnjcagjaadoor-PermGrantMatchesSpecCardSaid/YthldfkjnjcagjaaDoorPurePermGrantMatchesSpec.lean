import Derived.Test.YthldfkjnjcagjaaDoorPermPure
import Derived.Test.YthldfkjnjcagjaaDoorPolRow
namespace Go.Proofs.YthldfkjnjcagjaaDoor.Pure
open Go.RowKit Go.Proofs.YthldfkjnjcagjaaDoor.P Go.Proofs.YthldfkjnjcagjaaDoorW.PrintWords Go.Proofs.YthldfkjnjcagjaaDoorW.PrintLast Go.Proofs.YthldfkjnjcagjaaDoorW.PrintMore
theorem wf_fits {n : Int} (h : wf n) : Fits n := by
  unfold wf at h
  simp only [Lit.wf, Bool.and_eq_true, decide_eq_true_eq] at h
  exact ⟨by have := h.1; simp [IntKind.min, IntKind.bits, IntKind.signed] at this; omega, by have := h.2; simp [IntKind.max, IntKind.bits, IntKind.signed] at this; omega⟩
theorem PermGrantMatchesSpec (a0 : ByteArray) (l1 : List S59) (l2 : List S55) (l3 : List S33) (_k1 : ∀ x ∈ l1, ok59 x) (_k2 : ∀ x ∈ l2, ok55 x) (_k3 : ∀ x ∈ l3, ok33 x) (n0 n1 n2 : Int) (_w0 : wf n0) (w1 : wf n1) (_w2 : wf n2) :
    ∃ (k : Nat) (few : Bool), custodyref14_Few.f k a0 l1 l2 l3 = some few ∧ (few = true → ∃ u life er, perm_Grant.f k a0 l1 l2 l3 n0 n1 n2 = some (u, life, er) ∧ custodyref14_Grant.f k a0 l1 l2 l3 n0 n1 n2 = some (u, life, er)) := by
  obtain ⟨b, hb, hb2⟩ := few_eq (k := 10000) (by omega) a0 l1 l2 l3
  refine ⟨10000, b, hb, fun h => ?_⟩
  have := hb2 h
  exact ⟨_, _, _, grant_eq a0 l1 l2 l3 n0 n1 n2 (wf_fits w1) (by omega), refgrant_eq a0 l1 l2 l3 n0 n1 n2 (by omega) (by omega)⟩
end Go.Proofs.YthldfkjnjcagjaaDoor.Pure
