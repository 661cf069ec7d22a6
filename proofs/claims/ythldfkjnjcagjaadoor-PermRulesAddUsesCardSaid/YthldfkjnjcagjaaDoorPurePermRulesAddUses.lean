import Derived.Test.YthldfkjnjcagjaaDoorPermLists
import Derived.Test.YthldfkjnjcagjaaDoorPolRow
import Derived.Test.YthldfkjnjcagjaaDoorLawAdds
namespace Go.Proofs.YthldfkjnjcagjaaDoor.P
open Go.RowKit Go.Proofs.YthldfkjnjcagjaaDoorW.PrintWords Go.Proofs.YthldfkjnjcagjaaDoorW.PrintLast Go.Proofs.YthldfkjnjcagjaaDoorW.PrintMore
def Sub (a b : Int) : Prop := BitVec.ofInt 64 a &&& BitVec.ofInt 64 b = BitVec.ofInt 64 a
theorem Sub.refl (a : Int) : Sub a a := by unfold Sub; exact BitVec.and_self
theorem Sub.trans {a b c : Int} (h : Sub a b) (k : Sub b c) : Sub a c := by
  unfold Sub at *
  generalize BitVec.ofInt 64 a = x at *
  generalize BitVec.ofInt 64 b = y at *
  generalize BitVec.ofInt 64 c = z at *
  rw [← h, BitVec.and_assoc, k]
theorem ofInt_of_toInt (x : BitVec 64) : BitVec.ofInt 64 x.toInt = x := BitVec.ofInt_toInt
theorem Sub.or (a x : Int) : Sub a (bits .or .i64 a x) := by
  unfold Sub
  rw [bits_or, ofInt_of_toInt]
  generalize BitVec.ofInt 64 a = p
  generalize BitVec.ofInt 64 x = q
  refine BitVec.eq_of_getLsbD_eq (fun i hi => ?_)
  rw [BitVec.getLsbD_and, BitVec.getLsbD_or]
  generalize p.getLsbD i = u
  generalize q.getLsbD i = v
  cases u <;> cases v <;> rfl
theorem Sub.said {a b : Int} (ha : Fits a) (h : Sub a b) : perm_Subset.f a b = some true := by
  rw [subset_eq b ha, refsub]
  congr 1
  apply decide_eq_true
  unfold Sub at h
  rw [bits_and, h, ofInt_toInt ha]
theorem sub_ite {c : Prop} [Decidable c] {u x : Int} : Sub u (if c then bits .or .i64 u x else u) := by
  split
  · exact Sub.or _ _
  · exact Sub.refl _
theorem useRule_sub (t u : Int) (r : S55) (hu : Fits u) : Sub u (useRule t u r) := by
  rw [useRule_eq t u r hu]
  exact sub_ite.trans (sub_ite.trans sub_ite)
theorem useRule_same (t u : Int) (r : S55) (hu : Fits u) (h1 : ¬ r.f1 = t) (h2 : ¬ r.f2 = t) : useRule t u r = u := by
  rw [useRule_eq t u r hu]
  simp only [h1, h2, false_and, if_false]
theorem fits_uses (l1 : List S59) (t : Int) : ∀ (l2 : List S55) (u : Int), Fits u → Fits (l2.foldl (useRule t) u)
  | [], _, h => h
  | r :: l2, u, h => fits_uses l1 t l2 _ (fits_useRule t u r h)
theorem uses_more (a0 : ByteArray) (l1 : List S59) (l2 : List S55) (l3 : List S33) (t : Int) (r : S55) :
    ∃ ua ub, perm_Uses.f a0 l1 l2 l3 t = some ua ∧ perm_Uses.f a0 l1 (l2 ++ [r]) l3 t = some ub ∧ perm_Subset.f ua ub = some true ∧ (¬ r.f1 = t → ¬ r.f2 = t → ua = ub) := by
  unfold perm_Uses.f
  by_cases h : 0 ≤ t ∧ t < (l1.length : Int)
  · have hf : Fits (usesOf l1 l2 t) := fits_uses l1 t l2 _ (fits_bits _ _ _)
    have e : usesOf l1 (l2 ++ [r]) t = useRule t (usesOf l1 l2 t) r := by
      unfold usesOf
      rw [List.foldl_append]
      rfl
    refine ⟨_, _, if_pos h, if_pos h, ?_, ?_⟩
    · rw [e]; exact Sub.said hf (useRule_sub t _ r hf)
    · intro h1 h2; rw [e, useRule_same t _ r hf h1 h2]
  · exact ⟨_, _, if_neg h, if_neg h, by decide +kernel, fun _ _ => rfl⟩
theorem adds_eq (k : Nat) (a0 : ByteArray) (l1 : List S59) (l2 : List S55) (l3 : List S33) (n0 n1 n2 t : Int) (few : Bool) (hF : custodyref14_Few.f k a0 l1 l2 l3 = some few) (hl : few = true → l2.length ≤ 100) (hk : 1001 ≤ k) :
    custodylaw14_PermRulesAddUses.f k a0 l1 l2 l3 n0 n1 n2 t = some true := by
  unfold custodylaw14_PermRulesAddUses.f
  rw [show sanityX.f = some true from rfl, Option.bind_some, hF, Option.bind_some]
  cases few with
  | false => rw [if_neg (by simp)]
  | true =>
    have hl := hl rfl
    obtain ⟨ua, ub, h1, h2, h3, h4⟩ := uses_more a0 l1 l2 l3 t ⟨n0, n1, n2⟩
    have hm := may_eq n0 n1 n2 a0 l1 (l2 ++ [⟨n0, n1, n2⟩]) l3 (k := k) (by rw [List.length_append]; simp only [List.length_cons, List.length_nil]; omega) hk
    have ha : (l2 ++ [(⟨n0, n1, n2⟩ : S55)]).any (mayIs n0 n1 n2) = true := (any_mem_iff n0 n1 n2 _).2 (by simp)
    rw [ha] at hm
    rw [if_pos rfl, Option.bind_some, if_pos (by simp only [List.length_nil]; omega), Option.bind_some, Option.bind_some, if_pos (by simp only [List.length_append, List.length_cons, List.length_nil]; omega), Option.bind_some, h1, Option.bind_some]
    rw [List.nil_append, h2, Option.bind_some, if_pos rfl, h3, Option.bind_some, if_pos rfl, hm]
    by_cases e1 : n1 = t
    · rw [if_pos e1]; rfl
    · rw [if_neg e1]
      by_cases e2 : n2 = t
      · rw [if_pos e2]; rfl
      · rw [if_neg e2, if_pos (h4 e1 e2)]; rfl
end Go.Proofs.YthldfkjnjcagjaaDoor.P
namespace Go.Proofs.YthldfkjnjcagjaaDoor.Pure
open Go.RowKit Go.Proofs.YthldfkjnjcagjaaDoor.P Go.Proofs.YthldfkjnjcagjaaDoorW.PrintWords Go.Proofs.YthldfkjnjcagjaaDoorW.PrintLast Go.Proofs.YthldfkjnjcagjaaDoorW.PrintMore
theorem PermRulesAddUses (a0 : ByteArray) (l1 : List S59) (l2 : List S55) (l3 : List S33) (_k1 : ∀ x ∈ l1, ok59 x) (_k2 : ∀ x ∈ l2, ok55 x) (_k3 : ∀ x ∈ l3, ok33 x) (n0 n1 n2 : Int) (_w0 : wf n0) (_w1 : wf n1) (_w2 : wf n2) (t : Int) (_wt : (Lit.int .i64 t).wf = true) :
    ∃ (k : Nat) (few : Bool), custodyref14_Few.f k a0 l1 l2 l3 = some few ∧ custodylaw14_PermRulesAddUses.f k a0 l1 l2 l3 n0 n1 n2 t = some true := by
  obtain ⟨b, hb, hb2⟩ := few_eq (k := 10000) (by omega) a0 l1 l2 l3
  exact ⟨10000, b, hb, adds_eq 10000 a0 l1 l2 l3 n0 n1 n2 t b hb (fun h => (hb2 h).2.1) (by omega)⟩
end Go.Proofs.YthldfkjnjcagjaaDoor.Pure
